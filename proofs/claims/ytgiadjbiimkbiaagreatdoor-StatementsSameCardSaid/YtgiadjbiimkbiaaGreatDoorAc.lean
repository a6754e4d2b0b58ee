/-
  Texts of this proof, joined: SnH, SnI, BmJ, SnJ, SnK, SnL, SnM, SnN, SoA, SoB, SoC, SoD, SoE, SoF, SoG, SoH, SoI, SoJ, SoK.
  Conditions: none.
-/
import Derived.Test.YtgiadjbiimkbiaaGreatDoorAb
import Derived.Laws.EntriesVeiled
import Derived.WalkSmall
set_option linter.unusedSimpArgs false
set_option linter.unnecessarySimpa false
set_option linter.unusedVariables false
open Array renaming getD_eq_getD_getElem?->Ku,getElem?_push->VQ,getElem?_eq_some_iff->VS,replicate->Jv,getElem?_append->Jw
open List renaming size_toArray->KD,length_cons->KY,length_nil->JN,nil_append->Je,cons_append->Kh,mem_cons_self->Jf,mem_cons_of_mem->Jg,eq_nil_of_length_eq_zero->Kg,mem_map->JP,mem_cons->KX,getD->Ko,getElem?_cons_zero->Kz,getElem?_cons_succ->KN,take_succ_cons->Ki,drop_succ_cons->Vw,map_cons->Ke,map_nil->Vj,set_cons_zero->VZ,set_cons_succ->Kj,getD_cons_zero->VJ,take_zero->V4,getD_cons_succ->Kn,map_eq_nil_iff->VD,length_map->Jo,drop_zero->Vm,drop_eq_getElem_cons->J9,any_cons->V6,getElem?_eq_getElem->JH,getElem_mem->VA,drop_of_length_le->V8,map_append->Vr,find?_cons->V9,append_assoc->Ja,length_append->Jc,append_nil->Jz,length_pos_iff->Bc,mem_append->JR,flatten_append->Vt,getElem?_eq_some_iff->Jy,pairwise_iff_getElem->Bj,mem_singleton->VM,pairwise_append->Bl,getElem_set->Bn,pairwise_cons->Bo,mem_map_of_mem->Bp,drop_length->J8,length_singleton->JA,getLastD_eq_getLast?->Bu
open Nat renaming le_refl->KM,eq_zero_or_pos->VT,le_trans->Vd,add_zero->K7,zero_le->Jr,zero_add->Jq,le_of_ble_eq_true->VF,mul_one->V5,lt_or_ge->KU,zero_mul->K8,mul_div_cancel->Vl,pos_of_ne_zero->Vk,le_of_lt->Bz
open Go.AM.PMap renaming le_trans->Vb
open Bool renaming and_eq_true->Ky,and_true->J4,or_eq_true->JF,not_eq_true'->Ji,and_eq_false_iff->VO,or_eq_false_iff->VL,not_eq_false'->VK,false_or->V7,true_and->VP,and_eq_false_imp->Bb,not_false->Bd,not_true->Be,and_false->Bf,not_eq_true->Br
open Go.AM.Slots renaming put->VG,get->VH,keep->VI
open Go.AM.AHeap renaming set_none->VU,ne_some->VW,set_set->VX,set_ne->Vf,set_same->Vg,del->Bi
open Go.AM.Sub renaming none->VV,set->Vi,refl->Vh,trans->Ba
open Go.AM.AVal renaming cells->VY
open Int renaming toNat_natCast->VN,toNat_zero->Bg
open Go.AM.IsL renaming own->Bh
open Go.AM.Awp renaming forget->Bq,keep->Bt
open Go.Stm.BodyR renaming bare->Bv
namespace Go.Proofs.YtgiadjbiimkbiaaGreatDoor
open Go.AM
open Go.Proofs
open Go.Col (Str FaultC okF)
open Go.Tok (TokC)
open Go.Stm
open Go.RowKit
open Go.Shelf
set_option maxRecDepth 100000
attribute [local go_sem] Oper.semAt_some
structure SpJ(W0:World)(bS:Nat)(rec:LoopState->Option Code->Loop)(r:Str)(W:World):Prop where
 os:W.os=W0.os
 tape:W.tape=W0.tape
 output:W.output=W0.output
 size:W0.heap.size+2<=W.heap.size
 block:∀k,k<W0.heap.size->k≠bS->W.heap[k]?=W0.heap[k]?
 cell:W.heap[bS]?=some (.cells #[.string ⟨⟨r⟩⟩] 9 (0,0))
 recd:W.heap[W0.heap.size+1]?=some (.loop (rec .ready none))
 dfr:W.heap[W0.heap.size]?=some (.deferred (some []))
theorem heap_setCell_same(W:World)(b:Nat)(c v:Value)(t:TypeId)(h:W.heap[b]?=some (.cells #[c] t (0,0))):(W.setCell ⟨b,0,none⟩ v).heap[b]?=some (.cells #[v] t (0,0)):=by
 simp only[World.setCell,Array.getElem?_modify,if_true,h];rfl
theorem cell_of_one{W:World}{b:Nat}{c:Value}{t:TypeId}(h:W.heap[b]?=some (.cells #[c] t (0,0))):W.cell? ⟨b,0,none⟩=some c/\W.frozen? ⟨b,0,none⟩=false:=by
 constructor
 ·simp[World.cell?,h]
 ·simp[World.frozen?,h]
theorem qiG{w V:World}{B:Nat}{s:Str}{n:Nat}{T:Array Value}(HB:Hid (B=w.heap.size))(h1:V.heap[B+1]?=some (.cells #[.string ⟨⟨s⟩⟩] 9 (0,0)))(h2:V.heap[B+2]?=some (.cells #[.int .i64 n] 3 (0,0)))
 (hD:V.heap[B+7]?=some (.deferred (some []))) (hB:Below B w V) (t4:T.getD 4 undef= .pointer (some ⟨B+1,0,none⟩):=by rfl) (t5:T.getD 5 undef= .pointer (some ⟨B+2,0,none⟩):=by rfl):
 bodyPostM Fence.wide 0 Tryz.prog Tryz.f72 (fun e w'=>e= .returned (.tuple #[.string ⟨⟨s⟩⟩, .int .i64 n])/\Below w.heap.size w w') .ret {tmps:=T,defers:=[{target:= .collected (B+7),args:= #[]}]} V:=by
 refine⟨by simp, .inl ⟨_,_,rfl,run_takeDeferred hD,?_⟩⟩;obtain⟨c1,-⟩:=cell_of_one ((World.putObj_heap_other (o:= .deferred none) (show B+1≠B+7 by omega)).trans h1);obtain⟨c2,-⟩:=cell_of_one ((World.putObj_heap_other (o:= .deferred none) (show B+2≠B+7 by omega)).trans h2);have hB':=HB.out;refine⟨.tuple #[.string ⟨⟨s⟩⟩, .int .i64 n],?_,rfl,?_⟩
 ·rw[Ku]at t4 t5
  simp[results,Tryz.f72,go_sem,c1,c2,t4,t5]
 ·rw[<-hB']
  exact⟨hB.os,hB.tape,hB.output,by rw[World.putObj_size];exact hB.size,fun k hk=>(World.putObj_heap_other (by omega)).trans (hB.block k hk)⟩
theorem k_stands(w:World)(ha:Asp w)(bp op:Nat)(vl:Value)(at_:Nat)(l:List TokC)(hP:PAt w bp op vl at_ l)(forms:Str)(hl:l.length<=1000000)(hat:at_<=l.length)(hf:forms.length<=1000000)(hfa:asciiB forms=true):
 Calls Tryz.prog 72 #[.pointer (some ⟨bp,op,none⟩), .string ⟨⟨forms⟩⟩] w fun e w'=>e= .returned (.tuple #[.string ⟨⟨(QZ l at_ forms).1⟩⟩, .int .i64 (QZ l at_ forms).2])/\Below w.heap.size w w':=by
 refine(callsIn_wide (n:=0)).1 ?_;refine callsIn_of_wp_marks Tryz.func72 rfl trivial ?_ rfl;simp only[Tryz.ntmps72,KD,KY,JN,Nat.reduceAdd,Nat.reduceSub,Array.replicate_succ,Array.replicate_zero,List.push_toArray,List.append_toArray,Je,Kh];have hsp:=qoZ ⟨⟨forms⟩⟩
 gi_wp2_with (refine⟨trivial,rfl,?_⟩;gi_at_call 98;refine(callsIn_wide.2 (hsp _)).mono ?_;rintro e' w' ⟨rfl,hw'⟩;subst hw')
 obtain⟨W0,hW0⟩:∃W0,(((((((w.alloc (Obj.cells #[Value.pointer (some ⟨bp,op,none⟩)] 94)).alloc (Obj.cells #[Value.string ⟨#[]⟩] 9)).alloc (Obj.cells #[Value.int IntKind.i64 0] 3)).alloc
  (Obj.cells #[Value.func (Fn.func 97) #[] #[Value.pointer (some ⟨w.heap.size,0,none⟩)]] 185)).alloc (Obj.cells #[Value.string ⟨⟨forms⟩⟩] 9)).alloc (Obj.cells #[Value.string ⟨#[59]⟩] 9)).alloc (Obj.cells #[Value.int IntKind.i64 0] 3))=W0:=⟨_,rfl⟩
 obtain⟨B,hB⟩:∃B,B=w.heap.size:=⟨_,rfl⟩
 have z:W0.heap.size=B+7/\Below B w W0/\W0.heap[B]?=some (.cells #[.pointer (some ⟨bp,op,none⟩)] 94 (0,0))/\W0.heap[B+1]?=some (.cells #[.string ⟨#[]⟩] 9 (0,0))/\W0.heap[B+2]?=some (.cells #[.int .i64 0] 3 (0,0))/\
  W0.heap[B+3]?=some (.cells #[.func (.func 97) #[] #[.pointer (some ⟨B,0,none⟩)]] 185 (0,0))/\W0.heap[B+4]?=some (.cells #[.string ⟨⟨forms⟩⟩] 9 (0,0))/\W0.heap[B+5]?=some (.cells #[.string ⟨#[59]⟩] 9 (0,0))/\W0.heap[B+6]?=some (.cells #[.int .i64 0] 3 (0,0)):=by
  subst hW0 hB;have hp:∀(A:World) (o:Obj) (k:Nat),(A.alloc o).heap[k]?=if k=A.heap.size then some o else A.heap[k]?:=fun A o k=>by
   show(A.heap.push o)[k]?=_
   rw[VQ]
  refine⟨by simp,?_,?_,?_,?_,?_,?_,?_,?_⟩
  ·repeat (first|exact Below.refl _ _|refine Below.alloc ?_ (by first|exact KM _|(simp only[World.size_alloc];omega)) _)
  all_goals (simp only[hp,World.size_alloc];repeat (first|rfl|rw[if_pos (by omega)]|rw[if_neg (by omega)]))
 rw[hW0];clear hW0 hsp;obtain⟨z0,zb,z1,z2,z3,z4,z5,z6,z7⟩:=z;simp only[<-hB,Nat.add_assoc,Nat.reduceAdd];have HB:Hid (B=w.heap.size):=hB;clear hB;refine wpIn_rangeFunc ?_;intro fn hfn;have eg:∀args w,(callFunc 122 args).run Tryz.prog w= .ok (.enter 122 args) w:=enters_of Tryz.func122 (by kernel_rfl) rfl;generalize hT:(#[Value.pointer (some ⟨bp,op,none⟩),Value.string ⟨⟨forms⟩⟩,Value.pointer (some ⟨B,0,none⟩),undef,Value.pointer (some ⟨B+1,0,none⟩),Value.pointer (some ⟨B+2,0,none⟩),Value.pointer (some ⟨B+3,0,none⟩),undef,undef,
  Value.func (Fn.func 97) #[] #[Value.pointer (some ⟨B,0,none⟩)],Value.string ⟨⟨forms⟩⟩,Value.func (Fn.func 122) #[] #[Value.pointer (some ⟨B+5,0,none⟩),Value.pointer (some ⟨B+4,0,none⟩),Value.pointer (some ⟨B+6,0,none⟩)],
  undef,undef,undef,undef,undef,undef,undef,undef,undef]:Array Value)=T
 generalize hA:Code.region 3 _ false=assign;generalize hC:Code.block 1 _=body;obtain⟨rec,hrec⟩:∃rec:LoopState->Option Code->Loop,rec=fun st pe=>{state:=st,pending:=pe,fn,tmps:=T,params:= #[12],assign,body,defers:=W0.heap.size}:=⟨_,rfl⟩
 obtain⟨W1,hW1⟩:∃W1,(W0.alloc (.deferred (some []))).alloc (.loop (rec .ready none))=W1:=⟨_,rfl⟩
 refine⟨W0.heap.size+1,[{target:= .collected W0.heap.size,args:= #[]}],W1,{target:= .fn (.func 122) #[Value.pointer (some ⟨B+5,0,none⟩),Value.pointer (some ⟨B+4,0,none⟩),Value.pointer (some ⟨B+6,0,none⟩)],args:= #[.func (.yield (W0.heap.size+1)) #[] #[]]},W1,122,
  #[.func (.yield (W0.heap.size+1)) #[] #[],Value.pointer (some ⟨B+5,0,none⟩),Value.pointer (some ⟨B+4,0,none⟩),Value.pointer (some ⟨B+6,0,none⟩)],W1,?_,?_,?_,?_,(fun h=>by simp[Fence.wide]at h),?_⟩
 ·rw[<-hW1,hrec];exact run_enterLoop_outer _ _ _ _ _
 ·subst hT
  simp only[resolve];simp[go_sem]
 ·intro f' hf';trivial
 ·simp[invoke,go_sem,eg]
 have hJ0:SpJ W0 (B+4) rec forms W1:=by
  have hp:∀(A:World) (o:Obj) (k:Nat),(A.alloc o).heap[k]?=if k=A.heap.size then some o else A.heap[k]?:=fun A o k=>by
   show(A.heap.push o)[k]?=_
   rw[VQ]
  subst hW1;refine⟨rfl,rfl,rfl,by simp,fun k hk _=>?_,?_,?_,?_⟩
  ·rw[hp,hp,if_neg (by simp only[World.size_alloc];omega),if_neg (by omega)]
  ·rw[hp,hp,if_neg (by simp only[World.size_alloc];omega),if_neg (by omega)];exact z5
  ·rw[hp,if_pos (by simp only[World.size_alloc])]
  ·rw[hp,hp,if_neg (by simp only[World.size_alloc];omega),if_pos rfl]
 refine(split_in (W0.heap.size+1) (B+4) (B+5) (B+6) (SpJ W0 (B+4) rec) (fun p W=>Below B w W/\W.heap[B+1]?=some (.cells #[.string ⟨⟨qbY p⟩⟩] 9 (0,0))/\W.heap[B+2]?=some (.cells #[.int .i64 (qae l at_ p)] 3 (0,0))/\
  W.heap[W0.heap.size+1]?=some (.loop (rec .done (some .ret)))/\W.heap[W0.heap.size]?=some (.deferred (some []))) (fun p=>decide (0<qae l at_ p)) ?_ ?_ forms hf ?_ W1 hJ0).mono ?_
 ·intro r W hJ
  have g5:=hJ.block (B+5) (by omega) (by omega);have g6:=hJ.block (B+6) (by omega) (by omega);rw[z6]at g5;rw[z7]at g6;exact⟨(cell_of_one hJ.cell).1,(cell_of_one hJ.cell).2,(cell_of_one g5).1,(cell_of_one g6).1⟩
 ·intro r r' W hJ
  refine⟨hJ.os,hJ.tape,hJ.output,by rw[World.size_setCell];exact hJ.size,fun k hk hne=>?_,heap_setCell_same W (B+4) _ _ _ hJ.cell,?_,?_⟩
  ·rw[Below.heap_setCell _ _ _ _ hne];exact hJ.block k hk hne
  ·rw[Below.heap_setCell _ _ _ _ (show W0.heap.size+1≠B+4 by omega)];exact hJ.recd
  ·rw[Below.heap_setCell _ _ _ _ (show W0.heap.size≠B+4 by omega)];exact hJ.dfr
 ·intro r p W hJ hp
  have hpl:=(qiK p hp).1;have hpa:=qmS hfa p hp;have hy:=run_yield (P:=Tryz.prog) (args:= #[.string ⟨⟨p⟩⟩]) hJ.recd (by rw[hrec];rfl);have hyf:(rec .ready none).fn=fn/\(rec .ready none).assign=assign/\(rec .ready none).body=body/\(rec .ready none).state= .ready/\(rec .ready none).tmps=T/\(rec .ready none).params= #[12]:=by rw[hrec];exact⟨rfl,rfl,rfl,rfl,rfl,rfl⟩
  obtain⟨y1,y2,y3,y4,y5,y6⟩:=hyf;rw[y1,y2,y3,y5,y6]at hy;refine⟨fn,_,assign,body,hy,roundIn_of_wpIn trivial ?_⟩;clear hy;subst hA;subst hT
  gi_wp2
  refine⟨_,run_beginRound hJ.recd y4,?_⟩;obtain⟨Wb,hWb⟩:∃Wb,W.putObj (W0.heap.size+1) (.loop {rec .ready none with state:= .busy})=Wb:=⟨_,rfl⟩
  rw[hWb];have hlt:W0.heap.size+1<W.heap.size:=(VS.1 hJ.recd).1;have u1:Wb.heap[W0.heap.size+1]?=some (.loop {rec .ready none with state:= .busy}):=by rw[<-hWb];exact World.putObj_heap_same hlt
  have u2:∀k,k≠W0.heap.size+1->Wb.heap[k]?=W.heap[k]?:=fun k hk=>by rw[<-hWb];exact World.putObj_heap_other hk
  have u3:∀k,k<B+7->k≠B+4->Wb.heap[k]?=W0.heap[k]?:=fun k hk hne=>by rw[u2 k (by omega)];exact hJ.block k (by omega) hne
  have u4:Wb.heap.size=W.heap.size:=by rw[<-hWb];simp
  have u5:Below B w Wb:=⟨by rw[<-hWb];exact hJ.os.trans zb.os,by rw[<-hWb];exact hJ.tape.trans zb.tape,by rw[<-hWb];exact hJ.output.trans zb.output,by have:=zb.size;have:=hJ.size;omega,fun k hk=>by rw[u3 k (by omega) (by omega)];exact zb.block k hk⟩
  have haW:Asp Wb:=by have hB:=HB.out;subst hB;exact ha.later u5
  have hPW:PAt Wb bp op vl at_ l:=by have hB:=HB.out;subst hB;exact hP.below u5
  have v0:=cell_of_one ((u3 B (by omega) (by omega)).trans z1);have v3:=cell_of_one ((u3 (B+3) (by omega) (by omega)).trans z4);have hft:=k_fits Wb haW B bp op vl at_ l hPW v0.1 p hl hat (by omega) hpa;have HC:Hid (∀A,Asp A->Calls Tryz.prog 99 #[.string ⟨⟨p⟩⟩] A fun e w'=>e= .returned (.string ⟨⟨qbY p⟩⟩)/\Below A.heap.size A w'):=fun A hA=>k_canon A hA p (by omega) hpa;obtain⟨c3,-⟩:=v3;subst hC;have fin:∀(jump:Option Code) (V:World),Below Wb.heap.size Wb V\/(V.heap[W0.heap.size+1]?=Wb.heap[W0.heap.size+1]?/\V.heap[W0.heap.size]?=Wb.heap[W0.heap.size]?)->
   (Instr.endRound (W0.heap.size+1) jump).run Tryz.prog V= .ok (.bool jump.isNone) (V.putObj (W0.heap.size+1) (.loop (rec (if jump.isNone then .ready else .done) jump)))/\
   (V.putObj (W0.heap.size+1) (.loop (rec (if jump.isNone then .ready else .done) jump))).heap[W0.heap.size+1]?=some (.loop (rec (if jump.isNone then .ready else .done) jump))/\
   (V.putObj (W0.heap.size+1) (.loop (rec (if jump.isNone then .ready else .done) jump))).heap[W0.heap.size]?=some (.deferred (some [])):=fun jump V hV=>by
   have hv1:V.heap[W0.heap.size+1]?=some (.loop {rec .ready none with state:= .busy}):=by
    rcases hV with hV|⟨hV,-⟩
    ·rw[hV.block _ (by omega)];exact u1
    ·rw[hV];exact u1
   have hv2:V.heap[W0.heap.size]?=some (.deferred (some [])):=by
    rcases hV with hV|⟨-,hV⟩
    ·rw[hV.block _ (by omega),u2 _ (by omega)];exact hJ.dfr
    ·rw[hV,u2 _ (by omega)];exact hJ.dfr
   have:=run_endRound (P:=Tryz.prog) jump hv1;refine⟨?_,World.putObj_heap_same (VS.1 hv1).1,(World.putObj_heap_other (by omega)).trans hv2⟩;rw[this,hrec]
  have HF:Hid _:=fin;clear fin;rcases VT (qae l at_ p)with hz|hz
  ·gi_wp2_with (refine⟨trivial,rfl,?_⟩;gi_at_call 97;refine(CallsIn.inRound _ (callsIn_wide.2 hft)).mono ?_;rintro e' V ⟨rfl,hV⟩)
   obtain⟨f1,f2,f3⟩:=HF.out none V (.inl hV);refine⟨_,_,f1, .inl ⟨by simp[hz],rfl,?_⟩⟩;have g0:∀k,k<Wb.heap.size->k≠W0.heap.size+1->(V.putObj (W0.heap.size+1) (.loop (rec (if (none:Option Code).isNone then .ready else .done) none))).heap[k]?=Wb.heap[k]?:=fun k hk hne=>by
    rw[World.putObj_heap_other hne,hV.block k hk]
   refine⟨?_,?_,?_,?_,fun k hk hne=>?_,?_,f2,f3⟩
   ·show V.os=W0.os;rw[hV.os,<-hWb];exact hJ.os
   ·show V.tape=W0.tape;rw[hV.tape,<-hWb];exact hJ.tape
   ·show V.output=W0.output;rw[hV.output,<-hWb];exact hJ.output
   ·rw[World.putObj_size];have:=hV.size;have:=hJ.size;omega
   ·rw[g0 k (by omega) (by omega)];exact u3 k (by omega) hne
   ·rw[g0 _ (by omega) (by omega),u2 _ (by omega)];exact hJ.cell
  ·have hz':decide (0<qae l at_ p)=true:=by simp[hz]
   have m1:=(u3 (B+1) (by omega) (by omega)).trans z2;have m2:=(u3 (B+2) (by omega) (by omega)).trans z3;have HA:Hid (Asp Wb):=haW;have HZ:Hid (B+7+2<=Wb.heap.size):=by have:=hJ.size;unfold Hid;omega
   clear haW hPW
   gi_wp2_with (refine⟨trivial,rfl,?_⟩;gi_at_call 97;refine(CallsIn.inRound _ (callsIn_wide.2 hft)).mono ?_;rintro e' V ⟨rfl,hV⟩)
   refine⟨trivial,rfl,(CallsIn.inRound _ (callsIn_wide.2 (HC.out V (HA.out.later hV)))).mono ?_⟩;rintro e' V2 ⟨rfl,hV2⟩;have hVV:Below Wb.heap.size Wb V2:=hV.trans (hV2.mono hV.size);have hz2:=HZ.out;have n1:=(hVV.block (B+1) (by omega)).trans m1;have n2:=(hVV.block (B+2) (by omega)).trans m2;obtain⟨n1c,n1f⟩:=cell_of_one n1;obtain⟨n2c,n2f⟩:=cell_of_one n2;clear hz2
   gi_wp2
   obtain⟨V3,hV3⟩:∃V3,(V2.setCell ⟨B+1,0,none⟩ (Value.string ⟨⟨qbY p⟩⟩)).setCell ⟨B+2,0,none⟩ (Value.int .i64 (qae l at_ p))=V3:=⟨_,rfl⟩
   rw[hV3];have hz2:=HZ.out;have q0:∀k,k≠B+1->k≠B+2->k<Wb.heap.size->V3.heap[k]?=Wb.heap[k]?:=fun k k1 k2 k3=>by
    rw[<-hV3,Below.heap_setCell _ _ _ _ k2,Below.heap_setCell _ _ _ _ k1,hVV.block k k3]
   obtain⟨f1,f2,f3⟩:=HF.out (some .ret) V3 (.inr ⟨q0 _ (by omega) (by omega) (by omega),q0 _ (by omega) (by omega) (by omega)⟩);refine⟨_,_,f1, .inr ⟨hz',rfl,?_,?_,?_,f2,f3⟩⟩
   ·refine⟨?_,?_,?_,?_,fun k hk=>?_⟩
    ·show V3.os=w.os;rw[<-hV3];exact hVV.os.trans u5.os
    ·show V3.tape=w.tape;rw[<-hV3];exact hVV.tape.trans u5.tape
    ·show V3.output=w.output;rw[<-hV3];exact hVV.output.trans u5.output
    ·rw[World.putObj_size,<-hV3,World.size_setCell,World.size_setCell];exact Vd u5.size hVV.size
    ·rw[World.putObj_heap_other (by omega),q0 k (by omega) (by omega) (by omega)];exact u5.block k hk
   ·rw[World.putObj_heap_other (by omega),<-hV3,Below.heap_setCell _ _ _ _ (show B+1≠B+2 by omega)]
    exact heap_setCell_same V2 _ _ _ _ n1
   ·rw[World.putObj_heap_other (by omega),<-hV3]
    refine heap_setCell_same _ _ (.int .i64 0) _ _ ?_;rw[Below.heap_setCell _ _ _ _ (show B+2≠B+1 by omega)];exact n2
 ·rintro e W2 ⟨⟨v,rfl⟩,h⟩
  have pend:∀st j,(rec st j).pending=j:=fun st j=>by rw[hrec]
  have stat:∀st j,(rec st j).state=st:=fun st j=>by rw[hrec]
  have out:∀(st:LoopState) (j:Option Code),st≠ .busy->W2.heap[W0.heap.size+1]?=some (.loop (rec st j))->∃V,(Instr.endLoop (W0.heap.size+1)).run Tryz.prog W2= .ok j V/\(∀k,k≠W0.heap.size+1->V.heap[k]?=W2.heap[k]?)/\V.os=W2.os/\V.tape=W2.tape/\V.output=W2.output/\V.heap.size=W2.heap.size:=fun st j hst hl=>by
   refine⟨_,(run_endLoop (P:=Tryz.prog) hl (by rw[stat];exact hst)).trans (by rw[pend]),fun k hk=>World.putObj_heap_other hk,rfl,rfl,rfl,by simp⟩
  clear hrec pend stat hJ0 hW1;subst hT;rcases h with⟨r,hJ,hfd⟩|⟨p,⟨j1,j2,j3,j4,j5⟩,hfd⟩
  ·have hst:QZ l at_ forms=([],0):=by unfold QZ;rw[hfd]
   obtain⟨V,e1,e2,e3,e4,e5,e6⟩:=out .ready none (by simp) hJ.recd;refine⟨none,V,e1,?_⟩;have i1:V.heap[B+1]?=some (.cells #[.string ⟨#[]⟩] 9 (0,0)):=by rw[e2 _ (by omega),hJ.block _ (by omega) (by omega)];exact z2
   have i2:V.heap[B+2]?=some (.cells #[.int .i64 0] 3 (0,0)):=by rw[e2 _ (by omega),hJ.block _ (by omega) (by omega)];exact z3
   have iD:V.heap[W0.heap.size]?=some (.deferred (some [])):=by rw[e2 _ (by omega)];exact hJ.dfr
   have iB:Below B w V:=⟨by rw[e3,hJ.os];exact zb.os,by rw[e4,hJ.tape];exact zb.tape,by rw[e5,hJ.output];exact zb.output,by have:=zb.size;have:=hJ.size;omega,fun k hk=>by rw[e2 k (by omega),hJ.block k (by omega) (by omega)];exact zb.block k hk⟩
   obtain⟨i1c,i1f⟩:=cell_of_one i1;obtain⟨i2c,i2f⟩:=cell_of_one i2;clear out hJ e1 e2 e3 e4 e5 e6
   gi_wp2
   obtain⟨V2,hV2⟩:∃V2,(V.setCell ⟨B+1,0,none⟩ (Value.string ⟨#[]⟩)).setCell ⟨B+2,0,none⟩ (Value.int .i64 0)=V2:=⟨_,rfl⟩
   rw[hV2];have q1:V2.heap[B+1]?=some (.cells #[.string ⟨#[]⟩] 9 (0,0)):=by
    rw[<-hV2,Below.heap_setCell _ _ _ _ (show B+1≠B+2 by omega)];exact heap_setCell_same V _ _ _ _ i1
   have q2:V2.heap[B+2]?=some (.cells #[.int .i64 0] 3 (0,0)):=by
    rw[<-hV2];refine heap_setCell_same _ _ (.int .i64 0) _ _ ?_;rw[Below.heap_setCell _ _ _ _ (show B+2≠B+1 by omega)];exact i2
   have qD:V2.heap[B+7]?=some (.deferred (some [])):=by
    rw[<-hV2,Below.heap_setCell _ _ _ _ (show B+7≠B+2 by omega),Below.heap_setCell _ _ _ _ (show B+7≠B+1 by omega),<-z0];exact iD
   have qB:Below B w V2:=by rw[<-hV2];exact(iB.setCell (p:=⟨B+1,0,none⟩) (by simp) _).setCell (p:=⟨B+2,0,none⟩) (by simp) _
   rw[hst];exact qiG HB q1 q2 qD qB
  ·have hst:QZ l at_ forms=(qbY p,qae l at_ p):=by unfold QZ;rw[hfd]
   obtain⟨V,e1,e2,e3,e4,e5,e6⟩:=out .done (some .ret) (by simp) j4;refine⟨some .ret,V,e1,?_⟩;have iD:V.heap[W0.heap.size]?=some (.deferred (some [])):=by rw[e2 _ (by omega)];exact j5
   have iB:Below B w V:=⟨by rw[e3];exact j1.os,by rw[e4];exact j1.tape,by rw[e5];exact j1.output,by rw[e6];exact j1.size,fun k hk=>by rw[e2 k (by omega)];exact j1.block k hk⟩
   have i1:V.heap[B+1]?=some (.cells #[.string ⟨⟨qbY p⟩⟩] 9 (0,0)):=by rw[e2 _ (by omega)];exact j2
   have i2:V.heap[B+2]?=some (.cells #[.int .i64 (qae l at_ p)] 3 (0,0)):=by rw[e2 _ (by omega)];exact j3
   clear out e1 e2 e3 e4 e5 e6
   gi_wp2
   rw[hst];exact qiG HB i1 i2 (by rw[<-z0];exact iD) iB
end Go.Proofs.YtgiadjbiimkbiaaGreatDoor
namespace Go.Proofs.YtgiadjbiimkbiaaGreatDoor
open Go.AM
open Go.Proofs
open Go.Col (Str FaultC okF)
open Go.Tok (TokC)
open Go.Stm
open Go.RowKit (Below)
set_option maxRecDepth 100000
def qmW:AVal->Bool
 | .bool _=>true
 | .int _ _=>true
 | .str _=>true
 |_=>false
theorem qrW{fi:PMap}{x:AVal}{u:Value}(hr:qmW x=true)(h:VR fi x u):qG u=x:=by
 cases x<;>simp only[qmW,Bool.false_eq_true]at hr<;>simp only[VR]at h<;>subst h<;>rfl
theorem qhw{w:World}{fi:PMap}{b:Nat}:∀{xs:List AVal} {vs:List Value} {o:Nat},VRs fi xs vs->(∀x∈xs,qmW x=true)->(∀j v,vs[j]?=some v->w.cell? ⟨b,o+j,none⟩=some v)->Qd w (fun _=>none) (.base b) o xs.length=xs
 |[],_,_,_,_,_=>rfl
 |x::xs,vs,o,h,hr,hc=>by
  simp only[VRs]at h;obtain⟨v,vs',rfl,h1,h2⟩:=h;simp only[KY,Qd];have h0:=hc 0 v rfl;rw[K7]at h0;rw[qig h0,qrW (hr x Jf) h1,qhw h2 (fun y hy=>hr y (Jg _ hy)) fun j u hj=>by
   have:=hc (j+1) u (by simpa using hj)
   rwa [show o+1+j=o+(j+1) by omega]]
theorem qpb{wz w:World}{fi:PMap}{h:AHeap}{es:Nat}{v:AVal}{vl:Value}{xs:List (List AVal)}(hr:HRel wz fi h w)(hv:IsL wz h es v xs)(hx:VR fi v vl)(hg:∀x∈xs.flatten,qmW x=true):IsL w (fun _=>none) es (qG vl) xs:=by
 cases hv with
 |nil=>simp only[VR]at hx;subst hx;exact .nil
 |mk l o n c xs hn hw hc hl hcap=>
  obtain⟨ad,cap,rfl,had⟩:=ZR hx;have hcp:n<=cap:=by
   cases c with
   |exact c=>
    simp only[VR]at hx;obtain⟨a',e1,_⟩:=hx;cases e1;exact hcap
   |grow es=>
    simp only[VR]at hx;obtain⟨k,p,c',a',_,_,e1,hle,_⟩:=hx;cases e1;exact hle
  by_cases h0:n=0
  ·subst h0
   have hxs:xs=[]:=Kg hn.symm;subst hxs;have hsp:cap≠0->ad.spot=none:=fun hc0=>by
    cases c with
    |exact c=>
     simp only[VR]at hx;obtain⟨a',e1,e2⟩:=hx;cases e1;rw[qaT (e2 (.inl hc0))]
    |grow es=>
     simp only[VR]at hx;obtain⟨k,p,c',a',_,_,e1,_,e2⟩:=hx;cases e1;rw[(e2 hc0).1]
   obtain⟨b,of,sp⟩:=ad;have e:qG (.slice (some ⟨b,of,sp⟩) 0 cap)= .slice (.base b) of 0 (.exact cap):=by
    cases sp with
    |none=>rfl
    |some s=>
     by_cases hc0:cap=0
     ·subst hc0;rfl
     ·exact absurd (hsp hc0) (by simp)
   rw[e];exact .mk _ _ _ _ _ rfl (fun x hx=>by cases hx) (by simp[Qd]) rfl (Jr _)
  ·have ha:=had h0
   obtain⟨vs,e1,e2,e3⟩:=qcZ hr l (n*es) o ad ha (by rw[hc];exact hl);rw[hc]at e2;have hsp:=qaT ha;have hlen:xs.flatten.length=n*es:=by rw[XT hw,hn]
   have:=qhw (w:=w) (b:=ad.block) (o:=ad.off) e2 hg fun j u hj=>by
    have:=e3 j u hj;rw[hsp]at this;by_cases hj0:j=0
    ·subst hj0;simpa[Addr.add]using this
    ·simpa[Addr.add,hj0]using this
   rw[hlen]at this;obtain⟨b,of,sp⟩:=ad;simp only[Addr.mk.injEq,Kb]at hsp;subst hsp;exact .mk _ _ _ _ _ hn hw this hl hcp
theorem qrR(l:List TokC):∀x∈(l.map Xy).flatten,qmW x=true:=by
 intro x hx;obtain⟨y,hy,hm⟩:=List.mem_flatten.1 hx;obtain⟨t,_,rfl⟩:=JP.1 hy;simp only[Xy,KX,List.not_mem_nil,or_false]at hm;rcases hm with rfl|rfl|rfl|rfl|rfl<;>rfl
theorem qdM(wz:World)(ha:Asp wz)(h:AHeap)(lp:AM.Loc)(op:Nat)(v:AVal)(l:List TokC)(at_:Nat)(forms:Str)(h0:rd wz h lp op=v)(h1:rd wz h lp (op+1)= .int .i64 at_)(hv:IsL wz h 5 v (l.map Xy))
 (hl:l.length<=1000000) (hat:at_<=l.length) (hf:forms.length<=1000000) (hfa:asciiB forms=true):
 ACall Tryz.prog wz 72 [.ptr lp op, .str forms] h (fun r h'=>r= .tuple [.str (QZ l at_ forms).1, .int .i64 (QZ l at_ forms).2]/\h'=h):=by
 intro fi vals w hr hvs;simp only[VRs,VR]at hvs;obtain⟨u,vs',rfl,⟨a,ea,rfl⟩,u2,vs2,rfl,rfl,rfl⟩:=hvs;have hsp:=qaT ea;obtain⟨a0,vl,q1,q2,q3,-⟩:=hr.rd lp op (by rw[h0];exact hv.live);rw[ea]at q1;cases q1;rw[h0]at q3;obtain⟨a1,vl1,r1,r2,r3,-⟩:=hr.rd lp (op+1) (by rw[h1];rfl);rw[ZW ea]at r1;cases r1;rw[h1]at r3;simp only[VR]at r3;subst r3;obtain⟨b,o,sp⟩:=a;simp only[Addr.mk.injEq,Kb]at hsp;subst hsp;have hP:PAt w b o vl at_ l:=⟨q2,by simpa[Addr.add]using r2,qpb hr hv q3 (qrR l)⟩
 exact .inl ⟨_,Tryz.func72,rfl,rfl,(k_stands w (ha.later hr.below) b o vl at_ l hP forms hl hat hf hfa).mono fun e w' ⟨e1,e2⟩=>⟨_,e1,fi,_,h,fi.le_refl,hr.later e2,by simp only[VR,VRs];exact⟨_,rfl,_,_,rfl,rfl,_,_,rfl,rfl,rfl⟩,rfl,rfl⟩⟩
end Go.Proofs.YtgiadjbiimkbiaaGreatDoor
namespace Go.AM
open Go.RowKit (Below)
def ACallE(P:Program)(wz:World)(f:FuncId)(args:List AVal)(h:AHeap)(R Rp:AVal->AHeap->Prop):Prop:=
 ∀(fi:PMap) (vals:List Value) (w:World),HRel wz fi h w->VRs fi args vals->
  ∃fn,P.funcs[f]?=some fn/\(fn.name== "runtime.NumGoroutine")=false/\fn.body.isSome=true/\Calls P f vals.toArray w fun e w'=>
   (∃v,e= .returned v/\∃Ps x h',fi.le Ps/\HRel wz Ps h' w'/\VR Ps x v/\R x h')\/(∃v,e= .panicked [{v,recovered:=false}]/\∃Ps x h',fi.le Ps/\HRel wz Ps h' w'/\VR Ps x v/\Rp x h')
abbrev APanic(P:Program)(wz:World)(f:FuncId)(args:List AVal)(h:AHeap)(Rp:AVal->AHeap->Prop):Prop:=ACallE P wz f args h (fun _ _=>False) Rp
section
variable {P:Program} {wz:World} {f:FuncId} {args:List AVal} {h:AHeap} {R R' Rp Rp':AVal->AHeap->Prop}
theorem ACallE.mono(hc:ACallE P wz f args h R Rp)(hr:∀x h',R x h'->R' x h')(hp:∀x h',Rp x h'->Rp' x h'):ACallE P wz f args h R' Rp':=fun fi vals w h1 h2=>by
 obtain⟨fn,a,b,c,d⟩:=hc fi vals w h1 h2;refine⟨fn,a,b,c,d.mono fun e w' q=>?_⟩;rcases q with⟨v,e1,Ps,x,h',e2,e3,e4,e5⟩|⟨v,e1,Ps,x,h',e2,e3,e4,e5⟩
 ·exact .inl ⟨v,e1,Ps,x,h',e2,e3,e4,hr _ _ e5⟩
 ·exact .inr ⟨v,e1,Ps,x,h',e2,e3,e4,hp _ _ e5⟩
theorem ACallE.ok(hc:ACallE P wz f args h R Rp)(hp:∀x h',¬Rp x h'):ACall P wz f args h R:=fun fi vals w h1 h2=>by
 obtain⟨fn,a,b,c,d⟩:=hc fi vals w h1 h2;refine .inl ⟨fn,a,b,c,d.mono fun e w' q=>?_⟩;rcases q with q|⟨v,e1,Ps,x,h',e2,e3,e4,e5⟩
 ·exact q
 ·exact(hp _ _ e5).elim
theorem ACallE.bad(hc:ACallE P wz f args h R Rp)(hr:∀x h',¬R x h'):APanic P wz f args h Rp:=hc.mono (fun x h' q=>hr x h' q) fun _ _ q=>q
end
def GP(wz:World)(k:Nat)(ds:List Deferred)(s₀:Slots)(Rp:AVal->AHeap->Prop):Exit->PMap->Act->World->Prop:=fun e Ps a w=>
 ∃v,e= .panic [{v,recovered:=false}]/\∃χ x h',Ps.le χ/\HRel wz χ h' w/\VR χ x v/\Rp x h'/\SRel χ ⟨k,ds,fun _ _ _ _=>False⟩ s₀ a
theorem UY{P:Program}{wz:World}{f:FuncId}{args:List AVal}{h:AHeap}{R Rp:AVal->AHeap->Prop}{fn:Func}{c:Code}{rs:List ResultVar}{k:Nat}(hf:P.funcs[f]?=some fn)
 (hname:(fn.name== "runtime.NumGoroutine")=false) (hb:fn.body=some c) (hn:fn.ntmps=k) (hrs:fn.results=rs.toArray) (hargs:args.length<=k)
 (hc:Awp P wz ⟨k,[],GP wz k [] [] Rp⟩ c (qcf P wz rs R) (Qm 0 args) h):ACallE P wz f args h R Rp:=by
 intro fi vals w hr hv;refine⟨fn,hf,hname,by rw[hb];rfl,?_⟩;have hl:=XF hv;refine calls_of_wp hf hb (wp_mono (hc fi _ w hr ⟨?_,rfl,fun i=>?_⟩) fun e a' w' q=>?_)
 ·simp[hn]
  omega
 ·have:=(qav fi args vals 0 i hv).2 undef (Jr i)
  by_cases hi:i<vals.length
  ·have e:(vals.toArray++Jv (fn.ntmps-vals.toArray.size) undef).getD i undef=vals.getD i undef:=by
    simp[Ku,Jw,hi,Ko]
   rw[e];simpa using this
  ·have e:(vals.toArray++Jv (fn.ntmps-vals.toArray.size) undef).getD i undef=undef:=by
    simp[Ku,Jw,hi,Array.getElem?_replicate];split<;>simp
   rw[e];have e2:vals.getD (i-0) undef=undef:=by simp[Ko,List.getElem?_eq_none (Nat.le_of_not_lt hi)]
   rw[e2]at this;exact this
 ·rcases q with⟨Ps,s',h',e1,e2,e3,e4⟩|⟨_,Ps,hl1,v,rfl,χ,x,h',g1,g2,g3,g4,g5⟩
  ·cases e<;>simp only[qcf]at e4<;>first
    |exact e4.elim
    |skip
   all_goals
    obtain⟨hp,h'',hsub,hR⟩:=e4;have hrs':rs=fn.results.toList:=by rw[hrs]
    rw[hrs']at hp hR;obtain⟨v,f1,f2⟩:=qcK e2 e3 fn hp;exact⟨e3.defers,v,f1, .inl ⟨v,rfl,Ps,_,h'',e1,e2.forget hsub,f2,hR⟩⟩
  ·exact⟨g5.defers, .inr ⟨v,rfl,χ,x,h',Vb hl1 g1,g2,g3,g4⟩⟩
section
variable {P:Program} {wz:World} {k:Nat} {ds:List Deferred} {s₀:Slots} {s:Slots} {h:AHeap} {Rp:AVal->AHeap->Prop} {Q:Exit->Slots->AHeap->Prop} {dst:Option Tmp} {ty:TypeId} {pos:String} {af:Array Edge}
theorem dsts_pre:∀(p q:List Oper),QD k (p++q)=true->QD k p=true:=by
 intro p q hp;induction p with
 |nil=>rfl
 |cons o p ih=>
  simp only[Kh,QD,Ky]at hp|-
  exact⟨hp.1,ih hp.2⟩
theorem qlg{n:FrameK}{id:Nat}{l pre post:List Oper}{o:Oper}(hl:l=pre++o::post)(hg:o.guard=none)(hd:QD n l=true)
 (hc:QA P wz l pre s h (fun s' h'=>∀(fi:PMap) (a:Act) (w:World) (nx:Act->World->Prop) (Q':Exit->Act->World->Prop),HRel wz fi h' w->SRel fi n s' a->(∀e a' w',abrupt e->(∃Ps,fi.le Ps/\n.G e Ps a' w')->Q' e a' w')->o.wp P a w nx Q')):
 Awp P wz n (.region id l.toArray false) Q s h:=by
 have hdp:QD n pre=true:=dsts_pre pre _ (hl ▸ hd);intro fi a w hr hs;refine wp_region ?_;rw[KD,List.range_eq_range'];have hlen:l.length=pre.length+(post.length+1):=by rw[hl];simp
 rw[hlen,<-List.range'_append_1];refine qcA (P:=P) (wz:=wz) l n _ hd pre 0 fi s h a w _ _ (fun j hj=>by rw[hl,Jq,List.getElem?_append_left hj]) hdp hc hr hs ?_;intro Ps s' h' a' w' hle hr' hs' hk;have hat:l.toArray[0+pre.length]?=some o:=by
  rw[Jq,hl];simp
 rw[List.range'_succ];simp only[wpOps,hat];rw[if_pos (by simp[Region.wanted,hg])];refine .inl ?_;exact hk Ps a' w' _ _ hr' hs' fun e a'' w'' he ⟨χ,h1,h2⟩=> .inr ⟨he,χ,Vb hle h1,h2⟩
theorem qpB{id:Nat}{l pre post:List Oper}{fo:Operand}{args:Array Operand}{ts:Array TypeId}(hl:l=pre++⟨dst, .call ⟨.value fo,args,ts⟩,ty,pos,af,none⟩::post)(hd:QD k l=true)
 (hc:QA P wz l pre s h (fun s' h'=>(∃f cap,ev s' fo= .func f cap/\APanic P wz f (evs s' args.toList++cap) h' Rp)/\∀i,s₀.get i=s'.get i\/s₀.get i= .dead)):
 Awp P wz ⟨k,ds,GP wz k ds s₀ Rp⟩ (.region id l.toArray false) Q s h:=by
 refine qlg (n:=⟨k,ds,GP wz k ds s₀ Rp⟩) hl rfl hd (awp_rseq.aOps_mono (fun s' h' hk fi a w nx Q' hr hs hq=>?_) hc);obtain⟨⟨f,cap,hf,hcall⟩,hs0⟩:=hk;have hv:=hs.evs args.toList;have hfv:=hs.ev fo;rw[hf]at hfv;simp only[VR]at hfv;obtain⟨vs,hfe,hcap⟩:=hfv;obtain⟨fn,g1,g2,g3,g4⟩:=hcall fi (args.toList.map a.eval++vs) w hr (qao hv hcap);have hx:(execOp a.eval ⟨dst, .call ⟨.value fo,args,ts⟩,ty,pos,af,none⟩).run P w= .ok (.enter f (args.toList.map a.eval++vs).toArray) w:=by
  have hb:¬fn.body=none:=fun e=>by rw[e]at g3;cases g3
  have hn':¬fn.name= "runtime.NumGoroutine":=by simpa using g2
  have ea:args.map a.eval=(args.toList.map a.eval).toArray:=map_toArray _ _;simp only[execOp,resolve,hfe,Deferred.ofValue,Sem.run_bind,Sem.run_pure,Result.andThen_ok,invoke];rw[ea];simp[callFunc,g1,hn',hb]
 unfold Oper.wp;rw[hx,Oper.upon_enter];refine g4.mono fun e w' q=>?_;rcases q with⟨v,_,Ps,x,h'',_,_,_,q⟩|⟨v,rfl,Ps,x,h'',q1,q2,q3,q4⟩
 ·exact q.elim
 ·refine hq _ _ _ trivial ⟨Ps,q1,v,rfl,Ps,x,h'',Ps.le_refl,q2,q3,q4,⟨hs.size,hs.defers,fun i=>?_⟩⟩
  rcases hs0 i with e|e
  ·rw[e];exact YG q1 _ _ (hs.val i)
  ·rw[e];simp[VR]
theorem qoa{id:Nat}{l pre post:List Oper}{x:Operand}(hl:l=pre++⟨dst, .panic x,ty,pos,af,none⟩::post)(hd:QD k l=true)
 (hc:QA P wz l pre s h (fun s' h'=>(∃t y,ev s' x= .iface t y/\Rp (.iface t y) h')/\∀i,s₀.get i=s'.get i\/s₀.get i= .dead)):
 Awp P wz ⟨k,ds,GP wz k ds s₀ Rp⟩ (.region id l.toArray false) Q s h:=by
 refine qlg (n:=⟨k,ds,GP wz k ds s₀ Rp⟩) hl rfl hd (awp_rseq.aOps_mono (fun s' h' hk fi a w nx Q' hr hs hq=>?_) hc);obtain⟨⟨t,y,hx,hR⟩,hs0⟩:=hk;have hxv:=hs.ev x;rw[hx]at hxv;have hxv':=hxv;simp only[VR]at hxv';obtain⟨v,hv,_⟩:=hxv';unfold Oper.wp;have he:(execOp a.eval ⟨dst, .panic x,ty,pos,af,none⟩).run P w= .halt (.panic (.iface t v)) w:=by
  simp only[execOp,hv,Sem.run_bind,run_panic_iface];rfl
 rw[he,Oper.upon_panic];refine hq _ _ _ trivial ⟨fi,fi.le_refl,_,rfl,fi, .iface t y,h',fi.le_refl,hr,by rw[<-hv];exact hxv,hR,⟨hs.size,hs.defers,fun i=>?_⟩⟩;rcases hs0 i with e|e
 ·rw[e];exact hs.val i
 ·rw[e];simp[VR]
theorem qgo{α:Type}{x:α}:∀{l:List α} {i:Nat},l[i]?=some x->l=l.take i++x::l.drop (i+1)
 |[],i,h=>by simp at h
 |y::l,0,h=>by
  simp only[Kz,Option.some.injEq]at h;subst h;rfl
 |y::l,i+1,h=>by
  rw[KN]at h;rw[Ki,Vw,Kh,<-qgo h]
theorem Yd{id:Nat}{l:List Oper}{fo:Operand}{args:Array Operand}{ts:Array TypeId}(i:Nat)(hl:l[i]?=some ⟨dst, .call ⟨.value fo,args,ts⟩,ty,pos,af,none⟩)(hd:QD k l=true)
 (hc:QA P wz l (l.take i) s h (fun s' h'=>(∃f cap,ev s' fo= .func f cap/\APanic P wz f (evs s' args.toList++cap) h' Rp)/\∀i,s₀.get i=s'.get i\/s₀.get i= .dead)):
 Awp P wz ⟨k,ds,GP wz k ds s₀ Rp⟩ (.region id l.toArray false) Q s h:=qpB (qgo hl) hd hc
theorem qjD{id:Nat}{l:List Oper}{x:Operand}(i:Nat)(hl:l[i]?=some ⟨dst, .panic x,ty,pos,af,none⟩)(hd:QD k l=true)
 (hc:QA P wz l (l.take i) s h (fun s' h'=>(∃t y,ev s' x= .iface t y/\Rp (.iface t y) h')/\∀i,s₀.get i=s'.get i\/s₀.get i= .dead)):
 Awp P wz ⟨k,ds,GP wz k ds s₀ Rp⟩ (.region id l.toArray false) Q s h:=qoa (qgo hl) hd hc
end
end Go.AM
namespace Go.Proofs.YtgiadjbiimkbiaaGreatDoor
open Go.AM
open Go.Proofs
open Go.Col (Str FaultC okF)
open Go.Tok (TokC)
open Go.Stm
open Go.RowKit (Below)
set_option maxRecDepth 100000
abbrev faultV(f:FaultC):AVal:= .agg [.int .i64 f.e, .int .i64 f.line, .int .i64 f.col]
def FaultP(H:AHeap)(f:FaultC):AVal->AHeap->Prop:=fun x h'=>x= .iface 48 (faultV f)/\Sub H h'
theorem qda(wz:World)(H B:AHeap)(kp:Nat)(v ov:AVal)(l:List TokC)(i:Int)(e:Int)(at_:Nat)(eb_p:H kp=some ⟨[v, .int .i64 i,ov],0⟩)(hs_H:Sub B H)(hv:IsL wz B 5 v (l.map Xy))(hl:l.length<=1000000)(hat:at_<=1000000):
 APanic Tryz.prog wz 29 [.ptr (.own kp) 0, .int .i64 e, .int .i64 at_] H (FaultP H (UR l e at_)):=by
 have hlv:=hv.live;have nv:=Zt hv;have hE:UR l e at_=if l=[]then⟨e,0,0⟩else⟨e,(l.getD (min at_ (l.length-1)) noT).line,(l.getD (min at_ (l.length-1)) noT).col⟩:=rfl
 obtain⟨F,hF⟩:∃F,F=UR l e at_:=⟨_,rfl⟩
 rw[<-hF]at hE|-
 refine UY (k:=33) (rs:=[]) Tryz.func29 rfl rfl rfl rfl (VF rfl) ?_;simp only[Qm];refine awp_rseq [0,2,6] (by rfl) fun K hK=>?_;simp+decide only[ev,qK,qG,putD,VG,VH,Ka,Kb,↓qg,qd,↓Zo,↓Xz,bld48_0,evP,Ke,Vj,Jq,Nat.reduceAdd];refine Xb qlk (cs:=[.int .i64 0, .int .i64 0, .int .i64 0]) (by rfl) fun k0q2 hk0q2=>?_;have hn_0q2:H k0q2=none:=by first|assumption|(simp only[VU]at hk0q2;simp only[hk0q2])
 have hf_0q2:B k0q2=none:=VV hs_H hn_0q2;have ne_0q2_p:k0q2≠kp:=VW hn_0q2 eb_p;refine Qi (by rfl) (by rfl) zqA qdv (by rfl) (by rfl) zqD (Jr _) (by rfl) ?_;simp only[VX,VY];simp+decide only[qa,ev,putD,VG,VH,VI,Ka,setAt,VZ,Kj,Jq,Nat.reduceAdd];apply hK;clear hK K;refine qF ?_;refine awp_rseq [0,2,6,14] (by rfl) fun K hK=>?_;simp+decide only[qa,ev,qK,qG,putD,VG,VH,VI,Ka,Kb,↓qg,qd,↓Qv,Qk,QE,↓qC,qi,qbv,↓qI,Qc,qj qam,↓QB,Qo,↓qo,qh,qE,cond_false,qz,Yk,YI,ne_eq,not_false_eq_true,ne_0q2_p.symm,Qj wz eb_p,VJ,Jq,hlv,nv];apply hK;clear hK K;refine qM (b:=_) rfl (fun hb1=>?_) (fun hb1=>?_)
 ·try simp only[decide_eq_true_eq]at hb1
  have hn:0<l.length:=by omega
  have hne:l≠[]:=fun q=>by rw[q]at hn;cases hn
  rw[if_neg hne]at hE;obtain⟨lc,o,c,rfl⟩:=ZT hv hn;obtain⟨m,hm⟩:∃m,m=min at_ (l.length-1):=⟨_,rfl⟩
  rw[<-hm]at hE;have hml:m<l.length:=by omega
  have hmi:min (at_:Int) ((l.length:Int)-1)=(m:Int):=by omega
  have hs2:Sub B (H.set k0q2 ⟨[.int .i64 e, .int .i64 0, .int .i64 0],0⟩):=hs_H.trans (Vi hn_0q2);obtain⟨-,-,e2,e3,-⟩:=WE (hv.mono hs2) hml;obtain⟨t,ht⟩:∃t,t=l.getD m noT:=⟨_,rfl⟩
  rw[<-ht]at e2 e3 hE;have e3':rd wz (H.set k0q2 ⟨[.int .i64 e, .int .i64 0, .int .i64 0],0⟩) lc (o+m*5+2+1)= .int .i64 t.col:=e3;refine qeV 16 mixed (by kernel_rfl) (by rfl) (by rfl) ?_;simp+decide only[ev,qK,qG,putD,VG,VH,Ka,Kb,↓qg,qd,↓Qv,Qk,QE,↓qC,qi,qbv,↓qI,Qc,qj qam,↓QB,Qo,Xr Tryz.underlying39,↓qo,qh,qE,cond_false,qz,Wl,↓ap_min,pop_min,pMin_int,evs,Ke,Vj,YI,ne_eq,not_false_eq_true,ne_0q2_p.symm,Qj wz eb_p,VJ,Jq,hlv];try simp(disch:=omega)only[wrap_i64]
  try simp+decide only[ev,putD,VG,VH,Ka,Kb,↓qZ,Qc,qA Tryz.underlying39 Yl,↓qC,qi,fa44_2,↓qI,Qz ag42 sz42,fa48_1,Qd,Jq,QL,allLive,J4,e2,e3',hmi,VN]
  repeat (with_reducible refine And.intro ?_ ?_;· first|trivial|omega|(intro hg;simp only[Ky,JF,Ji,VO,VL,VK,decide_eq_true_eq,decide_eq_false_iff_not,Xd]at hg;omega))
  refine Qi (by rfl) (by rfl) zqA sz42 (by rfl) (by rfl) zqD (Jr _) (by rfl) ?_;simp only[VX,VY];simp+decide only[qa,ev,putD,VH,Ka,setAt,VZ,Kj,Nat.reduceAdd];change Awp _ _ _ _ _ _ _;refine qjD 2 (by rfl) (by rfl) ?_;simp only[Ki,V4];simp+decide only[qa,ev,putD,VG,VH,Ka,Kb,↓qI,Qc,Qz qpE qdv,↓qcz,qbG,XN,Qd,VJ,Kn,Jq,Nat.reduceAdd,QL,allLive,J4];refine⟨⟨_,_,by rfl,?_⟩,by intro i;first|trivial|exact .inr trivial|exact .inr rfl⟩;rw[hE];exact⟨rfl,zqB⟩
 ·try simp only[decide_eq_false_iff_not]at hb1
  rw[if_pos (Kg (by omega))]at hE;refine qV ?_;change Awp _ _ _ _ _ _ _;refine qjD 2 (by rfl) (by rfl) ?_;simp only[Ki,V4];simp+decide only[qa,ev,putD,VG,VH,Ka,Kb,↓qI,Qc,Qz qpE qdv,↓qcz,qbG,XN,Qd,VJ,Kn,Jq,Nat.reduceAdd,QL,allLive,J4];refine⟨⟨_,_,by rfl,?_⟩,by intro i;first|trivial|exact .inr trivial|exact .inr rfl⟩;rw[hE];exact⟨rfl,zqB⟩
def Fair(O:List Str):Prop:=∀f∈O,f.length<=1000000/\asciiB f=true
theorem qiC{wz:World}{h:AHeap}{v:AVal}{l:List Str}(ht:IsStrs wz h v l)(hn:0<l.length):∃lc o c,v= .slice lc o l.length c:=by
 obtain⟨lc,o,c,e⟩:=ht.open (fun e=>by rw[VD]at e;subst e;simp at hn);rw[Jo]at e;exact⟨lc,o,c,e⟩
theorem qiD{wz:World}{h:AHeap}{lc:AM.Loc}{o:Nat}{c:Cap}{l:List Str}(ht:IsStrs wz h (.slice lc o l.length c) l){i:Nat}(hi:i<l.length):rd wz h lc (o+i)= .str (l.getD i []):=by
 have he:=ht.at0 (i:=i) (by rw[Jo];exact hi) (by decide);rw[V5,getD_map [] hi]at he;exact he
theorem str_sub{wz:World}{h:AHeap}{v:AVal}{l:List Str}(ht:IsStrs wz h v l){n:Nat}(hn:n<=l.length):IsStrs wz h (qlr 1 v 0 n) (l.take n):=by
 have:=IsL.sub ht (i:=0) (j:=n) (Jr _) (by rw[Jo];exact hn);rw[Vm,Nat.sub_zero,<-List.map_take]at this;exact this
theorem qky{wz:World}{h:AHeap}{v:AVal}{l:List Str}(ht:IsStrs wz h v l){k:IntKind}{n:Nat}(hn:n<=l.length):WI Tryz.prog 22 v none (some (.int k n)) none=⟨True,qlr 1 v 0 n⟩:=by
 have:=IsL.slice ht Tryz.underlying22 sz9 none (some (.int k n)) (l:=0) (r:=n) rfl (by rw[qdR]) (by omega) (by omega) (by rw[Jo];omega);exact this
theorem any_drop{α:Type}{p:α->Bool}{l:List α}{i:Nat}(hi:i<l.length)(d:α):(l.drop i).any p=(p (l.getD i d)||(l.drop (i+1)).any p):=by
 rw[J9 hi,V6];simp[Ko,hi]
theorem c_outer(wz:World)(ha:Asp wz)(H:AHeap)(kp:Nat)(v ov:AVal)(l:List TokC)(i:Nat)(O:List Str)(eb_p:H kp=some ⟨[v, .int .i64 i,ov],0⟩)(hv:IsL wz H 5 v (l.map Xy))(hov:IsStrs wz H ov O)(hO:Fair O)(hn:0<O.length)(hO2:O.length<=1000000)(hl:l.length<=1000000)(hi:i<=l.length):
 ACall Tryz.prog wz 75 [.ptr (.own kp) 0] H (fun r h'=>r= .bool (qdF l O i)/\h'=H):=by
 have hlv:=hov.live;have nv:=UF hov;have hs_H:Sub H H:=Vh _;obtain⟨n,hnO⟩:∃n,O.length=n+1:=⟨O.length-1,by omega⟩
 have hdl:O.dropLast=O.take n:=by rw[List.dropLast_eq_take,hnO];rfl
 have hwn:IntKind.i64.wrap ((O.length:Int)-1)=(n:Int):=by rw[wrap_i64 (by omega) (by omega)];omega
 have hsl:=fun(k:IntKind)=>qky (k:=k) hov (n:=n) (by omega);have hov2:=str_sub hov (n:=n) (by omega);have nv2:=UF hov2;have htl:(O.take n).length=n:=by rw[List.length_take];omega
 rw[htl]at nv2;obtain⟨sv,hsv⟩:∃sv,sv=qlr 1 ov 0 n:=⟨_,rfl⟩
 rw[<-hsv]at hsl hov2 nv2;have hslv:=hov2.live;obtain⟨X,hX⟩:∃X,X=O.take n:=⟨_,rfl⟩
 rw[<-hX]at hov2 htl hdl;have hOX:∀f∈X,f.length<=1000000/\asciiB f=true:=fun f hf=>hO f (by rw[hX]at hf;exact List.mem_of_mem_take hf);have hR:qdF l O i=X.any fun f=>decide (0<(QZ l i f).2):=by unfold qdF;rw[hdl]
 refine Ql (n:=32) (rs:=[.tmp 2]) Tryz.func75 rfl rfl rfl rfl (VF rfl) ?_;simp only[Qm];refine awp_rseq [0] (by rfl) fun K hK=>?_;simp+decide only[qa,ev,qK,qG,putD,VG,VI,Ka,Kb,↓qf,qc];apply hK;clear hK K;refine qF ?_;refine WP [0,17,18,19] mixed (by kernel_rfl) (by rfl) (by rfl) fun K hK=>?_;simp+decide only[ev,qK,qG,putD,VG,VH,Ka,Kb,↓qg,qd,↓Qv,Qk,QE,↓qC,qi,qha,↓qI,Qc,qj ag22,↓QB,Qo,↓qo,qh,qE,cond_false,qz,Wl,Qj wz eb_p,VJ,Kn,Jq,hlv,nv,hwn];try simp+decide only[qa,ev,qK,qG,putD,VG,VH,VI,Ka,Kb,↓qcy,qbe,evO,↓QB,Qo,↓qg,qd,hsl,nv2]
 apply hK;clear hK K;refine Qb ?_;refine QN [0,17,18,19] (fun j:Nat=>[(0, .ptr (.own kp) 0),(17,sv),(18, .int .i64 n),(19, .int .i64 j)]) (fun j:Nat=>H) (fun j:Nat=>j<=n/\(X.any fun f=>decide (0<(QZ l i f).2))=(X.drop j).any fun f=>decide (0<(QZ l i f).2)) (fun j:Nat=>n-j) 0 (by rfl) (Vh _) ⟨Jr _,rfl⟩ ?_;rintro j ⟨hj,hq⟩;refine awp_rseq [0,17,18,19,20] (by rfl) fun K hK=>?_;simp+decide only[qa,ev,putD,VG,VH,VI,Ka,Kb,↓qo,qh,qN,cond_false,qz,Xt];apply hK;clear hK K;refine qF (qM (b:=_) rfl (fun hb1=>?_) (fun hb1=>?_))
 ·try simp only[decide_eq_true_eq]at hb1
  have hj':j<X.length:=by omega
  obtain⟨f,hf⟩:∃f,f=X.getD j []:=⟨_,rfl⟩
  obtain⟨hf1,hf2⟩:=hOX f (by rw[hf,Ko,JH hj'];exact VA hj');have hst:=any_drop (p:=fun f=>decide (0<(QZ l i f).2)) hj' [];rw[<-hf]at hst;obtain⟨lc,o,c,hse⟩:=qiC hov2 (by omega);have hov3:=hov2;rw[hse]at hov3;have ef:=qiD hov3 hj';rw[<-hf]at ef;rw[htl]at hse;have hwj:IntKind.i64.wrap ((j:Int)+1)=((j+1:Nat):Int):=by rw[wrap_i64 (by omega) (by omega)];omega
  refine qV ?_;change Awp _ _ _ _ _ _ _;refine qF ?_;refine Qb ?_;refine awp_rseq [0,4,17,18,19] (by rfl) fun K hK=>?_;simp+decide only[qa,ev,putD,VG,VH,VI,Ka,Kb,↓qZ,Qc,qA Tryz.underlying22 sz9,↓qI,qj ag9,↓qf,qc,Qw,hse,ef,VN,V5];repeat (with_reducible refine And.intro ?_ ?_;· first|trivial|omega|(intro hg;simp only[Ky,JF,Ji,VO,VL,VK,decide_eq_true_eq,decide_eq_false_iff_not,Xd]at hg;omega))
  apply hK;clear hK K;refine awp_rseq [0,6,17,18,19] (by rfl) fun K hK=>?_;simp+decide only[ev,putD,VG,VH,Ka,Kb,↓qg,qd];refine QS (V:= .tuple [.str (QZ l i f).1, .int .i64 (QZ l i f).2]) (by rfl) (by rfl) (qdM wz ha _ (.own kp) 0 v l i f (Qj wz eb_p 0) (Qj wz eb_p 1) hv hl hi hf1 hf2) ?_;simp+decide only[qa,ev,putD,VG,VH,VI,Ka,Kb,↓qg,qd,↓Xu,Xk,XA,KY,JN,VJ,Kn,↓qf,qc,VJ,Kn,Jq,Nat.reduceAdd];apply hK;clear hK K;refine awp_rseq [0,17,18,19,30] (by rfl) fun K hK=>?_;simp+decide only[qa,ev,qK,qG,putD,VG,VH,VI,Ka,Kb,↓qg,qd,↓qo,qh,qE,cond_false,qz,Yk];apply hK;clear hK K;refine qM (b:=_) rfl (fun hb2=>?_) (fun hb2=>?_)
  ·try simp only[decide_eq_true_eq]at hb2
   refine awp_rseq [2] (by rfl) fun K hK=>?_;simp+decide only[qa,ev,qK,qG,putD,VG,VI,Ka,Kb,↓qf,qc];apply hK;clear hK K;refine Qn ?_;try simp only[QM,Xl]
   refine Xf H zqC (qJ (qO)) ?_;simp+decide only[VH,if_true,and_true,Qg];rw[hR,hq,hst];have h0:0<(QZ l i f).2:=by omega
   rw[decide_eq_true h0,Bool.true_or]
  ·try simp only[decide_eq_false_iff_not]at hb2
   refine qV ?_;change Awp _ _ _ _ _ _ _;refine Xa [0,17,18,19] (by rfl) ?_;simp+decide only[qa,ev,qK,qG,putD,VG,VH,VI,Ka,Kb,↓qo,qh,qE,cond_false,qz,QW,↓qg,qd,hwj];try simp only[qR]
   refine⟨j+1,by rw[hse];rfl,Vh _,⟨by omega,?_⟩,by omega⟩;have h0:¬0<(QZ l i f).2:=by omega
   rw[hq,hst,decide_eq_false h0,V7]
 ·try simp only[decide_eq_false_iff_not]at hb1
  refine QI ?_;change Awp _ _ _ _ _ _ _;refine awp_rseq [2] (by rfl) fun K hK=>?_;simp+decide only[qa,ev,qK,qG,putD,VG,VI,Ka,Kb,↓qf,qc];apply hK;clear hK K;refine Qn ?_;refine Xf H zqC (qJ (qO)) ?_;simp+decide only[VH,if_true,and_true,Qg];rw[hR,hq,V8 (by omega)];rfl
theorem sub_off{B H:AHeap}(hs:Sub B H){k:Nat}(hk:B k=Option.none)(X:Blk):Sub B (H.set k X):=fun j d hj=>by
 have e:j≠k:=fun e=>by subst e;rw[hk]at hj;cases hj
 rw[Vf _ _ e];exact hs _ _ hj
def entW(p:(Str×Nat)×Nat):AVal:= .mapE p.2 (.str p.1.1) (.int .u8 p.1.2)
def qlo(l:List (Str×Nat)):List AVal:=l.zipIdx.map entW
theorem qrS(l:List (Str×Nat))(x:Str×Nat):qlo (l++[x])=qlo l++[.mapE l.length (.str x.1) (.int .u8 x.2)]:=by
 unfold qlo;rw[List.zipIdx_append,Vr];simp[entW]
theorem qgP(s:Str):∀(l:List (Str×Nat)) (b k:Nat),qbI (.str s) ((l.zipIdx b).map entW) k=some (none)/\(l.find? fun p=>decide (p.1=s))=none\/∃j p,qbI (.str s) ((l.zipIdx b).map entW) k=some (some (j, .int .u8 p.2))/\(l.find? fun p=>decide (p.1=s))=some p
 |[],_,_=> .inl ⟨rfl,rfl⟩
 |x::l,b,k=>by
  rw[List.zipIdx_cons,Ke,entW,qbI,V9];simp only[kEq];by_cases h:x.1=s
  ·right
   refine⟨k,x,?_,?_⟩
   ·simp[h]
   ·simp[h]
  ·have h':¬s=x.1:=fun e=>h e.symm
   simp only[h,h',decide_false];exact qgP s l (b+1) (k+1)
theorem qst{s:Str}{l:List (Str×Nat)}(h:s∉l.map (·.1)):qbI (.str s) (qlo l) 0=some none:=by
 rcases qgP s l 0 0 with q|⟨j,p,-,q⟩
 ·exact q.1
 ·exfalso
  apply h;have h1:=List.find?_some q;have h2:=List.mem_of_find?_eq_some q;exact JP.2 ⟨p,h2,by simpa using h1⟩
theorem qtj{i j:Nat}(hi:i<3){ws:List Str}(hw:ws=Lib.fields (wordTs.getD i []))(hj:j<ws.length):ws.getD j []∉(WA i++(ws.take j).map fun w=>(w,i+1)).map (·.1):=by
 have hs:=qcD hi;rw[<-hw]at hs;have hp:∀a b:Nat,a<=b->b<=3->∃t,WA b=WA a++t:=by
  intro a b hab hb;induction b with
  |zero=>rw[Nat.le_zero.1 hab];exact⟨[],by simp⟩
  |succ b ih=>
   rcases KU a (b+1)with h|h
   ·obtain⟨t,e⟩:=ih (by omega) (by omega)
    rw[qcD (by omega),e];exact⟨t++(Lib.fields (wordTs.getD b [])).map fun w=>(w,b+1),by rw[Ja]⟩
   ·rw[show a=b+1 by omega];exact⟨[],by simp⟩
 obtain⟨t,e⟩:=hp (i+1) 3 hi (KM _);have hn:=qoo;rw[e,hs]at hn;have hd:ws=ws.take j++ws.getD j []::ws.drop (j+1):=by
  rw[show ws.getD j []=ws[j] by simp[Ko,hj],<-J9 hj,List.take_append_drop]
 intro hm;generalize ws.getD j []=x at hd hm;rw[hd]at hn;simp only[Vr,Ke,List.map_map]at hn hm;rw[Ja,Ja,<-Ja,List.nodup_append]at hn;exact hn.2.2 x hm x (by simp) rfl
structure TbG where
 i:Nat
 H:AHeap
structure TcG where
 j:Nat
 H:AHeap
theorem qon:∀t∈wordTs,t.length<=10000/\asciiB t=true:=by decide+kernel
theorem word_at{i:Nat}(hi:i<3):(wordTs.getD i []).length<=10000/\asciiB (wordTs.getD i [])=true:=qon _ (by
 rw[Ko,JH (by simpa[wordTs]using hi)];exact VA _)
set_option maxHeartbeats 4000000 in
theorem c_table(wz:World)(ha:Asp wz)(h:AHeap):
 ACall Tryz.prog wz 129 [] h (fun r h'=>∃k c,r= .map k/\h' k=some (ZK c (qlo (WA 3)))/\h k=none/\Sub h h'):=by
 refine Ql (n:=29) (rs:=[.tmp 0]) Tryz.func129 rfl rfl rfl rfl (VF rfl) ?_;simp only[Qm];refine awp_rseq [] (by rfl) fun K hK=>?_;simp+decide only[qa,ev,qK,qG,putD,VG,VI,if_false,Kb,↓qf,qc];apply hK;clear hK K;refine awp_rseq [1] (by rfl) fun K hK=>?_;refine qmD fun k1q0 hk1q0=>?_;try have hf_1q0:h k1q0=none:=by first|assumption|(simp only[VU]at hk1q0;simp only[hk1q0])
 simp+decide only[qa,ev,putD,VG,VH,VI,Ka,Kb,↓qf,qc];apply hK;clear hK K;refine qF ?_;refine awp_rseq [1,7,8,9] (by rfl) fun K hK=>?_;refine Qh (cs:=(wordTs.map AVal.str)) (by kernel_rfl) fun k2q0 hk2q0=>?_;have ne_2q0_1q0:k2q0≠k1q0:=by simp only[VU]at hk2q0;simp only[hk2q0,ne_eq,not_false_eq_true]
 try have hf_2q0:h k2q0=none:=by first|assumption|(simp only[VU]at hk2q0;simp only[hk2q0])
 simp+decide only[qa,ev,qK,qG,putD,VG,VH,VI,Ka,Kb,↓QB,Qo,Xr Tryz.underlying22,↓qg,qd];apply hK;clear hK K;refine Qb ?_;refine QN [1,7,8,9] (fun g:TbG=>[(1, .map k1q0),(7, .slice (.own k2q0) 0 3 (.exact 3)),(8, .int .i64 3),(9, .int .i64 g.i)]) (fun g:TbG=>g.H) (fun g:TbG=>g.i<=3/\Sub h g.H/\g.H k1q0=some (ZK (WA g.i).length (qlo (WA g.i)))/\g.H k2q0=some ⟨wordTs.map AVal.str,0⟩) (fun g:TbG=>3-g.i) ⟨0,_⟩ (by rfl) (Vh _) ⟨Jr _,zqB,zqA,zqA⟩ ?_;rintro⟨i,H⟩ ⟨hi,hs_H,eb_1q0,eb_2q0⟩;simp only at hi hs_H eb_1q0 eb_2q0|-
 refine awp_rseq [1,7,8,9,10] (by rfl) fun K hK=>?_;simp+decide only[qa,ev,putD,VG,VH,VI,Ka,Kb,↓qo,qh,qN,cond_false,qz,Xt];apply hK;clear hK K;refine qF (qM (b:=_) rfl (fun hb1=>?_) (fun hb1=>?_))
 ·try simp only[decide_eq_true_eq]at hb1
  have hi3:i<3:=by omega
  obtain⟨t,ht⟩:∃t,t=wordTs.getD i []:=⟨_,rfl⟩
  have et:=qdw (wz:=wz) eb_2q0 (i:=i) hi3;rw[<-ht,Qj wz eb_2q0]at et;obtain⟨hw1,hw2⟩:=word_at hi3;have hstp:=qcD hi3;rw[<-ht]at hw1 hw2 hstp;obtain⟨ws,hws⟩:∃ws,ws=Lib.fields t:=⟨_,rfl⟩
  rw[<-hws]at hstp;have hnew:=fun j hj=>qtj (j:=j) hi3 (ws:=ws) (by rw[hws,ht]) hj;have hwl:ws.length<=10001:=by rw[hws];exact Vd (fields_few t) (by omega)
  refine qV ?_;change Awp _ _ _ _ _ _ _;refine qF ?_;refine Qb ?_;refine awp_rseq [1,2,3,7,8,9] (by rfl) fun K hK=>?_;simp+decide only[qa,ev,putD,VG,VH,VI,Ka,Kb,↓qg,qd,↓qZ,Qc,qA Tryz.underlying22 sz9,↓qI,qj ag9,↓qf,qc,Qj wz eb_2q0,Jq,Qw,et,VN,V5,Jq];repeat (with_reducible refine And.intro ?_ ?_;· first|trivial|omega|(intro hg;simp only[Ky,JF,Ji,VO,VL,VK,decide_eq_true_eq,decide_eq_false_iff_not,Xd]at hg;omega))
  apply hK;clear hK K;refine awp_rseq [1,2,7,8,9,15,16,17] (by rfl) fun K hK=>?_;simp+decide only[ev,putD,VG,VH,Ka,Kb,↓qg,qd];refine qY (by rfl) (by rfl) (qcu wz ha _ t (by omega) hw2) fun x5q1 h5q1 hx5q1=>?_;obtain⟨kw,hkw,rfl,e5⟩:=hx5q1;rw[<-hws]at e5|-
  have hsw:Sub H h5q1:=by rw[e5];exact Vi hkw
  have hw5:h5q1 kw=some ⟨ws.map AVal.str,0⟩:=by rw[e5];exact Vg _ _ _
  have lw:=UF (qbD (wz:=wz) hw5);have ne_w:kw≠k1q0:=fun e=>by rw[e,eb_1q0]at hkw;cases hkw
  have hs_h5q1:Sub h h5q1:=Ba zqC hsw;have hr_h5q1:Sub H h5q1:=Ba zqC hsw;have eb_1q0:=hsw k1q0 _ zqA;have eb_2q0:=hsw k2q0 _ zqA;simp+decide only[qa,ev,qK,qG,putD,VG,VH,VI,Ka,Kb,↓QB,Qo,Xr Tryz.underlying22,↓qg,qd];apply hK;clear hK K;refine Qb ?_;refine QN [1,2,7,8,9,15,16,17] (fun g:TcG=>[(1, .map k1q0),(2, .int .i64 i),(7, .slice (.own k2q0) 0 3 (.exact 3)),(8, .int .i64 3),(9, .int .i64 i),(15, .slice (.own kw) 0 ws.length (.exact ws.length)),(16, .int .i64 ws.length),(17, .int .i64 g.j)]) (fun g:TcG=>g.H) (fun g:TcG=>g.j<=ws.length/\Sub h g.H/\g.H k1q0=some (ZK (WA i++(ws.take g.j).map fun w=>(w,i+1)).length (qlo (WA i++(ws.take g.j).map fun w=>(w,i+1))))/\g.H k2q0=some ⟨wordTs.map AVal.str,0⟩/\g.H kw=some ⟨ws.map AVal.str,0⟩) (fun g:TcG=>ws.length-g.j) ⟨0,_⟩ (by rfl) (Vh _) ⟨Jr _,hs_h5q1,by simpa using eb_1q0,eb_2q0,hw5⟩ ?_;rintro⟨j,H2⟩ ⟨hj,hs_H2,eb_1q0',eb_2q0',eb_w⟩;simp only at hj hs_H2 eb_1q0' eb_2q0' eb_w|-
  refine awp_rseq [1,2,7,8,9,15,16,17,18] (by rfl) fun K hK=>?_;simp+decide only[qa,ev,putD,VG,VH,VI,Ka,Kb,↓qo,qh,qN,cond_false,qz,Xt];apply hK;clear hK K;refine qF (qM (b:=_) rfl (fun hb2=>?_) (fun hb2=>?_))
  ·try simp only[decide_eq_true_eq]at hb2
   have hj':j<ws.length:=by omega
   have nw:=hnew j hj';obtain⟨w,hw⟩:∃w,w=ws.getD j []:=⟨_,rfl⟩
   have ew:=qdw (wz:=wz) eb_w hj';rw[<-hw,Qj wz eb_w]at ew;rw[<-hw]at nw;have htk:ws.take (j+1)=ws.take j++[w]:=by rw[List.take_add_one,JH hj',hw];simp[Ko,hj']
   obtain⟨pl,hpl⟩:∃pl,pl=WA i++(ws.take j).map fun w=>(w,i+1):=⟨_,rfl⟩
   rw[<-hpl]at eb_1q0' nw;have hsn:=qrS pl (w,i+1);have hwr:IntKind.u8.wrap (i:Int)=i:=wrap_u8 (by omega) (by omega);have hwr2:IntKind.u8.wrap (1+(i:Int))=((i+1:Nat):Int):=by rw[wrap_u8 (by omega) (by omega)];omega
   have hwj:IntKind.i64.wrap ((j:Int)+1)=((j+1:Nat):Int):=by rw[wrap_i64 (by omega) (by omega)];omega
   refine qV ?_;change Awp _ _ _ _ _ _ _;refine qF ?_;refine Qb ?_;refine awp_rseq [1,2,5,7,8,9,15,16,17] (by rfl) fun K hK=>?_;simp+decide only[qa,ev,putD,VG,VH,VI,Ka,Kb,↓qZ,Qc,qA Tryz.underlying22 sz9,↓qI,qj ag9,↓qf,qc,Qj wz eb_w,Jq,Qw,ew,VN,V5,Jq];repeat (with_reducible refine And.intro ?_ ?_;· first|trivial|omega|(intro hg;simp only[Ky,JF,Ji,VO,VL,VK,decide_eq_true_eq,decide_eq_false_iff_not,Xd]at hg;omega))
   apply hK;clear hK K;refine Xa [1,2,7,8,9,15,16,17] (by rfl) ?_;simp+decide only[ev,qK,qG,putD,VG,VH,Ka,Kb,↓qg,qd,↓qdd _ _ _ (qmb Tryz.underlying3 Tryz.underlying208),qaC,qej Tryz.underlying3 Tryz.underlying208,↓qo,qh,qN,cond_false,qz,QW,hwr,hwr2];refine qoe Tryz.underlying214 (by rfl) eb_1q0' (by rfl) (qst nw) ?_;simp+decide only[qa,ev,putD,VH,VI,Ka];change Awp _ _ _ _ _ _ _;refine Xa [1,2,7,8,9,15,16,17] (by rfl) ?_;simp+decide only[qa,ev,qK,qG,putD,VG,VH,VI,Ka,Kb,↓qo,qh,qE,cond_false,qz,QW,↓qg,qd,hwj];try simp only[qR]
   refine⟨⟨j+1,H2.set k1q0 (ZK (pl.length+1) (qlo (pl++[(w,i+1)])))⟩,rfl,by rw[hsn];exact Vh _,⟨hj',sub_off hs_H2 hf_1q0 _,?_,(Vf _ _ ne_2q0_1q0).trans eb_2q0',(Vf _ _ ne_w).trans eb_w⟩,by simp only;omega⟩;simp only;rw[Vg,htk,Vr,<-Ja,<-hpl,Jc];rfl
  ·try simp only[decide_eq_false_iff_not]at hb2
   have hj':j=ws.length:=by omega
   rw[hj',List.take_length,<-hstp]at eb_1q0';have hwi:IntKind.i64.wrap ((i:Int)+1)=((i+1:Nat):Int):=by rw[wrap_i64 (by omega) (by omega)];omega
   refine QI ?_;change Awp _ _ _ _ _ _ _;refine Xa [1,7,8,9] (by rfl) ?_;simp+decide only[qa,ev,qK,qG,putD,VG,VH,VI,Ka,Kb,↓qo,qh,qE,cond_false,qz,QW,↓qg,qd,hwi];try simp only[qR]
   exact⟨⟨i+1,H2⟩,rfl,Vh _,⟨hi3,hs_H2,eb_1q0',eb_2q0'⟩,by simp only;omega⟩
 ·try simp only[decide_eq_false_iff_not]at hb1
  have hi3:i=3:=by omega
  rw[hi3]at eb_1q0;refine QI ?_;change Awp _ _ _ _ _ _ _;refine awp_rseq [0] (by rfl) fun K hK=>?_;simp+decide only[qa,ev,putD,VG,VH,VI,Ka,Kb,↓qg,qd,↓qf,qc];apply hK;clear hK K;refine Qn ?_;refine Qu (qJ (qO)) ?_;simp+decide only[VH,if_true,Qg];exact⟨H,Vh _,_,_,rfl,eb_1q0,hf_1q0,hs_H⟩
theorem look_tab{h:AHeap}{km c:Nat}{l:List (Str×Nat)}{s:Str}(hm:h km=some (ZK c (qlo l))):UL Tryz.prog h 214 (.map km) (.str s) false=⟨True, .int .u8 ((l.find? fun p=>decide (p.1=s)).elim 0 (·.2):Nat)⟩:=by
 rcases qgP s l 0 0 with⟨q1,q2⟩|⟨j,p,q1,q2⟩
 ·rw[qne Tryz.underlying214 ze208 hm (by rfl) q1,qhC,q2]
  rfl
 ·rw[qoI Tryz.underlying214 ze208 hm (by rfl) q1,qhC,q2]
  rfl
theorem qnH(wz:World)(ha:Asp wz)(h:AHeap)(s:Str):ACall Tryz.prog wz 124 [.str s] h (fun r h'=>r= .int .u8 (qaK s:Nat)/\Sub h h'):=by
 refine Ql (n:=6) (rs:=[.tmp 2]) Tryz.func124 rfl rfl rfl rfl (VF rfl) ?_;simp only[Qm];refine awp_rseq [0] (by rfl) fun K hK=>?_;simp+decide only[qa,ev,qK,qG,putD,VG,VI,Ka,Kb,↓qf,qc];apply hK;clear hK K;refine awp_rseq [2] (by rfl) fun K hK=>?_;refine qY (by rfl) (by rfl) (c_table wz ha _) fun x1q0 h1q0 hx1q0=>?_;obtain⟨k,c,rfl,eb_t,hkt,hs1⟩:=hx1q0;have hlk:=look_tab (s:=s) eb_t;simp+decide only[qa,ev,putD,VG,VH,VI,Ka,Kb,↓qg,qd,↓qtb,qoG,↓qf,qc,hlk];apply hK;clear hK K;refine Qn ?_;refine Qu (qJ (qO)) ?_;simp+decide only[VH,if_true,Qg];exact⟨h,by first|exact hs1|exact Vh _,rfl,Vh _⟩
end Go.Proofs.YtgiadjbiimkbiaaGreatDoor
namespace Go.AM
section
variable {P:Program} {wz:World} {ops rest:List Oper} {s:Slots} {h:AHeap} {K:Slots->AHeap->Prop} {dst:Option Tmp} {ty:TypeId} {pos:String} {af:Array Edge}
theorem UC{fo:Operand}{args:Array Operand}{ts:Array TypeId}{j:Nat}{want:Bool}{g:AVal}{f:FuncId}{cap xs:List AVal}{V:AVal}(hg:gv s ops j=g)(hk:Yw g=true)
 (hf:QY g want=true->ev s fo= .func f cap/\evs s args.toList++cap=xs) (hc:QY g want=true->ACall P wz f xs h (fun x h'=>x=V/\Sub h h'))
 (hr:∀H,Sub h H->QA P wz ops rest (putD s dst (Qt (QY g want) V)) H K):
 QA P wz ops (⟨dst, .call ⟨.value fo,args,ts⟩,ty,pos,af,some (j,want)⟩::rest) s h K:=by
 subst hg;unfold gv at hk hf hc hr;cases hj:qW ops j with
 |none=>rw[hj]at hk;cases hk
 |some d=>
  simp only[hj]at hk hf hc hr;refine qil hj rfl hk (fun hb=>?_) (fun hb=>?_)
  ·refine qY (hf hb).1 (hf hb).2 (hc hb) fun x h' ⟨e1,e2⟩=>?_
   subst e1;have:=hr h' e2;simpa[hb,Qt]using this
  ·have:=hr h (Vh _)
   simpa[hb,Qt]using this
end
end Go.AM
namespace Go.Proofs.YtgiadjbiimkbiaaGreatDoor
open Go.AM
open Go.Proofs
open Go.Col (Str FaultC okF)
open Go.Tok (TokC)
open Go.Stm
open Go.RowKit (Below)
set_option maxRecDepth 100000
def qkg(s:Str):List Str->Nat->Int
 |[],_=> -1
 |t::ts,i=>if t=s then i else qkg s ts (i+1)
theorem qrk(s:Str):∀(ts:List Str) (i:Nat),decide (0<=qkg s ts i)=ts.contains s
 |[],i=>rfl
 |t::ts,i=>by
  rw[qkg,List.contains_cons];by_cases h:t=s
  ·subst h
   simp
  ·have h':(s==t)=false:=by simpa using fun e=>h e.symm
   rw[if_neg h,h',V7];exact qrk s ts (i+1)
theorem c_indexS(wz:World)(h:AHeap)(v:AVal)(ts:List Str)(s:Str)(hv:IsStrs wz h v ts)(hl:ts.length<=1000000):
 ACall Tryz.prog wz 132 [v, .str s] h (fun r h'=>r= .int .i64 (qkg s ts 0)/\h'=h):=by
 have hlv:=hv.live;have nv:=UF hv;refine Ql (n:=19) (rs:=[.tmp 4]) Tryz.func132 rfl rfl rfl rfl (VF rfl) ?_;simp only[Qm];refine awp_rseq [0,1] (by rfl) fun K hK=>?_;simp+decide only[qa,ev,qK,qG,putD,VG,VI,Ka,Kb,↓qf,qc,Jq];apply hK;clear hK K;refine qF ?_;refine awp_rseq [0,1,7,8] (by rfl) fun K hK=>?_;simp+decide only[qa,ev,qK,qG,putD,VG,VH,VI,Ka,Kb,↓qg,qd,↓QB,Qo,nv];apply hK;clear hK K;refine Qb ?_;refine QN [0,1,7,8] (fun j:Nat=>[(0,v),(1, .str s),(7, .int .i64 ts.length),(8, .int .i64 j)]) (fun j:Nat=>h) (fun j:Nat=>j<=ts.length/\qkg s ts 0=qkg s (ts.drop j) j) (fun j:Nat=>ts.length-j) 0 (by rfl) (Vh _) ⟨Jr _,rfl⟩ ?_;rintro j ⟨hj,hq⟩;refine awp_rseq [0,1,7,8,9] (by rfl) fun K hK=>?_;simp+decide only[qa,ev,putD,VG,VH,VI,Ka,Kb,↓qo,qh,qN,cond_false,qz,Xt];apply hK;clear hK K;refine qF (qM (b:=_) rfl (fun hb1=>?_) (fun hb1=>?_))
 ·try simp only[decide_eq_true_eq]at hb1
  have hj':j<ts.length:=by omega
  obtain⟨lc,o,c,hse⟩:=qiC hv (by omega);have hv3:=hv;rw[hse]at hv3;have ef:=qiD hv3 hj';have hst:qkg s (ts.drop j) j=if ts.getD j []=s then(j:Int)else qkg s (ts.drop (j+1)) (j+1):=by
   rw[J9 hj',qkg];simp[Ko,hj']
  obtain⟨f,hf⟩:∃f,f=ts.getD j []:=⟨_,rfl⟩
  rw[<-hf]at ef hst;have hwj:IntKind.i64.wrap ((j:Int)+1)=((j+1:Nat):Int):=by rw[wrap_i64 (by omega) (by omega)];omega
  refine qV ?_;change Awp _ _ _ _ _ _ _;refine qF ?_;refine Qb ?_;refine awp_rseq [0,1,5,7,8] (by rfl) fun K hK=>?_;simp+decide only[qa,ev,putD,VG,VH,VI,Ka,Kb,↓qg,qd,↓qf,qc];apply hK;clear hK K;refine awp_rseq [0,1,5,7,8,16] (by rfl) fun K hK=>?_;simp+decide only[qa,ev,putD,VG,VH,VI,Ka,Kb,↓qg,qd,↓qZ,Qc,qA Tryz.underlying22 sz9,↓qI,qj ag9,↓qo,qh,qN,cond_false,Qp,XP,Qw,hse,ef,VN,V5];repeat (with_reducible refine And.intro ?_ ?_;· first|trivial|omega|(intro hg;simp only[Ky,JF,Ji,VO,VL,VK,decide_eq_true_eq,decide_eq_false_iff_not,Xd]at hg;omega))
  apply hK;clear hK K;refine qM (b:=_) rfl (fun hb2=>?_) (fun hb2=>?_)
  ·try simp only[decide_eq_true_eq]at hb2
   refine awp_rseq [4] (by rfl) fun K hK=>?_;simp+decide only[qa,ev,putD,VG,VH,VI,Ka,Kb,↓qg,qd,↓qf,qc];apply hK;clear hK K;refine Qn ?_;try simp only[QM,Xl]
   refine Xf h zqC (qJ (qO)) ?_;simp+decide only[VH,if_true,and_true,Qg];rw[hq,hst,if_pos hb2.symm]
  ·try simp only[decide_eq_false_iff_not]at hb2
   refine qV ?_;change Awp _ _ _ _ _ _ _;refine Xa [0,1,7,8] (by rfl) ?_;simp+decide only[qa,ev,qK,qG,putD,VG,VH,VI,Ka,Kb,↓qo,qh,qE,cond_false,qz,QW,↓qg,qd,hwj];try simp only[qR]
   refine⟨j+1,by rw[hse];rfl,Vh _,⟨by omega,?_⟩,by omega⟩;rw[hq,hst,if_neg (fun e=>hb2 e.symm)]
 ·try simp only[decide_eq_false_iff_not]at hb1
  refine QI ?_;change Awp _ _ _ _ _ _ _;refine awp_rseq [4] (by rfl) fun K hK=>?_;simp+decide only[qa,ev,qK,qG,putD,VG,VI,Ka,Kb,↓qf,qc];apply hK;clear hK K;refine Qn ?_;refine Xf h zqC (qJ (qO)) ?_;simp+decide only[VH,if_true,and_true,Qg];rw[hq,V8 (by omega)];rfl
theorem qnP(wz:World)(h:AHeap)(v:AVal)(ts:List Str)(s:Str)(hv:IsStrs wz h v ts)(hl:ts.length<=1000000):
 ACall Tryz.prog wz 130 [v, .str s] h (fun r h'=>r= .bool (ts.contains s)/\h'=h):=by
 have hlv:=hv.live;have e:=qrk s ts 0;refine Ql (n:=9) (rs:=[.tmp 4]) Tryz.func130 rfl rfl rfl rfl (VF rfl) ?_;simp only[Qm];refine awp_rseq [0,1] (by rfl) fun K hK=>?_;simp+decide only[qa,ev,qK,qG,putD,VG,VI,Ka,Kb,↓qf,qc,Jq];apply hK;clear hK K;refine awp_rseq [4] (by rfl) fun K hK=>?_;simp+decide only[ev,putD,VG,VH,Ka,Kb,↓qg,qd];refine QS (V:= .int .i64 (qkg s ts 0)) (by rfl) (by rfl) (c_indexS wz _ v ts s hv hl) ?_;simp+decide only[qa,ev,qK,qG,putD,VG,VH,VI,Ka,Kb,↓qo,qh,qE,cond_false,qz,qiV,↓qf,qc,e];apply hK;clear hK K;refine Qn ?_;refine Xf h zqC (qJ (qO)) ?_;simp+decide only[VH,if_true,and_true,Qg];all_goals first|rfl|exact⟨rfl,rfl⟩|(simp+decide only[Ka, *];done)|(trace_state;fail)
theorem c_isS1(wz:World)(h:AHeap)(v vt:AVal)(l:List TokC)(ts:List Str)(i:Nat)(k:UInt8)(hv:IsL wz h 5 v (l.map Xy))(hl:l.length<=1000000)(ht:IsStrs wz h vt ts)(hts:ts.length<=100)(hi:i<l.length):
 ACall Tryz.prog wz 125 [v, .int .i64 i, .int .u8 k.toNat,vt] h (fun r h'=>r= .bool (isK l i k ts)/\h'=h):=by
 have hlv:=hv.live;have nv:=Zt hv;have htl:=ht.live;have hR:isK l i k ts=(decide ((l.getD i noT).kind=k) && ts.contains (l.getD i noT).text):=by unfold isK;rw[if_pos hi]
 obtain⟨lc,o,c,hwe⟩:=ZT hv (by omega);have hv2:=hv;rw[hwe]at hv2;obtain⟨e0,e1,-⟩:=WE hv2 hi;have hkd:decide ((i:Int)<(l.length:Int))=true:=by simpa using hi
 obtain⟨t,htt⟩:∃t,t=l.getD i noT:=⟨_,rfl⟩
 rw[<-htt]at e0 e1 hR;have hk:=ZY t.kind k;rw[hR];refine Ql (n:=31) (rs:=[.tmp 8]) Tryz.func125 rfl rfl rfl rfl (VF rfl) ?_;simp only[Qm];refine awp_rseq [0,1,2,3] (by rfl) fun K hK=>?_;simp+decide only[qa,ev,qK,qG,putD,VG,VI,Ka,Kb,↓qf,qc,Jq,Nat.reduceAdd];apply hK;clear hK K;refine awp_rseq [8] (by rfl) fun K hK=>?_;simp+decide only[ev,qK,qG,putD,VG,VH,Ka,Kb,↓qg,qd,↓QB,Qo,Xr Tryz.underlying39,↓qo,qh,qN,cond_false,qz,Xt,↓Xc,agP,Qs,qW,qP,qH,implies_true,Qf,forall_const,VP,↓Zp,Xp,ZL,qmB,qmA,qA Tryz.underlying39 Yl,↓Xe,qi,WZ,Wo,Wp,↓XJ,qbT,qj qjH,↓QJ,XV,↓QC,Qr,Qe,QH,qbw,qj ag9,QL,Qw,hwe,hkd,e0,e1,hk,VN,K7,Qf,VP];repeat (with_reducible refine And.intro ?_ ?_;· first|trivial|omega|(intro hg;simp only[Ky,JF,Ji,VO,VL,VK,decide_eq_true_eq,decide_eq_false_iff_not,Xd]at hg;omega))
 (refine Yh (V:= .bool (ts.contains t.text)) (f:=_) (cap:=_) (xs:=_) (by first|rfl|(simp+decide only[gv,qW,VH,Ka,Xm,qP])) (fun hg=>⟨rfl,?_⟩) (fun hg=>qnP wz _ vt ts t.text ht (by omega)) ?_;· (simp+decide only[gv,qW,VH,Ka,qH]at hg;simp+decide only[evs,ev,VH,Ka,hg,Qf,Jz,Ke,Vj]<;>try rfl))
 simp+decide only[qa,ev,qK,qG,putD,VG,VH,VI,Ka,Kb,gv,qW,qH,↓QC,Qr,Qe,QT,QH,↓qf,qc];apply hK;clear hK K;refine Qn ?_;refine Xf h zqC (qJ (qO)) ?_;simp+decide only[VH,if_true,and_true,Qg];all_goals first|rfl|exact⟨rfl,rfl⟩|(simp+decide only[Ka, *];done)|(trace_state;fail)
theorem c_isS0(wz:World)(h:AHeap)(v vt:AVal)(l:List TokC)(ts:List Str)(i:Nat)(k:UInt8)(hv:IsL wz h 5 v (l.map Xy))(hl:l.length<=1000000)(ht:IsStrs wz h vt ts)(hi:¬i<l.length):
 ACall Tryz.prog wz 125 [v, .int .i64 i, .int .u8 k.toNat,vt] h (fun r h'=>r= .bool (isK l i k ts)/\h'=h):=by
 have hlv:=hv.live;have nv:=Zt hv;have htl:=ht.live;have hR:isK l i k ts=false:=by unfold isK;rw[if_neg hi]
 have hkd:decide ((i:Int)<(l.length:Int))=false:=by simpa using hi
 rw[hR];refine Ql (n:=31) (rs:=[.tmp 8]) Tryz.func125 rfl rfl rfl rfl (VF rfl) ?_;simp only[Qm];refine awp_rseq [0,1,2,3] (by rfl) fun K hK=>?_;simp+decide only[qa,ev,qK,qG,putD,VG,VI,Ka,Kb,↓qf,qc,Jq,Nat.reduceAdd];apply hK;clear hK K;refine awp_rseq [8] (by rfl) fun K hK=>?_;simp+decide only[ev,qK,qG,putD,VG,VH,Ka,Kb,↓qg,qd,↓QB,Qo,↓qo,qh,qN,cond_false,qz,Xt,↓Xc,agP,Qs,qW,qP,qH,implies_true,QO,false_implies,Zl,UB,↓Zp,Xp,↓Xe,qi,↓XJ,↓QJ,↓QC,Qr,Qe,nv,hkd,QO]
 (refine qbb (by rfl) (by rfl) ?_)
 simp+decide only[qa,ev,qK,qG,putD,VG,VH,VI,Ka,Kb,↓QC,Qr,Qe,↓qf,qc];apply hK;clear hK K;refine Qn ?_;refine Xf h zqC (qJ (qO)) ?_;simp+decide only[VH,if_true,and_true,Qg];all_goals first|rfl|exact⟨rfl,rfl⟩|(simp+decide only[Ka, *];done)|(trace_state;fail)
theorem qnM(wz:World)(h:AHeap)(v vt:AVal)(l:List TokC)(ts:List Str)(i:Nat)(k:UInt8)(hv:IsL wz h 5 v (l.map Xy))(hl:l.length<=1000000)(ht:IsStrs wz h vt ts)(hts:ts.length<=100):
 ACall Tryz.prog wz 125 [v, .int .i64 i, .int .u8 k.toNat,vt] h (fun r h'=>r= .bool (isK l i k ts)/\h'=h):=by
 by_cases hi:i<l.length
 ·exact c_isS1 wz h v vt l ts i k hv hl ht hts hi
 ·exact c_isS0 wz h v vt l ts i k hv hl ht hi
theorem c_nameS1(wz:World)(ha:Asp wz)(h:AHeap)(v:AVal)(l:List TokC)(i:Nat)(hv:IsL wz h 5 v (l.map Xy))(hl:l.length<=1000000)(hi:i<l.length):
 ACall Tryz.prog wz 123 [v, .int .i64 i] h (fun r h'=>r= .bool (qgT QV l i)/\Sub h h'):=by
 have hlv:=hv.live;have nv:=Zt hv;have hR:qgT QV l i=(decide ((l.getD i noT).kind=1) && decide (qaK (l.getD i noT).text=0)):=by unfold qgT;rw[if_pos hi];rfl
 obtain⟨lc,o,c,hwe⟩:=ZT hv (by omega);have hv2:=hv;rw[hwe]at hv2;obtain⟨e0,e1,-⟩:=WE hv2 hi;have hkd:decide ((i:Int)<(l.length:Int))=true:=by simpa using hi
 obtain⟨t,htt⟩:∃t,t=l.getD i noT:=⟨_,rfl⟩
 rw[<-htt]at e0 e1 hR;have hk:decide ((t.kind.toNat:Int)=1)=decide (t.kind=1):=ZY t.kind 1;have hw:∀n:Nat,decide ((n:Int)=0)=decide (n=0):=fun n=>by
  by_cases h:n=0
  ·subst h;rfl
  ·have:(n:Int)≠0:=by omega
   simp[h]
 rw[hR];refine Ql (n:=26) (rs:=[.tmp 4]) Tryz.func123 rfl rfl rfl rfl (VF rfl) ?_;simp only[Qm];refine awp_rseq [0,1] (by rfl) fun K hK=>?_;simp+decide only[qa,ev,qK,qG,putD,VG,VI,Ka,Kb,↓qf,qc,Jq];apply hK;clear hK K;refine awp_rseq [4] (by rfl) fun K hK=>?_;simp+decide only[ev,qK,qG,putD,VG,VH,Ka,Kb,↓qg,qd,↓QB,Qo,Xr Tryz.underlying39,↓qo,qh,qN,cond_false,qz,Xt,↓Xc,agP,Qs,qW,qP,qH,implies_true,Qf,forall_const,VP,↓Zp,Xp,ZL,qmB,qmA,qA Tryz.underlying39 Yl,↓Xe,qi,WZ,Wo,Wp,↓XJ,qbT,qj qjH,↓QJ,qE,XV,↓QC,Qr,Qe,QH,qbw,qj ag9,QL,Qw,hwe,hkd,e0,e1,hk,VN,K7,Qf,VP];repeat (with_reducible refine And.intro ?_ ?_;· first|trivial|omega|(intro hg;simp only[Ky,JF,Ji,VO,VL,VK,decide_eq_true_eq,decide_eq_false_iff_not,Xd]at hg;omega))
 refine UC (g:= .bool (decide (t.kind=1))) (V:= .int .u8 (qaK t.text:Nat)) (f:=124) (cap:=[]) (xs:=[.str t.text]) (by rfl) (by rfl) (fun hg=>⟨rfl,by
  have hg':decide (t.kind=1)=true:=by rwa [qH]at hg
  simp+decide only[evs,ev,VH,Ka,hg',Qf,Jz,Ke,Vj]⟩) (fun hg=>qnH wz ha _ t.text) fun h1q18 hs18=>?_
 have hs_h1q18:Sub h h1q18:=Ba zqC hs18;have hr_h1q18:=hs_h1q18;simp+decide only[qa,ev,qK,qG,putD,VG,VH,VI,Ka,Kb,qW,qH,↓QJ,qh,agP,Qs,qP,implies_true,qE,cond_false,XL,XM,qz,XV,↓QC,Qr,Qe,QT,QH,↓qf,qc,hw];apply hK;clear hK K;refine Qn ?_;refine Qu (qJ (qO)) ?_;simp+decide only[VH,if_true,Kb,Qg];exact⟨h,hs18,Vh _⟩
theorem c_nameS0(wz:World)(h:AHeap)(v:AVal)(l:List TokC)(i:Nat)(hv:IsL wz h 5 v (l.map Xy))(hl:l.length<=1000000)(hi:¬i<l.length):
 ACall Tryz.prog wz 123 [v, .int .i64 i] h (fun r h'=>r= .bool (qgT QV l i)/\h'=h):=by
 have hlv:=hv.live;have nv:=Zt hv;have hR:qgT QV l i=false:=by unfold qgT;rw[if_neg hi]
 have hkd:decide ((i:Int)<(l.length:Int))=false:=by simpa using hi
 rw[hR];refine Ql (n:=26) (rs:=[.tmp 4]) Tryz.func123 rfl rfl rfl rfl (VF rfl) ?_;simp only[Qm];refine awp_rseq [0,1] (by rfl) fun K hK=>?_;simp+decide only[qa,ev,qK,qG,putD,VG,VI,Ka,Kb,↓qf,qc,Jq];apply hK;clear hK K;refine awp_rseq [4] (by rfl) fun K hK=>?_;simp+decide only[ev,qK,qG,putD,VG,VH,Ka,Kb,↓qg,qd,↓QB,Qo,↓qo,qh,qN,cond_false,qz,Xt,↓Xc,agP,Qs,qW,qP,qH,implies_true,QO,false_implies,Zl,UB,↓Zp,Xp,↓Xe,qi,↓XJ,↓QJ,qE,↓QC,Qr,Qe,nv,hkd,QO]
 (refine qbb (by rfl) (by rfl) ?_)
 simp+decide only[qa,ev,qK,qG,putD,VG,VH,VI,Ka,Kb,qW,qH,↓QJ,qh,agP,Qs,qP,QO,false_implies,Zl,qE,cond_false,↓QC,Qr,Qe,↓qf,qc,QO];apply hK;clear hK K;refine Qn ?_;refine Xf h zqC (qJ (qO)) ?_;simp+decide only[VH,if_true,and_true,Qg];all_goals first|rfl|exact⟨rfl,rfl⟩|(simp+decide only[Ka, *];done)|(trace_state;fail)
theorem qrv(wz:World)(ha:Asp wz)(h:AHeap)(v:AVal)(l:List TokC)(i:Nat)(hv:IsL wz h 5 v (l.map Xy))(hl:l.length<=1000000):
 ACall Tryz.prog wz 123 [v, .int .i64 i] h (fun r h'=>r= .bool (qgT QV l i)/\Sub h h'):=by
 by_cases hi:i<l.length
 ·exact c_nameS1 wz ha h v l i hv hl hi
 ·exact(c_nameS0 wz h v l i hv hl hi).mono fun r h' ⟨e1,e2⟩=>⟨e1,by rw[e2];exact Vh _⟩
theorem isK_some{l:List TokC}{i:Nat}{k:UInt8}{ts:List Str}(h:isK l i k ts=true):i<l.length:=by
 unfold isK at h;by_cases hi:i<l.length
 ·exact hi
 ·rw[if_neg hi]at h;cases h
structure GrG where
 k:Nat
 d:Int
 p:Bool
 H:AHeap
theorem qie{wz:World}{h:AHeap}{k:Nat}{s:Str}(hk:h k=some ⟨[.str s],0⟩):IsStrs wz h (.slice (.own k) 0 1 (.exact 1)) [s]:=qbD (l:=[s]) hk
theorem qlO{l:List TokC}{i k f:Nat}{d:Int}{p:Bool}(hk:k<l.length)(hf:f=l.length+1-k):
 UO l i f k d p=if (if isK l k 5 [[40]]=true then d+1 else if isK l k 5 [[41]]=true then d-1 else d)=0 then(k+1-i,if isK l k 5 [[40]]=true then p else if isK l k 5 [[41]]=true then p else if isK l k 5 [[58]]=true/\d=1 then true else p)else UO l i (l.length+1-(k+1)) (k+1) (if isK l k 5 [[40]]=true then d+1 else if isK l k 5 [[41]]=true then d-1 else d) (if isK l k 5 [[40]]=true then p else if isK l k 5 [[41]]=true then p else if isK l k 5 [[58]]=true/\d=1 then true else p):=by
 obtain⟨g,hg⟩:∃g,f=g+1:=⟨l.length-k,by omega⟩
 rw[hg,UO,if_pos hk,show l.length+1-(k+1)=g by omega]
set_option maxHeartbeats 2000000 in
theorem qry(wz:World)(h:AHeap)(v:AVal)(l:List TokC)(i:Nat)(hv:IsL wz h 5 v (l.map Xy))(hl:l.length<=1000000):
 ACall Tryz.prog wz 126 [v, .int .i64 i] h (fun r h'=>r= .tuple [.int .i64 (YW l i).1, .bool (YW l i).2]/\Sub h h'):=by
 have hlv:=hv.live;have nv:=Zt hv;have hR:YW l i=if isK l i 5 [[40]]=true then UO l i (l.length+1-i) i 0 false else(0,false):=rfl
 obtain⟨R,hR'⟩:∃R,R=YW l i:=⟨_,rfl⟩
 rw[<-hR']at hR|-
 refine Ql (n:=51) (rs:=[.tmp 4, .tmp 5]) Tryz.func126 rfl rfl rfl rfl (VF rfl) ?_;simp only[Qm];refine awp_rseq [0,1] (by rfl) fun K hK=>?_;simp+decide only[qa,ev,qK,qG,putD,VG,VI,Ka,Kb,↓qf,qc,Jq];apply hK;clear hK K;refine qF ?_;refine awp_rseq [0,1,13] (by rfl) fun K hK=>?_;simp+decide only[ev,putD,VG,VH,Ka,Kb,↓qg,qd];refine Qh (cs:=[.str [40]]) (by kernel_rfl) fun k1q2 hk1q2=>?_;try have hf_1q2:h k1q2=none:=by first|assumption|(simp only[VU]at hk1q2;simp only[hk1q2])
 refine QS (V:= .bool (isK l i 5 [[40]])) (by rfl) (by rfl) (qnM wz _ v _ l [[40]] i 5 (hv.mono zqB) hl (qie zqA) (by decide)) ?_;simp+decide only[qa,ev,putD,VG,VH,VI,Ka,Kb,↓qeB,Zn,YJ];apply hK;clear hK K;refine qM (b:=_) rfl (fun hb1=>?_) (fun hb1=>?_)
 ·try simp only[Ji]at hb1
  rw[if_neg (by rw[hb1];decide)]at hR;refine awp_rseq [4,5] (by rfl) fun K hK=>?_;simp+decide only[qa,ev,qK,qG,putD,VG,VI,Ka,Kb,↓qf,qc];apply hK;clear hK K;refine Qn ?_;try simp only[QM]
  refine Qu (qJ (qJ (qO))) ?_;simp+decide only[VH,Ka,Zm];rw[hR];exact⟨h,zqB,rfl,Vh _⟩
 ·try simp only[VK]at hb1
  rw[if_pos hb1]at hR;have hil:=isK_some hb1;refine qV ?_;change Awp _ _ _ _ _ _ _;refine awp_rseq [0,1,6,7] (by rfl) fun K hK=>?_;simp+decide only[qa,ev,qK,qG,putD,VG,VI,Ka,Kb,↓qf,qc];apply hK;clear hK K;refine qF ?_;refine awp_rseq [0,1,6,7,8] (by rfl) fun K hK=>?_;simp+decide only[qa,ev,putD,VG,VH,VI,Ka,Kb,↓qg,qd,↓qf,qc];apply hK;clear hK K;refine Qb ?_;refine QN [0,1,6,7,8] (fun g:GrG=>[(0,v),(1, .int .i64 i),(6, .int .i64 g.d),(7, .bool g.p),(8, .int .i64 g.k)]) (fun g:GrG=>g.H) (fun g:GrG=>i<=g.k/\g.k<=l.length/\ -1<=g.d+g.k/\g.d<=g.k/\Sub h g.H/\R=UO l i (l.length+1-g.k) g.k g.d g.p) (fun g:GrG=>l.length-g.k) ⟨i,0,false,_⟩ (by rfl) (Vh _) ⟨KM _,by simp only;omega,by simp only;omega,by simp only;omega,zqB,hR⟩ ?_;rintro⟨k,d,p,H⟩ ⟨g1,g2,g3,g4,hs_H,g5⟩;simp only at g1 g2 g3 g4 hs_H g5|-
  refine qF ?_;refine awp_rseq [0,1,6,7,8,18] (by rfl) fun K hK=>?_;simp+decide only[qa,ev,putD,VG,VH,VI,Ka,Kb,↓qg,qd,↓QB,Qo,↓qo,qh,qN,cond_false,qz,Xt,nv];apply hK;clear hK K;refine qM (b:=_) rfl (fun hb2=>?_) (fun hb2=>?_)
  ·try simp only[decide_eq_true_eq]at hb2
   have hk:k<l.length:=by omega
   have hst:=qlO (i:=i) (d:=d) (p:=p) hk rfl;rw[<-g5]at hst;refine qV ?_;change Awp _ _ _ _ _ _ _;refine qF ?_;refine Qb ?_;refine qF ?_;refine Qb ?_;refine awp_rseq [0,1,6,7,8,21] (by rfl) fun K hK=>?_;simp+decide only[ev,putD,VG,VH,Ka,Kb,↓qg,qd];refine Qh (cs:=[.str [40]]) (by kernel_rfl) fun k7q2 hk7q2=>?_;have hn_7q2:H k7q2=none:=by first|assumption|(simp only[VU]at hk7q2;simp only[hk7q2])
   have hf_7q2:h k7q2=none:=VV hs_H hn_7q2;refine QS (V:= .bool (isK l k 5 [[40]])) (by rfl) (by rfl) (qnM wz _ v _ l [[40]] k 5 (hv.mono zqB) hl (qie zqA) (by decide)) ?_;simp+decide only[qa,ev,putD,VG,VH,VI,Ka,Kb,↓qf,qc];apply hK;clear hK K;refine qM (b:=_) rfl (fun hb3=>?_) (fun hb3=>?_)
   ·skip
    simp only[if_pos hb3]at hst;have hwd:IntKind.i64.wrap (d+1)=d+1:=wrap_i64 (by omega) (by omega);refine Xa [0,1,6,7,8] (by rfl) ?_;simp+decide only[qa,ev,qK,qG,putD,VG,VH,VI,Ka,Kb,↓qg,qd,↓qo,qh,qE,cond_false,qz,QW,↓qf,qc,hwd];change Awp _ _ _ _ _ _ _;refine awp_rseq [0,1,6,7,8,45] (by rfl) fun K hK=>?_;simp+decide only[qa,ev,qK,qG,putD,VG,VH,VI,Ka,Kb,↓qg,qd,↓qo,qh,qE,cond_false,qz,XV];apply hK;clear hK K;refine qM (b:=_) rfl (fun hb4=>?_) (fun hb4=>?_)
    ·try simp only[decide_eq_true_eq]at hb4
     rw[if_pos hb4]at hst;have hw1:IntKind.i64.wrap ((k:Int)+1)=(k:Int)+1:=wrap_i64 (by omega) (by omega);have hw2:((k+1-i:Nat):Int)=(k:Int)+1-i:=by omega
     refine awp_rseq [4,5] (by rfl) fun K hK=>?_;simp+decide only[qa,ev,qK,qG,putD,VG,VH,VI,Ka,Kb,↓qg,qd,↓qo,qh,qE,cond_false,qz,QW,qN,Wl,↓qf,qc];try simp(disch:=omega)only[wrap_i64]
     apply hK;clear hK K;refine Qn ?_;try simp only[QM,Xl]
     refine Qu (qJ (qJ (qO))) ?_;simp+decide only[VH,Ka,Zm];rw[hst];exact⟨_,Vh _,by rw[hw2],zqB⟩
    ·try simp only[decide_eq_false_iff_not]at hb4
     rw[if_neg hb4]at hst;have hw1:IntKind.i64.wrap ((k:Int)+1)=((k+1:Nat):Int):=by rw[wrap_i64 (by omega) (by omega)];omega
     refine qV ?_;change Awp _ _ _ _ _ _ _;refine Xa [0,1,6,7,8] (by rfl) ?_;simp+decide only[qa,ev,qK,qG,putD,VG,VH,VI,Ka,Kb,↓qg,qd,↓qo,qh,qE,cond_false,qz,QW,↓qf,qc];try simp(disch:=omega)only[wrap_i64]
     try simp only[qR]
     all_goals first
     |exact⟨⟨k+1,d+1,p,_⟩,rfl,Vh _,⟨by simp only;omega,by simp only;omega,by simp only;omega,by simp only;omega,zqB,hst⟩,by simp only;omega⟩
     |exact⟨⟨k+1,d-1,p,_⟩,rfl,Vh _,⟨by simp only;omega,by simp only;omega,by simp only;omega,by simp only;omega,zqB,hst⟩,by simp only;omega⟩
     |exact⟨⟨k+1,d,true,_⟩,rfl,Vh _,⟨by simp only;omega,by simp only;omega,by simp only;omega,by simp only;omega,zqB,hst⟩,by simp only;omega⟩
     |exact⟨⟨k+1,d,p,_⟩,rfl,Vh _,⟨by simp only;omega,by simp only;omega,by simp only;omega,by simp only;omega,zqB,hst⟩,by simp only;omega⟩
     |(trace_state;fail)
   ·skip
    simp only[if_neg (show ¬isK l k 5 [[40]]=true by rw[hb3];decide)]at hst;refine awp_rseq [0,1,6,7,8,28] (by rfl) fun K hK=>?_;simp+decide only[ev,putD,VG,VH,Ka,Kb,↓qg,qd];refine Qh (cs:=[.str [41]]) (by kernel_rfl) fun k9q2 hk9q2=>?_;have ne_9q2_7q2:k9q2≠k7q2:=by simp only[VU]at hk9q2;simp only[hk9q2,ne_eq,not_false_eq_true]
    have hn_9q2:H k9q2=none:=by first|assumption|(simp only[VU]at hk9q2;simp only[hk9q2])
    have hf_9q2:h k9q2=none:=VV hs_H hn_9q2;refine QS (V:= .bool (isK l k 5 [[41]])) (by rfl) (by rfl) (qnM wz _ v _ l [[41]] k 5 (hv.mono zqB) hl (qie zqA) (by decide)) ?_;simp+decide only[qa,ev,putD,VG,VH,VI,Ka,Kb,↓qf,qc];apply hK;clear hK K;refine qM (b:=_) rfl (fun hb5=>?_) (fun hb5=>?_)
    ·skip
     simp only[if_pos hb5]at hst;have hwd:IntKind.i64.wrap (d-1)=d-1:=wrap_i64 (by omega) (by omega);refine Xa [0,1,6,7,8] (by rfl) ?_;simp+decide only[qa,ev,qK,qG,putD,VG,VH,VI,Ka,Kb,↓qg,qd,↓qo,qh,qE,cond_false,qz,Wl,↓qf,qc,hwd];change Awp _ _ _ _ _ _ _;refine awp_rseq [0,1,6,7,8,45] (by rfl) fun K hK=>?_;simp+decide only[qa,ev,qK,qG,putD,VG,VH,VI,Ka,Kb,↓qg,qd,↓qo,qh,qE,cond_false,qz,XV];apply hK;clear hK K;refine qM (b:=_) rfl (fun hb6=>?_) (fun hb6=>?_)
     ·try simp only[decide_eq_true_eq]at hb6
      rw[if_pos hb6]at hst;have hw1:IntKind.i64.wrap ((k:Int)+1)=(k:Int)+1:=wrap_i64 (by omega) (by omega);have hw2:((k+1-i:Nat):Int)=(k:Int)+1-i:=by omega
      refine awp_rseq [4,5] (by rfl) fun K hK=>?_;simp+decide only[qa,ev,qK,qG,putD,VG,VH,VI,Ka,Kb,↓qg,qd,↓qo,qh,qE,cond_false,qz,QW,qN,Wl,↓qf,qc];try simp(disch:=omega)only[wrap_i64]
      apply hK;clear hK K;refine Qn ?_;try simp only[QM,Xl]
      refine Qu (qJ (qJ (qO))) ?_;simp+decide only[VH,Ka,Zm];rw[hst];exact⟨_,Vh _,by rw[hw2],zqB⟩
     ·try simp only[decide_eq_false_iff_not]at hb6
      rw[if_neg hb6]at hst;have hw1:IntKind.i64.wrap ((k:Int)+1)=((k+1:Nat):Int):=by rw[wrap_i64 (by omega) (by omega)];omega
      refine qV ?_;change Awp _ _ _ _ _ _ _;refine Xa [0,1,6,7,8] (by rfl) ?_;simp+decide only[qa,ev,qK,qG,putD,VG,VH,VI,Ka,Kb,↓qg,qd,↓qo,qh,qE,cond_false,qz,QW,↓qf,qc];try simp(disch:=omega)only[wrap_i64]
      try simp only[qR]
      all_goals first
      |exact⟨⟨k+1,d+1,p,_⟩,rfl,Vh _,⟨by simp only;omega,by simp only;omega,by simp only;omega,by simp only;omega,zqB,hst⟩,by simp only;omega⟩
      |exact⟨⟨k+1,d-1,p,_⟩,rfl,Vh _,⟨by simp only;omega,by simp only;omega,by simp only;omega,by simp only;omega,zqB,hst⟩,by simp only;omega⟩
      |exact⟨⟨k+1,d,true,_⟩,rfl,Vh _,⟨by simp only;omega,by simp only;omega,by simp only;omega,by simp only;omega,zqB,hst⟩,by simp only;omega⟩
      |exact⟨⟨k+1,d,p,_⟩,rfl,Vh _,⟨by simp only;omega,by simp only;omega,by simp only;omega,by simp only;omega,zqB,hst⟩,by simp only;omega⟩
      |(trace_state;fail)
    ·skip
     simp only[if_neg (show ¬isK l k 5 [[41]]=true by rw[hb5];decide)]at hst;refine awp_rseq [0,1,6,7,8,35] (by rfl) fun K hK=>?_;simp+decide only[ev,putD,VG,VH,Ka,Kb,↓qg,qd];refine Qh (cs:=[.str [58]]) (by kernel_rfl) fun k11q2 hk11q2=>?_;have ne_11q2_7q2:k11q2≠k7q2:=by simp only[VU]at hk11q2;simp only[hk11q2,ne_eq,not_false_eq_true]
     have ne_11q2_9q2:k11q2≠k9q2:=by simp only[VU]at hk11q2;simp only[hk11q2,ne_eq,not_false_eq_true]
     have hn_11q2:H k11q2=none:=by first|assumption|(simp only[VU]at hk11q2;simp only[hk11q2])
     have hf_11q2:h k11q2=none:=VV hs_H hn_11q2;refine QS (V:= .bool (isK l k 5 [[58]])) (by rfl) (by rfl) (qnM wz _ v _ l [[58]] k 5 (hv.mono zqB) hl (qie zqA) (by decide)) ?_;simp+decide only[qa,ev,qK,qG,putD,VG,VH,VI,Ka,Kb,↓qg,qd,↓Xc,agP,Qs,qW,qP,qH,implies_true,↓QJ,qh,qE,cond_false,XL,XM,qz,XV,↓QC,Qr,Qe,QT,QH,↓qf,qc];apply hK;clear hK K;refine qM (b:=_) rfl (fun hb7=>?_) (fun hb7=>?_)
     ·try simp only[decide_eq_true_eq,Ky]at hb7
      simp only[if_pos hb7]at hst;refine Xa [0,1,6,7,8] (by rfl) ?_;simp+decide only[qa,ev,qK,qG,putD,VG,VI,Ka,Kb,↓qf,qc];change Awp _ _ _ _ _ _ _;refine awp_rseq [0,1,6,7,8,45] (by rfl) fun K hK=>?_;simp+decide only[qa,ev,qK,qG,putD,VG,VH,VI,Ka,Kb,↓qg,qd,↓qo,qh,qE,cond_false,qz,XV];apply hK;clear hK K;refine qM (b:=_) rfl (fun hb8=>?_) (fun hb8=>?_)
      ·try simp only[decide_eq_true_eq]at hb8
       rw[if_pos hb8]at hst;have hw1:IntKind.i64.wrap ((k:Int)+1)=(k:Int)+1:=wrap_i64 (by omega) (by omega);have hw2:((k+1-i:Nat):Int)=(k:Int)+1-i:=by omega
       refine awp_rseq [4,5] (by rfl) fun K hK=>?_;simp+decide only[qa,ev,qK,qG,putD,VG,VH,VI,Ka,Kb,↓qg,qd,↓qo,qh,qE,cond_false,qz,QW,qN,Wl,↓qf,qc];try simp(disch:=omega)only[wrap_i64]
       apply hK;clear hK K;refine Qn ?_;try simp only[QM,Xl]
       refine Qu (qJ (qJ (qO))) ?_;simp+decide only[VH,Ka,Zm];rw[hst];exact⟨_,Vh _,by rw[hw2],zqB⟩
      ·try simp only[decide_eq_false_iff_not]at hb8
       rw[if_neg hb8]at hst;have hw1:IntKind.i64.wrap ((k:Int)+1)=((k+1:Nat):Int):=by rw[wrap_i64 (by omega) (by omega)];omega
       refine qV ?_;change Awp _ _ _ _ _ _ _;refine Xa [0,1,6,7,8] (by rfl) ?_;simp+decide only[qa,ev,qK,qG,putD,VG,VH,VI,Ka,Kb,↓qg,qd,↓qo,qh,qE,cond_false,qz,QW,↓qf,qc];try simp(disch:=omega)only[wrap_i64]
       try simp only[qR]
       all_goals first
       |exact⟨⟨k+1,d+1,p,_⟩,rfl,Vh _,⟨by simp only;omega,by simp only;omega,by simp only;omega,by simp only;omega,zqB,hst⟩,by simp only;omega⟩
       |exact⟨⟨k+1,d-1,p,_⟩,rfl,Vh _,⟨by simp only;omega,by simp only;omega,by simp only;omega,by simp only;omega,zqB,hst⟩,by simp only;omega⟩
       |exact⟨⟨k+1,d,true,_⟩,rfl,Vh _,⟨by simp only;omega,by simp only;omega,by simp only;omega,by simp only;omega,zqB,hst⟩,by simp only;omega⟩
       |exact⟨⟨k+1,d,p,_⟩,rfl,Vh _,⟨by simp only;omega,by simp only;omega,by simp only;omega,by simp only;omega,zqB,hst⟩,by simp only;omega⟩
       |(trace_state;fail)
     ·try simp only[decide_eq_false_iff_not,VO]at hb7
      simp only[if_neg (show ¬(isK l k 5 [[58]]=true/\d=1)from fun q=>by rcases hb7 with z|z;(· rw[q.1]at z;cases z);exact z q.2)]at hst;refine qV ?_;change Awp _ _ _ _ _ _ _;refine awp_rseq [0,1,6,7,8,45] (by rfl) fun K hK=>?_;simp+decide only[qa,ev,qK,qG,putD,VG,VH,VI,Ka,Kb,↓qg,qd,↓qo,qh,qE,cond_false,qz,XV];apply hK;clear hK K;refine qM (b:=_) rfl (fun hb9=>?_) (fun hb9=>?_)
      ·try simp only[decide_eq_true_eq]at hb9
       rw[if_pos hb9]at hst;have hw1:IntKind.i64.wrap ((k:Int)+1)=(k:Int)+1:=wrap_i64 (by omega) (by omega);have hw2:((k+1-i:Nat):Int)=(k:Int)+1-i:=by omega
       refine awp_rseq [4,5] (by rfl) fun K hK=>?_;simp+decide only[qa,ev,qK,qG,putD,VG,VH,VI,Ka,Kb,↓qg,qd,↓qo,qh,qE,cond_false,qz,QW,qN,Wl,↓qf,qc];try simp(disch:=omega)only[wrap_i64]
       apply hK;clear hK K;refine Qn ?_;try simp only[QM,Xl]
       refine Qu (qJ (qJ (qO))) ?_;simp+decide only[VH,Ka,Zm];rw[hst];exact⟨_,Vh _,by rw[hw2],zqB⟩
      ·try simp only[decide_eq_false_iff_not]at hb9
       rw[if_neg hb9]at hst;have hw1:IntKind.i64.wrap ((k:Int)+1)=((k+1:Nat):Int):=by rw[wrap_i64 (by omega) (by omega)];omega
       refine qV ?_;change Awp _ _ _ _ _ _ _;refine Xa [0,1,6,7,8] (by rfl) ?_;simp+decide only[qa,ev,qK,qG,putD,VG,VH,VI,Ka,Kb,↓qg,qd,↓qo,qh,qE,cond_false,qz,QW,↓qf,qc];try simp(disch:=omega)only[wrap_i64]
       try simp only[qR]
       all_goals first
       |exact⟨⟨k+1,d+1,p,_⟩,rfl,Vh _,⟨by simp only;omega,by simp only;omega,by simp only;omega,by simp only;omega,zqB,hst⟩,by simp only;omega⟩
       |exact⟨⟨k+1,d-1,p,_⟩,rfl,Vh _,⟨by simp only;omega,by simp only;omega,by simp only;omega,by simp only;omega,zqB,hst⟩,by simp only;omega⟩
       |exact⟨⟨k+1,d,true,_⟩,rfl,Vh _,⟨by simp only;omega,by simp only;omega,by simp only;omega,by simp only;omega,zqB,hst⟩,by simp only;omega⟩
       |exact⟨⟨k+1,d,p,_⟩,rfl,Vh _,⟨by simp only;omega,by simp only;omega,by simp only;omega,by simp only;omega,zqB,hst⟩,by simp only;omega⟩
       |(trace_state;fail)
  ·try simp only[decide_eq_false_iff_not]at hb2
   have hk:k=l.length:=by omega
   have hst:R=(0,false):=by
    rw[g5,hk,show l.length+1-l.length=0+1 by omega,UO,if_neg (Nat.lt_irrefl _)]
   refine QI ?_;change Awp _ _ _ _ _ _ _;refine awp_rseq [4,5] (by rfl) fun K hK=>?_;simp+decide only[qa,ev,qK,qG,putD,VG,VI,Ka,Kb,↓qf,qc];apply hK;clear hK K;refine Qn ?_;refine Qu (qJ (qJ (qO))) ?_;simp+decide only[VH,Ka,Zm];rw[hst];exact⟨H,Vh _,rfl,hs_H⟩
def operV:Option Nat->AVal
 |some n=> .tuple [.int .i64 n, .int .i64 0]
 |none=> .tuple [.int .i64 0, .int .i64 4]
structure QuG where
 n:Nat
 f:Nat
 H:AHeap
theorem qkM{W:Words}{l:List TokC}{i:Nat}(h:qgT W l i=true):i<l.length:=by
 unfold qgT at h;by_cases hi:i<l.length
 ·exact hi
 ·rw[if_neg hi]at h;cases h
theorem qje(l:List TokC)(i:Nat):∀(f k:Nat) (d:Int) (p:Bool),i<=k->i<=l.length->i+(UO l i f k d p).1<=l.length
 |0,k,d,p,hk,hi=>by simpa[UO]using hi
 |f+1,k,d,p,hk,hi=>by
  rw[UO];by_cases h:k<l.length
  ·rw[if_pos h]
   simp only;generalize (if isK l k 5 [[40]]=true then d+1 else if isK l k 5 [[41]]=true then d-1 else d)=d';generalize (if isK l k 5 [[40]]=true then p else if isK l k 5 [[41]]=true then p else if isK l k 5 [[58]]=true/\d=1 then true else p)=p';by_cases h2:d'=0
   ·rw[if_pos h2];simp only;omega
   ·rw[if_neg h2];exact qje l i f (k+1) _ _ (by omega) hi
  ·rw[if_neg h];simpa using hi
theorem qkP{l:List TokC}{i:Nat}(hi:i<=l.length):i+(YW l i).1<=l.length:=by
 unfold YW;split
 ·exact qje l i _ i 0 false (KM _) hi
 ·simpa using hi
def qfO(l:List TokC):Bool:=if l=[]then true else !(decide ((l.getD 0 noT).kind=2)||decide ((l.getD 0 noT).kind=3)||(decide ((l.getD 0 noT).kind=1) && decide (qaK (l.getD 0 noT).text=3)))
structure OpG where
 b:Bool
 H:AHeap
set_option maxHeartbeats 4000000 in
theorem qsS(wz:World)(ha:Asp wz)(h:AHeap)(v:AVal)(l:List TokC)(hv:IsL wz h 5 v (l.map Xy))(hl:l.length<=1000000):
 ACall Tryz.prog wz 113 [v] h (fun r h'=>r=operV (qci QV l)/\Sub h h'):=by
 have hlv:=hv.live;have nv:=Zt hv;have hR:qci QV l=if qgT QV l 0=true then some (if 0<(YW l (Wj QV l l.length 1)).1/\(YW l (Wj QV l l.length 1)).2=false then(if (YW l (Wj QV l l.length 1+(YW l (Wj QV l l.length 1)).1)).2=true then Wj QV l l.length 1+(YW l (Wj QV l l.length 1)).1+(YW l (Wj QV l l.length 1+(YW l (Wj QV l l.length 1)).1)).1 else Wj QV l l.length 1+(YW l (Wj QV l l.length 1)).1)else Wj QV l l.length 1+(YW l (Wj QV l l.length 1)).1)
  else if l=[]then none else if (l.getD 0 noT).kind=2\/(l.getD 0 noT).kind=3\/((l.getD 0 noT).kind=1/\decide (qaK (l.getD 0 noT).text=3)=true)then some 1 else none:=rfl
 obtain⟨R,hR'⟩:∃R,R=qci QV l:=⟨_,rfl⟩
 rw[<-hR']at hR|-
 refine Ql (n:=82) (rs:=[.tmp 2, .tmp 3]) Tryz.func113 rfl rfl rfl rfl (VF rfl) ?_;simp only[Qm];refine awp_rseq [0] (by rfl) fun K hK=>?_;simp+decide only[qa,ev,qK,qG,putD,VG,VI,Ka,Kb,↓qf,qc];apply hK;clear hK K;refine qF ?_;refine awp_rseq [0,11] (by rfl) fun K hK=>?_;simp+decide only[ev,putD,VG,VH,Ka,Kb,↓qg,qd];refine qY (by rfl) (by rfl) (qrv wz ha _ v l 0 hv hl) fun x1q1 h1q1 hx1q1=>?_;obtain⟨rfl,hs1⟩:=hx1q1;have hs_h1q1:Sub h h1q1:=Ba zqC hs1;have hr_h1q1:=hs_h1q1;simp+decide only[qa,ev,putD,VG,VH,VI,Ka,Kb,↓qeB,Zn,YJ];apply hK;clear hK K;refine qM (b:=_) rfl (fun hb1=>?_) (fun hb1=>?_)
 ·try simp only[Ji]at hb1
  rw[if_neg (by rw[hb1];decide)]at hR;have hR2:R=if qfO l=true then none else some 1:=by
   rw[hR];unfold qfO;by_cases hl0:l=[]
   ·rw[if_pos hl0,if_pos hl0];rfl
   ·rw[if_neg hl0,if_neg hl0]
    by_cases q:(l.getD 0 noT).kind=2\/(l.getD 0 noT).kind=3\/((l.getD 0 noT).kind=1/\decide (qaK (l.getD 0 noT).text=3)=true)
    ·rw[if_pos q,if_neg]
     simp only[Ji,VL,Bb,decide_eq_false_iff_not,decide_eq_true_eq];rintro⟨⟨q1,q2⟩,q3⟩;rcases q with q|q|q
     ·exact q1 q
     ·exact q2 q
     ·exact q3 q.1 (of_decide_eq_true q.2)
    ·rw[if_neg q,if_pos]
     simp only[Ji,VL,Bb,decide_eq_false_iff_not,decide_eq_true_eq];exact⟨⟨fun z=>q (.inl z),fun z=>q (.inr (.inl z))⟩,fun z1 z2=>q (.inr (.inr ⟨z1,decide_eq_true z2⟩))⟩
  clear hR;refine qF ?_;have mcase:(∃(lc:AM.Loc) (o:Nat) (c:Cap),v=v/\decide ((l.length:Int)=0)=true/\True/\True/\True/\True/\True/\True/\qfO l=true)\/
   (∃(lc:AM.Loc) (o:Nat) (c:Cap),v= .slice lc o l.length c/\decide ((l.length:Int)=0)=false/\((0:Int)<l.length)=True/\decide (((l.getD 0 noT).kind.toNat:Int)=2)=true/\True/\True/\rd wz h1q1 lc o= .int .u8 (l.getD 0 noT).kind.toNat/\True/\qfO l=false)\/
   (∃(lc:AM.Loc) (o:Nat) (c:Cap),v= .slice lc o l.length c/\decide ((l.length:Int)=0)=false/\((0:Int)<l.length)=True/\decide (((l.getD 0 noT).kind.toNat:Int)=2)=false/\decide (((l.getD 0 noT).kind.toNat:Int)=3)=true/\True/\rd wz h1q1 lc o= .int .u8 (l.getD 0 noT).kind.toNat/\True/\qfO l=false)\/
   (∃(lc:AM.Loc) (o:Nat) (c:Cap),v= .slice lc o l.length c/\decide ((l.length:Int)=0)=false/\((0:Int)<l.length)=True/\decide (((l.getD 0 noT).kind.toNat:Int)=2)=false/\decide (((l.getD 0 noT).kind.toNat:Int)=3)=false/\decide (((l.getD 0 noT).kind.toNat:Int)=1)=false/\rd wz h1q1 lc o= .int .u8 (l.getD 0 noT).kind.toNat/\True/\qfO l=true)\/
   (∃(lc:AM.Loc) (o:Nat) (c:Cap),v= .slice lc o l.length c/\decide ((l.length:Int)=0)=false/\((0:Int)<l.length)=True/\decide (((l.getD 0 noT).kind.toNat:Int)=2)=false/\decide (((l.getD 0 noT).kind.toNat:Int)=3)=false/\decide (((l.getD 0 noT).kind.toNat:Int)=1)=true/\rd wz h1q1 lc o= .int .u8 (l.getD 0 noT).kind.toNat/\rd wz h1q1 lc (o+1)= .str (l.getD 0 noT).text/\qfO l= !decide (((qaK (l.getD 0 noT).text:Nat):Int)=3)):=by
   have hb:qfO l=if l=[]then true else !(decide ((l.getD 0 noT).kind=2)||decide ((l.getD 0 noT).kind=3)||(decide ((l.getD 0 noT).kind=1) && decide (qaK (l.getD 0 noT).text=3))):=rfl
   by_cases hl0:l=[]
   ·rw[if_pos hl0]at hb
    exact .inl ⟨.base 0,0, .exact 0,rfl,by rw[hl0];rfl,trivial,trivial,trivial,trivial,trivial,trivial,hb⟩
   ·rw[if_neg hl0]at hb
    have hn:0<l.length:=Bc.2 hl0;obtain⟨lc,o,c,hwe⟩:=ZT hv hn;have hv2:=hv.mono hr_h1q1;rw[hwe]at hv2;obtain⟨e0,e1,-⟩:=WE hv2 hn;rw[K8,K7]at e0 e1;have hkd:decide ((l.length:Int)=0)=false:=by rw[decide_eq_false_iff_not];omega
    have hp:((0:Int)<l.length)=True:=eq_true (by omega);obtain⟨t,ht⟩:∃t,t=l.getD 0 noT:=⟨_,rfl⟩
    rw[<-ht]at e0 e1 hb|-
    have z2:decide ((t.kind.toNat:Int)=2)=decide (t.kind=2):=ZY t.kind 2;have z3:decide ((t.kind.toNat:Int)=3)=decide (t.kind=3):=ZY t.kind 3;have z1:decide ((t.kind.toNat:Int)=1)=decide (t.kind=1):=ZY t.kind 1;rw[z1,z2,z3];by_cases q2:t.kind=2
    ·exact .inr (.inl ⟨lc,o,c,hwe,hkd,hp,by simpa using q2,trivial,trivial,e0,trivial,by rw[hb,decide_eq_true q2];rfl⟩)
    ·rw[decide_eq_false q2]at hb
     by_cases q3:t.kind=3
     ·exact .inr (.inr (.inl ⟨lc,o,c,hwe,hkd,hp,by simpa using q2,by simpa using q3,trivial,e0,trivial,by rw[hb,decide_eq_true q3];rfl⟩))
     ·rw[decide_eq_false q3]at hb
      by_cases q1:t.kind=1
      ·rw[decide_eq_true q1]at hb
       refine .inr (.inr (.inr (.inr ⟨lc,o,c,hwe,hkd,hp,by simpa using q2,by simpa using q3,by simpa using q1,e0,e1,?_⟩)));rw[hb,V7,V7,VP];congr 1;by_cases q:qaK t.text=3
       ·rw[q];rfl
       ·rw[decide_eq_false q,decide_eq_false (by omega)]
      ·exact .inr (.inr (.inr (.inl ⟨lc,o,c,hwe,hkd,hp,by simpa using q2,by simpa using q3,by simpa using q1,e0,trivial,by rw[hb,decide_eq_false q1];rfl⟩)))
  refine awp_rseq [43] (by kernel_rfl) fun K hK=>?_;suffices hM:∀g:OpG,g.b=qfO l/\Sub h1q1 g.H->K [(43, .bool g.b)] (g.H) by
   rcases mcase with⟨lc,o,c,hwe,hkd,hp,hk2,hk3,hk1,e0,e1,hbad⟩|⟨lc,o,c,hwe,hkd,hp,hk2,hk3,hk1,e0,e1,hbad⟩|⟨lc,o,c,hwe,hkd,hp,hk2,hk3,hk1,e0,e1,hbad⟩|⟨lc,o,c,hwe,hkd,hp,hk2,hk3,hk1,e0,e1,hbad⟩|⟨lc,o,c,hwe,hkd,hp,hk2,hk3,hk1,e0,e1,hbad⟩<;>(
    simp+decide only[ev,qK,qG,putD,VG,VH,Ka,Kb,and_true,↓qg,qd,↓QB,Qo,Xr Tryz.underlying39,↓qo,qh,qE,cond_false,qz,XV,↓Xc,agP,Qs,qW,qP,qH,qU,implies_true,Bd,Be,Qf,QO,false_implies,Zl,J4,Bf,qeC,UB,qlh,↓Zp,Xp,ZL,qA Tryz.underlying39 Yl,↓Xe,qi,WZ,↓XJ,qj qjH,↓QJ,WW,↓WS,Qr,Qe,QH,qbw,qj ag9,QL,Qw,J4,nv,hwe,hkd,hp,hk2,hk3,hk1,e0,e1,Bg,K8,K7,gb_no,QO,Qf];have hs27r:Sub h1q1 h1q1:=Vh _;first
    |(refine UC (g:= .tuple []) (V:= .int .u8 0) (f:=0) (cap:=[]) (xs:=[]) (by rfl) (by rfl) (fun hg=>absurd hg (by decide)) (fun hg=>absurd hg (by decide)) fun h2q27 hs27=>?_)
    |(refine UC (g:= .bool true) (V:= .int .u8 0) (f:=0) (cap:=[]) (xs:=[]) (by rfl) (by rfl) (fun hg=>absurd hg (by decide)) (fun hg=>absurd hg (by decide)) fun h2q27 hs27=>?_)
    |(refine UC (g:= .bool false) (V:= .int .u8 (qaK (l.getD 0 noT).text:Nat)) (f:=124) (cap:=[]) (xs:=[.str (l.getD 0 noT).text]) (by rfl) (by rfl) (fun _=>⟨rfl,rfl⟩) (fun _=>qnH wz ha _ _) fun h2q27 hs27=>?_)
    simp+decide only[qa,ev,qK,qG,putD,VG,VH,VI,Ka,Kb,qW,qH,qU,↓QJ,qh,agP,Qs,qP,implies_true,Bd,Be,Qf,QO,false_implies,qbo,Zl,J4,VP,Bool.or_true,V7,qE,cond_false,qz,WW,↓WS,Qr,Qe,QH,XO,↓QC,J4,gb_no,QO,Qf,VP];first
    |exact hM ⟨_,_⟩ ⟨hbad.symm,by assumption⟩
    |(trace_state;fail))
  intro g hb_2;apply hK;clear hK K;refine qM (b:=_) rfl (fun hb2=>?_) (fun hb2=>?_)
  ·skip
   refine awp_rseq [2,3] (by rfl) fun K hK=>?_;simp+decide only[qa,ev,qK,qG,putD,VG,VI,Ka,Kb,↓qf,qc];apply hK;clear hK K;refine Qn ?_;try simp only[QM]
   refine Qu (qJ (qJ (qO))) ?_;simp+decide only[VH,Ka,Zm];rw[hR2,if_pos (by rw[<-hb_2.1];exact hb2)];exact⟨g.H,Vh _,rfl,hs_h1q1.trans hb_2.2⟩
  ·skip
   refine qV ?_;change Awp _ _ _ _ _ _ _;refine awp_rseq [2,3] (by rfl) fun K hK=>?_;simp+decide only[qa,ev,qK,qG,putD,VG,VI,Ka,Kb,↓qf,qc];apply hK;clear hK K;refine Qn ?_;try simp only[QM]
   refine Qu (qJ (qJ (qO))) ?_;simp+decide only[VH,Ka,Zm];rw[hR2,if_neg (by rw[<-hb_2.1,hb2];decide)];exact⟨g.H,Vh _,rfl,hs_h1q1.trans hb_2.2⟩
 ·try simp only[VK]at hb1
  rw[if_pos hb1]at hR;have hn1:=qkM hb1;refine qV ?_;change Awp _ _ _ _ _ _ _;refine awp_rseq [0,4] (by rfl) fun K hK=>?_;simp+decide only[qa,ev,qK,qG,putD,VG,VI,Ka,Kb,↓qf,qc];apply hK;clear hK K;refine qF ?_;refine Qb ?_;refine QN [0,4] (fun g:QuG=>[(0,v),(4, .int .i64 g.n)]) (fun g:QuG=>g.H) (fun g:QuG=>Sub h g.H/\g.n<=l.length/\l.length<=g.f+g.n/\Wj QV l l.length 1=Wj QV l g.f g.n) (fun g:QuG=>l.length-g.n) ⟨1,l.length,_⟩ (by rfl) (Vh _) ⟨zqB,by simp only;omega,by simp only;omega,rfl⟩ ?_;rintro⟨n,f,H⟩ ⟨hs_H,g1,g2,g3⟩;simp only at hs_H g1 g2 g3|-
  refine qF ?_;obtain⟨kb,hkb⟩:∃kb,kb=isK l n 1 [[79,70],[73,78]]:=⟨_,rfl⟩
  refine awp_rseq [0,4,53] (by rfl) fun K hK=>?_;simp+decide only[ev,putD,VG,VH,Ka,Kb,↓qg,qd];refine Qh (cs:=[.str [79,70], .str [73,78]]) (by kernel_rfl) fun k6q2 hk6q2=>?_;have hn_6q2:H k6q2=none:=by first|assumption|(simp only[VU]at hk6q2;simp only[hk6q2])
  have hf_6q2:h k6q2=none:=VV hs_H hn_6q2;refine QS (V:= .bool kb) (by rfl) (by rfl) (by rw[hkb];exact qnM wz _ v _ l _ n 1 (hv.mono zqB) hl (qbD (l:=[[79,70],[73,78]]) zqA) (by decide)) ?_;simp+decide only[ev,qK,qG,putD,VG,VH,Ka,Kb,↓qg,qd,↓Xc,agP,Qs,qW,qP,qH,implies_true,↓QJ,qh,qE,cond_false,XL,XM,qz,QW];try simp(disch:=omega)only[wrap_i64]
  refine UC (g:= .bool kb) (V:= .bool (qgT QV l (n+1))) (f:=123) (cap:=[]) (xs:=[v, .int .i64 ((n+1:Nat):Int)]) (by rfl) (by rfl) (fun hg=>⟨rfl,by
   have hg':kb=true:=by rwa [qH]at hg
   simp+decide only[evs,ev,VH,Ka,hg',Qf,Jz,Ke,Vj];rfl⟩) (fun hg=>qrv wz ha _ v l (n+1) (hv.mono zqB) hl) fun h6q8 hs68=>?_
  have hs_h6q8:Sub h h6q8:=Ba zqC hs68;have hr_h6q8:Sub H h6q8:=Ba zqC hs68;have eb_6q2:=hs68 k6q2 _ zqA;simp+decide only[qa,ev,qK,qG,putD,VG,VH,VI,Ka,Kb,qH,↓QC,Qr,Qe,QT,QH];apply hK;clear hK K;refine qM (b:=_) rfl (fun hb3=>?_) (fun hb3=>?_)
  ·try simp only[Ky]at hb3
   obtain⟨q1,q2⟩:=hb3;have hn2:=qkM q2;obtain⟨f',hf'⟩:∃f',f=f'+1:=⟨f-1,by omega⟩
   rw[hf',Wj,if_pos ⟨by rw[<-hkb];exact q1,q2⟩]at g3;refine qV ?_;change Awp _ _ _ _ _ _ _;refine Qb ?_;refine Xa [0,4] (by rfl) ?_;simp+decide only[qa,ev,qK,qG,putD,VG,VH,VI,Ka,Kb,↓qg,qd,↓qo,qh,qE,cond_false,qz,QW,↓qf,qc];try simp(disch:=omega)only[wrap_i64]
   try simp only[qR,Zg]
   exact⟨⟨n+2,f',_⟩,rfl,Vh _,⟨zqB,by simp only;omega,by simp only;omega,g3⟩,by simp only;omega⟩
  ·try simp only[VO]at hb3
   have g4:Wj QV l l.length 1=n:=by
    rw[g3];cases f with
    |zero=>rfl
    |succ f'=>
     rw[Wj,if_neg];rw[<-hkb];rintro⟨q1,q2⟩;rcases hb3 with z|z
     ·rw[q1]at z;cases z
     ·rw[q2]at z;cases z
   rw[g4]at hR;obtain⟨g,hg⟩:∃g,g=YW l n:=⟨_,rfl⟩
   have hgl:=qkP (l:=l) g1;rw[<-hg]at hR hgl;refine QI ?_;change Awp _ _ _ _ _ _ _;refine awp_rseq [0,4,5,6] (by rfl) fun K hK=>?_;simp+decide only[ev,putD,VG,VH,Ka,Kb,↓qg,qd];refine qY (by rfl) (by rfl) (qry wz _ v l n (hv.mono zqB) hl) fun x8q2 h8q2 hx8q2=>?_;obtain⟨rfl,hs8⟩:=hx8q2;rw[<-hg];have hs_h8q2:Sub h h8q2:=Ba zqC hs8;have hr_h8q2:Sub h6q8 h8q2:=Ba zqC hs8;have eb_6q2:=hs8 k6q2 _ zqA;simp+decide only[qa,ev,putD,VG,VH,VI,Ka,Kb,↓qg,qd,↓Xu,Xk,XA,KY,JN,VJ,Kn,↓qf,qc,VJ,Kn,Jq,Nat.reduceAdd];apply hK;clear hK K;refine awp_rseq [0,4,5,6] (by rfl) fun K hK=>?_;simp+decide only[qa,ev,putD,VG,VH,VI,Ka,Kb,↓qg,qd,↓qo,qh,qN,cond_false,qz,QW,↓qf,qc];try simp(disch:=omega)only[wrap_i64]
   apply hK;clear hK K;refine qF ?_;refine awp_rseq [0,4,70] (by rfl) fun K hK=>?_;simp+decide only[qa,ev,qK,qG,putD,VG,VH,VI,Ka,Kb,↓qg,qd,↓qo,qh,qE,cond_false,qz,Yk,↓Xc,agP,Qs,qW,qP,qH,implies_true,↓WR,Zn,YJ,qhN,qhO,↓QC,Qr,Qe,QT,QH];apply hK;clear hK K;refine qM (b:=_) rfl (fun hb4=>?_) (fun hb4=>?_)
   ·try simp only[decide_eq_true_eq,Ji,Ky]at hb4
    rw[if_pos ⟨by omega,hb4.2⟩]at hR;obtain⟨g',hg'⟩:∃g',g'=YW l (n+g.1):=⟨_,rfl⟩
    have hgl':=qkP (l:=l) (i:=n+g.1) (by omega);rw[<-hg']at hR hgl';refine awp_rseq [4,7,8] (by rfl) fun K hK=>?_;simp+decide only[ev,putD,VG,VH,Ka,Kb,↓qg,qd];refine qY (by rfl) (by rfl) (qry wz _ v l (n+g.1) (hv.mono zqB) hl) fun x11q2 h11q2 hx11q2=>?_;obtain⟨rfl,hs11⟩:=hx11q2;rw[<-hg'];have hs_h11q2:Sub h h11q2:=Ba zqC hs11;have hr_h11q2:Sub h8q2 h11q2:=Ba zqC hs11;have eb_6q2:=hs11 k6q2 _ zqA;simp+decide only[qa,ev,putD,VG,VH,VI,Ka,Kb,↓qg,qd,↓Xu,Xk,XA,KY,JN,VJ,Kn,↓qf,qc,VJ,Kn,Jq,Nat.reduceAdd];apply hK;clear hK K;refine awp_rseq [4,7,77] (by rfl) fun K hK=>?_;simp+decide only[qa,ev,putD,VG,VH,VI,Ka,Kb,↓qg,qd];apply hK;clear hK K;refine qM (b:=_) rfl (fun hb5=>?_) (fun hb5=>?_)
    ·skip
     rw[if_pos hb5]at hR;refine Xa [4] (by rfl) ?_;simp+decide only[qa,ev,putD,VG,VH,VI,Ka,Kb,↓qg,qd,↓qo,qh,qN,cond_false,qz,QW,↓qf,qc];try simp(disch:=omega)only[wrap_i64]
     change Awp _ _ _ _ _ _ _;refine awp_rseq [2,3] (by rfl) fun K hK=>?_;simp+decide only[qa,ev,qK,qG,putD,VG,VH,VI,Ka,Kb,↓qg,qd,↓qf,qc];apply hK;clear hK K;refine Qn ?_;refine Xf h zqC (qJ (qJ (qO))) ?_;simp+decide only[VH,Ka,Zm];rw[hR];exact⟨rfl,zqB⟩
    ·skip
     rw[if_neg (by rw[hb5];decide)]at hR;refine qV ?_;change Awp _ _ _ _ _ _ _;refine awp_rseq [2,3] (by rfl) fun K hK=>?_;simp+decide only[qa,ev,qK,qG,putD,VG,VH,VI,Ka,Kb,↓qg,qd,↓qf,qc];apply hK;clear hK K;refine Qn ?_;refine Xf h zqC (qJ (qJ (qO))) ?_;simp+decide only[VH,Ka,Zm];rw[hR];exact⟨rfl,zqB⟩
   ·try simp only[decide_eq_false_iff_not,VK,VO]at hb4
    rw[if_neg (by
     rintro⟨q1,q2⟩;rcases hb4 with z|z
     ·omega
     ·rw[q2]at z;cases z)]at hR
    refine qV ?_;change Awp _ _ _ _ _ _ _;refine awp_rseq [2,3] (by rfl) fun K hK=>?_;simp+decide only[qa,ev,qK,qG,putD,VG,VH,VI,Ka,Kb,↓qg,qd,↓qf,qc];apply hK;clear hK K;refine Qn ?_;refine Xf h zqC (qJ (qJ (qO))) ?_;simp+decide only[VH,Ka,Zm];rw[hR];exact⟨rfl,zqB⟩
end Go.Proofs.YtgiadjbiimkbiaaGreatDoor
namespace Go.AM
theorem qaO{P:Program}{wz:World}{ops rest:List Oper}{s:Slots}{h:AHeap}{K:Slots->AHeap->Prop}{dst:Option Tmp}{ty:TypeId}{pos:String}{af:Array Edge}{ts:Array TypeId}{t u e:TypeId}{d:TypeDesc}{x y:Operand}{v v':AVal}{es by':Nat}{z:Value}{xs ys:List (List AVal)}
 (h0:ts[0]?=some t) (h1:ts[1]?=some u) (ht:P.underlying t=some (.slice e)) (hu:P.underlying u=some d) (hd:∀k,d≠ .int k)
 (hs:ZH P e=some es) (hb:qdO P e=some by') (hz:Ua P e=some z) (hzs:z.cells.size=es) (hes:es≠0)
 (hx:ev s x=Zi v) (hv:IsL wz h es v xs) (hy:ev s y=v') (hv':IsL wz h es v' ys) (hne:ys.length≠0)
 (hl:(xs.length+ys.length)*by'<=140737488355328) (hl':xs.length+ys.length<4611686018427387904)
 (hk:∀k,h k=none->IsL wz (h.set k ⟨(xs++ys).flatten,0⟩) es (.slice (.own k) 0 (xs.length+ys.length) (.grow es)) (xs++ys)->QA P wz ops rest (putD s dst (.slice (.own k) 0 (xs.length+ys.length) (.grow es))) (h.set k ⟨(xs++ys).flatten,0⟩) K):
 QA P wz ops (⟨dst, .call ⟨.builtin .append,[x,y].toArray,ts⟩,ty,pos,af,none⟩::rest) s h K:=by
 obtain⟨s1,s2,s3⟩:=hv'.src;have hw:∀x∈xs++ys,x.length=es:=fun x hx=>by
  rcases JR.1 hx with h|h
  ·exact hv.wide x h
  ·exact hv'.wide x h
 have hal:allLive (xs++ys).flatten=true:=by rw[Vt,Ya,hv.allLive,hv'.allLive];rfl
 have key:∀k,h k=none->QA P wz ops rest (putD s dst (.slice (.own k) 0 (xs.length+ys.length) (.grow es))) (h.set k ⟨xs.flatten++ys.flatten,0⟩) K:=fun k hk0=>by
  have:=hk k hk0 (by rw[<-Jc];exact Bh (Vg _ _ _) hw rfl hal (.grow es) rfl)
  rwa [Vt]at this
 rw[qbz];simp only[eop,evs,Ke,Vj,hx,hy,qeu,h0,h1,ht,hu,hs,hb,hz,s1];refine⟨hd,⟨hes,hzs⟩,s2,?_⟩;cases hv with
 |nil=>
  simp only[Zi];simp only[JN,Jq,List.flatten_nil,Je]at hl hl' key;exact⟨fun e0=>absurd e0 hne,fun _=>⟨⟨hl,hl'⟩,fun k hk0 _=>by rw[s3];exact key k hk0⟩⟩
 |mk lc o n c xs hn hw hc hl2 hcap=>
  subst hn;simp only[Zi];refine⟨fun h1=>by omega,fun _=>⟨⟨by rw[hc];exact hl2,hl,hl'⟩,fun k hk0 _=>?_⟩⟩;rw[hc,s3];exact key k hk0
theorem qjI{P:Program}{wz:World}{ops rest:List Oper}{s:Slots}{H:AHeap}{K:Slots->AHeap->Prop}{dst:Option Tmp}{ty:TypeId}{pos:String}{af:Array Edge}{ts:Array TypeId}{t u e:TypeId}{d:TypeDesc}{x y:Operand}{v':AVal}{es by' k:Nat}{c:Cap}{z:Value}{xs ys:List (List AVal)}
 (h0:ts[0]?=some t) (h1:ts[1]?=some u) (ht:P.underlying t=some (.slice e)) (hu:P.underlying u=some d) (hd:∀k,d≠ .int k)
 (hs:ZH P e=some es) (hb:qdO P e=some by') (hz:Ua P e=some z) (hzs:z.cells.size=es) (hes:es≠0)
 (hx:ev s x= .slice (.own k) 0 xs.length c) (hc:c= .exact xs.length\/c= .grow es) (hk:H k=some ⟨xs.flatten,0⟩) (hw:∀x∈xs,x.length=es) (hal:allLive xs.flatten=true) (hy:ev s y=v') (hv':IsL wz H es v' ys) (hsc:QU ys.flatten=true) (hne:ys.length≠0)
 (hl:(xs.length+ys.length)*by'<=140737488355328) (hl':xs.length+ys.length<4611686018427387904)
 (hkk:∀k' H',H' k'=some ⟨(xs++ys).flatten,0⟩->(H k'=none\/k'=k)->(∀j d,H j=some d->j≠k->H' j=some d/\j≠k')->QA P wz ops rest (putD s dst (.slice (.own k') 0 (xs.length+ys.length) (.grow es))) H' K):
 QA P wz ops (⟨dst, .call ⟨.builtin .append,[x,y].toArray,ts⟩,ty,pos,af,none⟩::rest) s H K:=by
 rcases hc with rfl|rfl
 ·refine qaO (v:= .slice (.own k) 0 xs.length (.exact xs.length)) h0 h1 ht hu hd hs hb hz hzs hes hx (Bh hk hw rfl hal (.exact _) (KM _)) hy hv' hne hl hl' fun k' hk' _=>?_
  refine hkk k' _ (Vg _ _ _) (.inl hk') fun j d hj _=>?_;have hne':j≠k':=fun e=>by subst e;rw[hk']at hj;cases hj
  exact⟨(Vf _ _ hne').trans hj,hne'⟩
 ·have hlen:xs.flatten.length / es=xs.length:=by rw[XT hw,Vl _ (Vk hes)]
  refine qbc (zs:=xs) (H0:=H.del k) (b:=some ⟨k,xs.flatten⟩) h0 h1 ht hu hd hs hb hz hzs hes (by rw[hx];simp only[qeH,hlen]) ⟨by simp[Bi],by simp only;rw[XT hw];exact Nat.mul_mod_left _ _,hal⟩ rfl hw ?_ hy hv' hsc hl hl' fun b' h' o1 o2 o3=>?_
  ·intro j d hj
   by_cases e:j=k
   ·subst e
    rw[show qeI (H.del j) (some ⟨j,xs.flatten⟩)=(H.del j).set j ⟨xs.flatten,0⟩from rfl,Vg]at hj;rw[<-hj];exact hk
   ·rw[show qeI (H.del k) (some ⟨k,xs.flatten⟩)=(H.del k).set k ⟨xs.flatten,0⟩from rfl,Vf _ _ e]at hj
    simpa[Bi,e]using hj
  ·cases b' with
   |none=>
    exfalso;have e0:((xs++ys).flatten).length=0:=by rw[<-o2];rfl
    have hw2:∀x∈xs++ys,x.length=es:=fun x hx=>by
     rcases JR.1 hx with h|h
     ·exact hw x h
     ·exact hv'.wide x h
    rw[XT hw2,Jc]at e0;rcases Nat.mul_eq_zero.1 e0 with e|e
    ·omega
    ·exact hes e
   |some b'=>
    obtain⟨kb,cells⟩:=b';have hcl:cells=(xs++ys).flatten:=o2;subst hcl;have hw2:∀x∈xs++ys,x.length=es:=fun x hx=>by
     rcases JR.1 hx with h|h
     ·exact hw x h
     ·exact hv'.wide x h
    have hlen2:(xs++ys).flatten.length / es=xs.length+ys.length:=by rw[XT hw2,Vl _ (Vk hes),Jc]
    have hkb:(H.del k) kb=none:=o1.1;have hr:=hkk kb h' (o3 _ _ (Vg _ _ _)) (by
     by_cases e:kb=k
     ·exact .inr e
     ·left;simpa[Bi,e]using hkb) (fun j d hj hjk=>by
     have hdj:(H.del k) j=some d:=by simpa[Bi,hjk]using hj
     have hjb:j≠kb:=fun e=>by subst e;rw[hdj]at hkb;cases hkb
     exact⟨o3 _ _ ((Vf _ _ hjb).trans hdj),hjb⟩)
    simp only[qeH,hlen2];exact hr
def emp:AHeap:=fun _=>none
def one(k:Nat)(b:Blk):AHeap:=fun j=>if j=k then some b else none
theorem one_at(k:Nat)(b:Blk):one k b k=some b:=by simp[one]
theorem qiZ{k j:Nat}(b:Blk)(h:j≠k):one k b j=none:=by simp[one,h]
theorem qiY{k j:Nat}{b c:Blk}(h:one k b j=some c):j=k/\c=b:=by
 by_cases e:j=k
 ·subst e;rw[one_at]at h;exact⟨rfl,(Option.some.inj h).symm⟩
 ·rw[qiZ b e]at h;cases h
def disj(p q:AHeap):Prop:=∀k,p k=none\/q k=none
theorem disj.symm{p q:AHeap}(h:disj p q):disj q p:=fun k=>(h k).symm
theorem qnC(p:AHeap):disj p emp:=fun _=> .inr rfl
def Sep(ps:List AHeap)(h:AHeap):Prop:=(∀p∈ps,Sub p h)/\ps.Pairwise disj
section
variable {ps qs:List AHeap} {h h':AHeap}
theorem Sep.perm(hs:Sep ps h)(hp:ps.Perm qs):Sep qs h:=⟨fun p hq=>hs.1 p (hp.mem_iff.2 hq),(hp.pairwise_iff fun h=>disj.symm h).1 hs.2⟩
theorem Sep.forget(hs:Sep ps h)(hh:Sub h h'):Sep ps h':=⟨fun p hp=>(hs.1 p hp).trans hh,hs.2⟩
theorem Sep.sub(hs:Sep ps h)(hp:qs.Sublist ps):Sep qs h:=⟨fun p hq=>hs.1 p (hp.subset hq),hs.2.sublist hp⟩
theorem Sep.in_(hs:Sep ps h){i:Nat}{p:AHeap}(hi:ps[i]?=some p):Sub p h:=hs.1 p (List.mem_of_getElem? hi)
theorem Sep.at_(hs:Sep ps h){i k:Nat}{b:Blk}(hi:ps[i]?=some (one k b)):h k=some b:=hs.in_ hi k b (one_at k b)
theorem Sep.apart(hs:Sep ps h){i j:Nat}{p q:AHeap}(hi:ps[i]?=some p)(hj:ps[j]?=some q)(hij:i≠j):disj p q:=by
 obtain⟨hi1,hi2⟩:=Jy.1 hi;obtain⟨hj1,hj2⟩:=Jy.1 hj;have:=Bj.1 hs.2;rcases Nat.lt_or_gt_of_ne hij with h1|h1
 ·have:=this i j hi1 hj1 h1
  rwa [hi2,hj2]at this
 ·have:=this j i hj1 hi1 h1
  rw[hi2,hj2]at this;exact this.symm
theorem Sep.ne(hs:Sep ps h){i j k l:Nat}{b c:Blk}(hi:ps[i]?=some (one k b))(hj:ps[j]?=some (one l c))(hij:i≠j):k≠l:=fun e=>by
 subst e;rcases hs.apart hi hj hij k with z|z<;>rw[one_at]at z<;>cases z
theorem Sep.not(hs:Sep ps h){i j k:Nat}{b:Blk}{p:AHeap}(hi:ps[i]?=some (one k b))(hj:ps[j]?=some p)(hij:i≠j):p k=none:=by
 rcases hs.apart hi hj hij k with z|z
 ·rw[one_at]at z;cases z
 ·exact z
theorem Sub.off{p h:AHeap}(hs:Sub p h){k:Nat}(hk:p k=Option.none)(b:Blk):Sub p (h.set k b):=fun j c hj=>by
 have e:j≠k:=fun e=>by subst e;rw[hk]at hj;cases hj
 rw[Vf _ _ e];exact hs _ _ hj
theorem Sep.lay(hs:Sep ps h){k:Nat}(hk:h k=none)(b:Blk):Sep (ps++[one k b]) (h.set k b):=by
 have hn:∀p∈ps,p k=none:=fun p hp=>(hs.1 p hp).none hk;refine⟨fun p hp=>?_,?_⟩
 ·rcases JR.1 hp with hp|hp
  ·exact(hs.1 p hp).off (hn p hp) b
  ·rw[VM.1 hp]
   intro j c hj;obtain⟨rfl,rfl⟩:=qiY hj;exact Vg _ _ _
 ·rw[Bl]
  refine⟨hs.2,by simp,fun p hp q hq j=>?_⟩;rw[VM.1 hq];by_cases e:j=k
  ·subst e;exact .inl (hn p hp)
  ·exact .inr (qiZ b e)
theorem qlH{α:Type}{R:α->α->Prop}(hsym:∀a b,R a b->R b a){l:List α}{i:Nat}{x:α}(hl:l.Pairwise R)(hx:∀j y,j≠i->l[j]?=some y->R x y):(l.set i x).Pairwise R:=by
 rw[Bj]at hl|-
 intro a b ha hb hab;rw[List.length_set]at ha hb;rw[Bn,Bn];by_cases e1:i=a
 ·subst e1
  rw[if_pos rfl,if_neg (by omega)];exact hx b _ (by omega) (JH hb)
 ·rw[if_neg e1]
  by_cases e2:i=b
  ·subst e2
   rw[if_pos rfl];exact hsym _ _ (hx a _ (by omega) (JH ha))
  ·rw[if_neg e2]
   exact hl a b ha hb hab
theorem Sep.turn(hs:Sep ps h){i:Nat}{p':AHeap}(hp:Sub p' h')(hq:∀j q,j≠i->ps[j]?=some q->Sub q h'/\disj p' q):Sep (ps.set i p') h':=by
 refine⟨fun p hm=>?_,qlH (fun a b=>disj.symm) hs.2 fun j y h1 h2=>(hq j y h1 h2).2⟩;obtain⟨j,hj⟩:=List.mem_iff_getElem?.1 hm;rw[List.getElem?_set]at hj;by_cases e:i=j
 ·rw[if_pos e]at hj
  split at hj
  ·cases hj;exact hp
  ·cases hj
 ·rw[if_neg e]at hj
  exact(hq j p (fun z=>e z.symm) hj).1
theorem Sep.put(hs:Sep ps h){i k:Nat}{b:Blk}(hi:ps[i]?=some (one k b))(b':Blk):Sep (ps.set i (one k b')) (h.set k b'):=
 hs.turn (fun j c hj=>by obtain⟨rfl,rfl⟩:=qiY hj;exact Vg _ _ _) fun j q hj hq=>by
  have hn:=hs.not hi hq (fun e=>hj e.symm);refine⟨(hs.in_ hq).off hn b',fun x=>?_⟩;by_cases e:x=k
  ·subst e;exact .inr hn
  ·exact .inl (qiZ b' e)
theorem Sep.pick(hs:Sep ps h)(ix:List Nat)(hn:ix.Nodup)(hb:∀i∈ix,i<ps.length):Sep (ix.map fun i=>ps.getD i emp) h:=by
 refine⟨fun p hp=>?_,?_⟩
 ·obtain⟨i,hi,rfl⟩:=JP.1 hp
  refine hs.in_ (i:=i) ?_;rw[Ko,JH (hb i hi)];rfl
 ·rw[List.pairwise_map]
  refine List.Pairwise.imp_of_mem ?_ hn;intro a b ha hb' hab;refine hs.apart (i:=a) (j:=b) ?_ ?_ hab
  ·rw[Ko,JH (hb a ha)];rfl
  ·rw[Ko,JH (hb b hb')];rfl
theorem Sep.emp(hs:Sep ps h):Sep (ps++[AM.emp]) h:=by
 refine⟨fun p hp=>?_,?_⟩
 ·rcases JR.1 hp with hp|hp
  ·exact hs.1 p hp
  ·rw[VM.1 hp];intro j c hj;cases hj
 ·rw[Bl]
  exact⟨hs.2,by simp,fun p _ q hq=>by rw[VM.1 hq];exact qnC p⟩
def WB:List AHeap->AHeap
 |[]=>AM.emp
 |p::ps=>uni p (WB ps)
theorem qeb{k:Nat}:∀{ps:List AHeap},WB ps k=none↔∀p∈ps,p k=none
 |[]=>by simp[WB,AM.emp]
 |p::ps=>by
  simp only[WB,List.forall_mem_cons];constructor
  ·intro h
   obtain⟨a,b⟩:=qtm h;exact⟨a,qeb.1 b⟩
  ·rintro⟨a,b⟩
   rw[qfA a];exact qeb.2 b
theorem qtn(hp:∀p∈ps,Sub p h):Sub (WB ps) h:=by
 induction ps with
 |nil=>intro j c hj;cases hj
 |cons p ps ih=>
  intro j c hj;simp only[WB]at hj;cases e:p j with
  |some d=>rw[qiv e]at hj;cases hj;exact hp p Jf j _ e
  |none=>rw[qfA e]at hj;exact ih (fun q hq=>hp q (Jg _ hq)) j c hj
theorem XI(hd:ps.Pairwise disj):∀p∈ps,Sub p (WB ps):=by
 induction ps with
 |nil=>intro p hp;cases hp
 |cons q ps ih=>
  obtain⟨h1,h2⟩:=Bo.1 hd;intro p hp;rcases KX.1 hp with rfl|hp
  ·exact Sub.uni _ _
  ·intro j c hj
   have hq:q j=none:=(h1 p hp j).resolve_right fun e=>by rw[e]at hj;cases hj
   simp only[WB];rw[qfA hq];exact ih h2 p hp j c hj
theorem qkW{p:AHeap}:disj p (WB ps)↔∀q∈ps,disj p q:=by
 constructor
 ·intro h q hq k
  rcases h k with z|z
  ·exact .inl z
  ·exact .inr (qeb.1 z q hq)
 ·intro h k
  cases e:p k with
  |none=>exact .inl rfl
  |some b=>exact .inr (qeb.2 fun q hq=>(h q hq k).resolve_left fun z=>by rw[e]at z;cases z)
theorem Sep.fold(hs:Sep (ps++qs) h):Sep (WB ps::qs) h:=by
 have h2:=Bl.1 hs.2;refine⟨fun p hp=>?_,Bo.2 ⟨fun q hq=>disj.symm (qkW.2 fun p hp=>(h2.2.2 p hp q hq).symm),h2.2.1⟩⟩;rcases KX.1 hp with rfl|hp
 ·exact qtn fun q hq=>hs.1 q (List.mem_append_left _ hq)
 ·exact hs.1 p (List.mem_append_right _ hp)
theorem Sep.unfold(hd:ps.Pairwise disj)(hs:Sep (WB ps::qs) h):Sep (ps++qs) h:=by
 obtain⟨h1,h2⟩:=Bo.1 hs.2;refine⟨fun p hp=>?_,Bl.2 ⟨hd,h2,fun p hp q hq=>((qkW.1 (h1 q hq).symm) p hp).symm⟩⟩;rcases JR.1 hp with hp|hp
 ·exact(XI hd p hp).trans (hs.1 _ Jf)
 ·exact hs.1 p (Jg _ hp)
theorem Sep.left(hs:Sep (ps++qs) h):ps.Pairwise disj:=(Bl.1 hs.2).1
end
theorem BlkOk.trunc{fi:PMap}{cs xs:List AVal}{p:Place}{w:World}(h:BlkOk fi ⟨cs++xs,0⟩ p w):BlkOk fi ⟨cs,0⟩ p w:=by
 rcases h with h|h
 ·obtain⟨c,e,lo,hi,h1,h2,h3,h4,h5,h6⟩:=h.row
  simp only[Jc]at h3 h5;refine .inl ⟨c,e,lo,hi,h1,h2,by simp only;omega,Jr _,?_,h6⟩;have:=qjM cs.length h5;rw[List.take_left,List.take_take,Nat.min_eq_left (by omega)]at this;exact this
 ·have:=h.frz
  simp at this
theorem HRel.trunc{wz w:World}{fi:PMap}{h:AHeap}(hr:HRel wz fi h w){k:Nat}{cs xs:List AVal}(hk:h k=some ⟨cs++xs,0⟩):HRel wz fi (h.set k ⟨cs,0⟩) w:=by
 have ex:∀j b,h.set k ⟨cs,0⟩ j=some b->∃b',h j=some b':=fun j b hj=>by
  by_cases e:j=k
  ·subst e;exact⟨_,hk⟩
  ·rw[Vf _ _ e]at hj;exact⟨b,hj⟩
 refine⟨hr.below,fun j b hj=>?_,fun j j' b b' p p' hb hb'=>?_,hr.lt,hr.fin,hr.typ⟩
 ·by_cases e:j=k
  ·subst e
   rw[Vg]at hj;cases hj;obtain⟨p,h1,h2,h3⟩:=hr.own j _ hk;exact⟨p,h1,h2,h3.trunc⟩
  ·rw[Vf _ _ e]at hj
   exact hr.own j b hj
 ·obtain⟨c,hc⟩:=ex j b hb
  obtain⟨c',hc'⟩:=ex j' b' hb';exact hr.inj j j' c c' p p' hc hc'
theorem Awp.trunc{P:Program}{wz:World}{n:FrameK}{s:Slots}{h:AHeap}{Q:Exit->Slots->AHeap->Prop}{c:Code}{k:Nat}{cs xs:List AVal}(hk:h k=some ⟨cs++xs,0⟩)(hc:Awp P wz n c Q s (h.set k ⟨cs,0⟩)):Awp P wz n c Q s h:=
 fun fi a w hr hs=>hc fi a w (hr.trunc hk) hs
def isG:AVal->Bool
 | .slice _ _ _ (.exact _)=>false
 |_=>true
def GrowV(es:Nat)(v:AVal)(p:AHeap)(xs:List (List AVal)):Prop:=
 (v= .nilSlice/\p=emp/\xs=[])\/∃k c,v= .slice (.own k) 0 xs.length c/\(c= .exact xs.length\/c= .grow es)/\p=one k ⟨xs.flatten,0⟩/\(∀x∈xs,x.length=es)/\allLive xs.flatten=true
section
variable {es:Nat} {v:AVal} {p:AHeap} {xs:List (List AVal)}
theorem GrowV.nil:GrowV es .nilSlice emp []:= .inl ⟨rfl,rfl,rfl⟩
theorem GrowV.new{k:Nat}{c:Cap}{n:Nat}(hn:n=xs.length)(hc:c= .exact n\/c= .grow es)(hw:∀x∈xs,x.length=es)(hl:allLive xs.flatten=true){cs:List AVal}(hcs:cs=xs.flatten):GrowV es (.slice (.own k) 0 n c) (one k ⟨cs,0⟩) xs:=by
 subst hn hcs;exact .inr ⟨k,c,rfl,hc,rfl,hw,hl⟩
theorem GrowV.live(h:GrowV es v p xs):v.live=true:=by rcases h with⟨rfl,_⟩|⟨k,c,rfl,_⟩<;>rfl
theorem GrowV.scal(h:GrowV es v p xs):v.scal=true:=by rcases h with⟨rfl,_⟩|⟨k,c,rfl,_⟩<;>rfl
theorem GrowV.cells(h:GrowV es v p xs):v.cells=[v]:=by rcases h with⟨rfl,_⟩|⟨k,c,rfl,_⟩<;>rfl
theorem GrowV.wide(h:GrowV es v p xs):∀x∈xs,x.length=es:=by
 rcases h with⟨_,_,rfl⟩|⟨k,c,_,_,_,hw,_⟩
 ·intro x hx;cases hx
 ·exact hw
theorem GrowV.isL{wz:World}{h:AHeap}(hg:GrowV es v p xs)(hs:Sub p h):IsL wz h es v xs:=by
 rcases hg with⟨rfl,_,rfl⟩|⟨k,c,rfl,hc,rfl,hw,hl⟩
 ·exact .nil
 ·refine Bh (hs _ _ (one_at k _)) hw rfl hl c ?_
  rcases hc with rfl|rfl
  ·exact KM _
  ·rfl
variable {P:Program} {wz:World} {ops rest:List Oper} {s:Slots} {H:AHeap} {K:Slots->AHeap->Prop} {dst:Option Tmp} {ty:TypeId} {pos:String} {af:Array Edge} {ts:Array TypeId} {t u e:TypeId} {d:TypeDesc} {x y:Operand} {v':AVal} {by' i:Nat} {z:Value} {ys:List (List AVal)} {ps:List AHeap}
theorem ZM(h0:ts[0]?=some t)(h1:ts[1]?=some u)(ht:P.underlying t=some (.slice e))(hu:P.underlying u=some d)(hd:∀k,d≠ .int k)
 (hs:ZH P e=some es) (hb:qdO P e=some by') (hz:Ua P e=some z) (hzs:z.cells.size=es) (hes:es≠0)
 (hx:ev s x=v) (hg:GrowV es v p xs) (hi:ps[i]?=some p) (hS:Sep ps H) (hy:ev s y=v') (hv':IsL wz H es v' ys) (hsc:QU ys.flatten=true) (hne:ys.length≠0)
 (hl:(xs.length+ys.length)*by'<=140737488355328) (hl':xs.length+ys.length<4611686018427387904)
 (hkk:∀u p' H',GrowV es u p' (xs++ys)->isG u=true->Sep (ps.set i p') H'->QA P wz ops rest (putD s dst u) H' K):
 QA P wz ops (⟨dst, .call ⟨.builtin .append,[x,y].toArray,ts⟩,ty,pos,af,none⟩::rest) s H K:=by
 have hw:∀x∈xs++ys,x.length=es:=fun x hx=>by
  rcases JR.1 hx with h|h
  ·exact hg.wide x h
  ·exact hv'.wide x h
 have hal:allLive (xs++ys).flatten=true:=by rw[Vt,Ya,(hg.isL (wz:=wz) (hS.in_ hi)).allLive,hv'.allLive];rfl
 have fin:∀k' H',H' k'=some ⟨(xs++ys).flatten,0⟩->(∀j q,j≠i->ps[j]?=some q->Sub q H'/\q k'=none)->QA P wz ops rest (putD s dst (.slice (.own k') 0 (xs.length+ys.length) (.grow es))) H' K:=fun k' H' h1 h2=>by
  refine hkk _ (one k' ⟨(xs++ys).flatten,0⟩) H' (GrowV.new (by rw[Jc]) (.inr rfl) hw hal rfl) rfl (hS.turn (fun j c hj=>by obtain⟨rfl,rfl⟩:=qiY hj;exact h1) fun j q hj hq=>?_);obtain⟨a,b⟩:=h2 j q hj hq;refine⟨a,fun x=>?_⟩;by_cases ex:x=k'
  ·subst ex;exact .inr b
  ·exact .inl (qiZ _ ex)
 rcases hg with⟨rfl,rfl,rfl⟩|⟨k,c,rfl,hc,rfl,hw1,hl1⟩
 ·refine qaO (v:= .nilSlice) h0 h1 ht hu hd hs hb hz hzs hes hx .nil hy hv' hne hl hl' fun k' hk' _=>?_
  exact fin k' _ (Vg _ _ _) fun j q hj hq=>⟨(hS.in_ hq).off ((hS.in_ hq).none hk') _,(hS.in_ hq).none hk'⟩
 ·refine qjI h0 h1 ht hu hd hs hb hz hzs hes hx hc (hS.at_ hi) hw1 hl1 hy hv' hsc hne hl hl' fun k' H' h1 h2 h3=>?_
  refine fin k' H' h1 fun j q hj hq=>?_;have hqk:=hS.not hi hq (fun e=>hj e.symm);have hsub:=hS.in_ hq;refine⟨fun a b hab=>(h3 a b (hsub _ _ hab) fun e=>by subst e;rw[hqk]at hab;cases hab).1,?_⟩;rcases h2 with z|rfl
  ·exact hsub.none z
  ·exact hqk
end
section
variable {P:Program} {wz:World} {ops rest:List Oper} {s:Slots} {H:AHeap} {K:Slots->AHeap->Prop} {dst:Option Tmp} {ty:TypeId} {pos:String} {af:Array Edge}
theorem qjJ{ts:Array TypeId}{t u e:TypeId}{d:TypeDesc}{x y:Operand}{v':AVal}{es by' n c o:Nat}{lc:Loc}{z:Value}
 (h0:ts[0]?=some t) (h1:ts[1]?=some u) (ht:P.underlying t=some (.slice e)) (hu:P.underlying u=some d) (hd:∀k,d≠ .int k)
 (hs:ZH P e=some es) (hb:qdO P e=some by') (hz:Ua P e=some z) (hzs:z.cells.size=es) (hes:es≠0)
 (hx:ev s x= .slice lc o n (.exact c)) (hn:n<=c) (hy:ev s y=v') (hv':IsL wz H es v' [])
 (hk:QA P wz ops rest (putD s dst (.slice lc o n (.exact c))) H K):
 QA P wz ops (⟨dst, .call ⟨.builtin .append,[x,y].toArray,ts⟩,ty,pos,af,none⟩::rest) s H K:=by
 obtain⟨s1,s2,s3⟩:=hv'.src;rw[qbz];simp only[eop,evs,Ke,Vj,hx,hy,qeu,h0,h1,ht,hu,hs,hb,hz,s1];exact⟨hd,⟨hes,hzs⟩,s2,⟨fun _=> .inl ⟨rfl,hk⟩,fun hh=>absurd hh (by simp only[JN];omega)⟩⟩
end
end Go.AM
namespace Go.Proofs.YtgiadjbiimkbiaaGreatDoor
open Go.AM
open Go.Proofs
open Go.Col (Str FaultC okF)
open Go.Tok (TokC)
open Go.Stm
open Go.RowKit (Below)
set_option maxRecDepth 100000
def phC(q:PhrC×AVal):List AVal:=[.str q.1.words,q.2]
def bdC(q:BodC×AVal×AVal):List AVal:=[.str q.1.1,q.2.1,q.2.2]
def qbj(q:StC×AVal×AVal):List AVal:=[.str q.1.verb, .int .i64 q.1.line, .int .i64 q.1.col,q.2.1,q.2.2]
def PhV(wz:World)(h:AHeap)(v:AVal)(l:List PhrC):Prop:=∃qs:List (PhrC×AVal),l=qs.map (·.1)/\IsL wz h 2 v (qs.map phC)/\∀q∈qs,IsL wz h 5 q.2 (q.1.toks.map Xy)
def BdV(wz:World)(S:AVal->List StC->Prop)(h:AHeap)(v:AVal)(l:List BodC):Prop:=∃qs:List (BodC×AVal×AVal),l=qs.map (·.1)/\IsL wz h 3 v (qs.map bdC)/\∀q∈qs,IsL wz h 5 q.2.1 (q.1.2.1.map Xy)/\S q.2.2 q.1.2.2
def StsV(wz:World):Nat->AHeap->AVal->List StC->Prop
 |0,h,v,l=>l=[]/\IsL wz h 5 v []
 |d+1,h,v,l=>∃qs:List (StC×AVal×AVal),l=qs.map (·.1)/\IsL wz h 5 v (qs.map qbj)/\∀q∈qs,PhV wz h q.2.1 q.1.phrases/\BdV wz (StsV wz d h) h q.2.2 q.1.bodies
theorem PhV.mono{wz:World}{h h':AHeap}{v:AVal}{l:List PhrC}(hp:PhV wz h v l)(hs:Sub h h'):PhV wz h' v l:=by
 obtain⟨qs,e,a,b⟩:=hp;exact⟨qs,e,a.mono hs,fun q hq=>(b q hq).mono hs⟩
theorem BdV.mono{wz:World}{h h':AHeap}{S S':AVal->List StC->Prop}{v:AVal}{l:List BodC}(hp:BdV wz S h v l)(hs:Sub h h')(hS:∀v l,S v l->S' v l):BdV wz S' h' v l:=by
 obtain⟨qs,e,a,b⟩:=hp;exact⟨qs,e,a.mono hs,fun q hq=>⟨(b q hq).1.mono hs,hS _ _ (b q hq).2⟩⟩
theorem StsV.mono{wz:World}{h h':AHeap}(hs:Sub h h'):∀{d:Nat} {v:AVal} {l:List StC},StsV wz d h v l->StsV wz d h' v l
 |0,_,_,hp=>⟨hp.1,hp.2.mono hs⟩
 |d+1,_,_,⟨qs,e,a,b⟩=>⟨qs,e,a.mono hs,fun q hq=>⟨(b q hq).1.mono hs,(b q hq).2.mono hs fun _ _=>StsV.mono hs⟩⟩
theorem StsV.isL{wz:World}{h:AHeap}{d:Nat}{v:AVal}{l:List StC}(hp:StsV wz d h v l):∃qs:List (StC×AVal×AVal),l=qs.map (·.1)/\IsL wz h 5 v (qs.map qbj):=by
 cases d with
 |zero=>exact⟨[],hp.1,hp.2⟩
 |succ d=>obtain⟨qs,a,b,-⟩:=hp;exact⟨qs,a,b⟩
theorem PhV.live{wz:World}{h:AHeap}{v:AVal}{l:List PhrC}(hp:PhV wz h v l):v.live=true:=by obtain⟨_,_,a,_⟩:=hp;exact a.live
theorem PhV.scal{wz:World}{h:AHeap}{v:AVal}{l:List PhrC}(hp:PhV wz h v l):v.scal=true:=by obtain⟨_,_,a,_⟩:=hp;exact a.scal
theorem PhV.cells{wz:World}{h:AHeap}{v:AVal}{l:List PhrC}(hp:PhV wz h v l):v.cells=[v]:=by obtain⟨_,_,a,_⟩:=hp;exact a.cells
theorem BdV.live{wz:World}{h:AHeap}{S:AVal->List StC->Prop}{v:AVal}{l:List BodC}(hp:BdV wz S h v l):v.live=true:=by obtain⟨_,_,a,_⟩:=hp;exact a.live
theorem BdV.scal{wz:World}{h:AHeap}{S:AVal->List StC->Prop}{v:AVal}{l:List BodC}(hp:BdV wz S h v l):v.scal=true:=by obtain⟨_,_,a,_⟩:=hp;exact a.scal
theorem BdV.cells{wz:World}{h:AHeap}{S:AVal->List StC->Prop}{v:AVal}{l:List BodC}(hp:BdV wz S h v l):v.cells=[v]:=by obtain⟨_,_,a,_⟩:=hp;exact a.cells
theorem qdB{qs:List (PhrC×AVal)}:∀x∈qs.map phC,x.length=2:=fun x hx=>by obtain⟨q,_,rfl⟩:=JP.1 hx;rfl
def qbu:PhrC×AVal:=(⟨[],[]⟩, .nilSlice)
theorem qbH{wz:World}{h:AHeap}{lc:AM.Loc}{o:Nat}{c:Cap}{qs:List (PhrC×AVal)}(ht:IsL wz h 2 (.slice lc o qs.length c) (qs.map phC)){i:Nat}(hi:i<qs.length):
 rd wz h lc (o+i*2)= .str (qs.getD i qbu).1.words/\rd wz h lc (o+i*2+1)=(qs.getD i qbu).2:=by
 have he:=ht.elem (i:=i) (by rw[Jo];exact hi);rw[getD_map qbu hi]at he;simp only[Qd,phC,List.cons.injEq,and_true]at he;exact he
theorem UK{wz:World}{h:AHeap}{v:AVal}{qs:List (PhrC×AVal)}(ht:IsL wz h 2 v (qs.map phC))(hn:0<qs.length):∃lc o c,v= .slice lc o qs.length c:=by
 obtain⟨lc,o,c,e⟩:=ht.open (fun e=>by rw[VD]at e;subst e;simp at hn);rw[Jo]at e;exact⟨lc,o,c,e⟩
theorem qfe{wz:World}{h:AHeap}{v:AVal}{qs:List (PhrC×AVal)}(ht:IsL wz h 2 v (qs.map phC)):∀H:AHeap,Zh Tryz.prog H 79 v=⟨True, .int .i64 qs.length⟩:=by
 intro H;have:=ht.len Tryz.underlying79 H
 rwa [Jo]at this
theorem qbd(l:List TokC):QU (l.map Xy).flatten=true:=by
 induction l with
 |nil=>rfl
 |cons t l ih=>rw[Ke,List.flatten_cons];simp only[Xy,Kh,Je,QU,ih,J4];rfl
theorem qsE:Uu Tryz.prog .eql 39 .nilSlice .nilSlice=⟨True, .bool true⟩:=by simp[Uu,qni,qgM,nilK,tyK,Tryz.underlying39]
theorem qhM(l:AM.Loc)(o n:Nat)(c:Cap):Uu Tryz.prog .eql 39 (.slice l o n c) .nilSlice=⟨True, .bool false⟩:=by simp[Uu,qni,qgM,nilK,tyK,Tryz.underlying39]
theorem c_clone0(wz:World)(h:AHeap):ACall Tryz.prog wz 45 [.nilSlice] h (fun r h'=>r= .nilSlice/\h'=h):=by
 refine Ql (n:=8) (rs:=[.tmp 2]) Tryz.func45 rfl rfl rfl rfl (VF rfl) ?_;simp only[Qm];refine awp_rseq [0] (by rfl) fun K hK=>?_;simp+decide only[qa,ev,qK,qG,putD,VG,VI,Ka,Kb,↓qf,qc];apply hK;clear hK K;refine qF ?_;refine awp_rseq [0,4] (by rfl) fun K hK=>?_;simp+decide only[qa,ev,qK,qG,putD,VG,VH,VI,Ka,Kb,↓qg,qd,↓qo,qh,qcP,cond_false,qsE];apply hK;clear hK K;refine qM (b:=_) rfl (fun hb1=>?_) (fun hb1=>?_)
 ·try simp only at hb1
  refine awp_rseq [2] (by rfl) fun K hK=>?_;simp+decide only[qa,ev,qK,qG,putD,VG,VI,Ka,Kb,↓qf,qc];apply hK;clear hK K;refine Qn ?_;try simp only[QM]
  refine Xf h zqC (qJ (qO)) ?_;simp+decide only[VH,if_true,and_true,Qg];all_goals first|rfl|exact⟨rfl,rfl⟩|(simp+decide only[Ka, *];done)|(trace_state;fail)
 ·cases hb1
theorem c_clone1(wz:World)(h:AHeap)(lc:AM.Loc)(o n:Nat)(c:Cap)(hv:IsL wz h 5 (.slice lc o n c) []):ACall Tryz.prog wz 45 [.slice lc o n c] h (fun r h'=>IsL wz h' 5 r []/\Sub h h'):=by
 refine Ql (n:=8) (rs:=[.tmp 2]) Tryz.func45 rfl rfl rfl rfl (VF rfl) ?_;simp only[Qm];refine awp_rseq [0] (by rfl) fun K hK=>?_;simp+decide only[qa,ev,qK,qG,putD,VG,VI,Ka,Kb,↓qf,qc];apply hK;clear hK K;refine qF ?_;refine awp_rseq [0,4] (by rfl) fun K hK=>?_;simp+decide only[qa,ev,qK,qG,putD,VG,VH,VI,Ka,Kb,↓qg,qd,↓qo,qh,qcP,cond_false,qhM];apply hK;clear hK K;refine qM (b:=_) rfl (fun hb1=>?_) (fun hb1=>?_)
 ·cases hb1
 ·try simp only at hb1
  refine qV ?_;change Awp _ _ _ _ _ _ _;refine awp_rseq [2] (by rfl) fun K hK=>?_;refine Qh (cs:=[]) (by kernel_rfl) fun k3q0 hk3q0=>?_;try have hf_3q0:h k3q0=none:=by first|assumption|(simp only[VU]at hk3q0;simp only[hk3q0])
  simp+decide only[ev,putD,VG,VH,Ka,Kb,↓qg,qd];refine qjJ (by rfl) (by rfl) Tryz.underlying39 Tryz.underlying39 (fun k e=>by cases e) Yl qfo qdo (by rfl) (by decide) (by rfl) (KM _) (by rfl) (hv.mono zqB) ?_;simp+decide only[qa,ev,putD,VG,VH,VI,Ka,Kb,↓qf,qc];apply hK;clear hK K;refine Qn ?_;refine Xf h zqC (qJ (qO)) ?_;simp+decide only[VH,if_true,Qg];exact⟨.mk _ _ _ _ _ rfl (fun x hx=>by cases hx) rfl rfl (KM _),zqB⟩
theorem c_clone2(wz:World)(h:AHeap)(lc:AM.Loc)(o n:Nat)(c:Cap)(l:List TokC)(hv:IsL wz h 5 (.slice lc o n c) (l.map Xy))(hn:l≠[])(hl:l.length<=1000000):ACall Tryz.prog wz 45 [.slice lc o n c] h (fun r h'=>IsL wz h' 5 r (l.map Xy)/\Sub h h'):=by
 have hn2:=Bc.2 hn;refine Ql (n:=8) (rs:=[.tmp 2]) Tryz.func45 rfl rfl rfl rfl (VF rfl) ?_;simp only[Qm];refine awp_rseq [0] (by rfl) fun K hK=>?_;simp+decide only[qa,ev,qK,qG,putD,VG,VI,Ka,Kb,↓qf,qc];apply hK;clear hK K;refine qF ?_;refine awp_rseq [0,4] (by rfl) fun K hK=>?_;simp+decide only[qa,ev,qK,qG,putD,VG,VH,VI,Ka,Kb,↓qg,qd,↓qo,qh,qcP,cond_false,qhM];apply hK;clear hK K;refine qM (b:=_) rfl (fun hb1=>?_) (fun hb1=>?_)
 ·cases hb1
 ·try simp only at hb1
  refine qV ?_;change Awp _ _ _ _ _ _ _;refine awp_rseq [2] (by rfl) fun K hK=>?_;refine Qh (cs:=[]) (by kernel_rfl) fun k3q0 hk3q0=>?_;try have hf_3q0:h k3q0=none:=by first|assumption|(simp only[VU]at hk3q0;simp only[hk3q0])
  simp+decide only[ev,putD,VG,VH,Ka,Kb,↓qg,qd];refine qaO (v:= .slice (.own k3q0) 0 0 (.exact 0)) (xs:=[]) (ys:=l.map Xy) (by rfl) (by rfl) Tryz.underlying39 Tryz.underlying39 (fun k e=>by cases e) Yl qfo qdo (by rfl) (by decide) (by rfl) (.mk _ _ _ _ _ rfl (fun x hx=>by cases hx) rfl rfl (KM _)) (by rfl) (hv.mono zqB) (by rw[Jo];omega) (by rw[Jo];simp only[JN];omega) (by rw[Jo];simp only[JN];omega) fun k3q2 hk3q2 hv32=>?_;simp+decide only[qa,ev,putD,VG,VH,VI,Ka,Kb,↓qf,qc];apply hK;clear hK K;refine Qn ?_;refine Qu (qJ (qO)) ?_;simp+decide only[VH,if_true,Qg];exact⟨_,Vh _,hv32,(Vi hk3q0).trans (Vi hk3q2)⟩
theorem qsT(wz:World)(h:AHeap)(v:AVal)(l:List TokC)(hv:IsL wz h 5 v (l.map Xy))(hl:l.length<=1000000):ACall Tryz.prog wz 45 [v] h (fun r h'=>IsL wz h' 5 r (l.map Xy)/\Sub h h'):=by
 by_cases hn:l=[]
 ·subst hn
  cases hv with
  |nil=>exact(c_clone0 wz h).mono fun r h' ⟨a,b⟩=>by subst a b;exact⟨.nil,Vh _⟩
  |mk lc o n c _ a b d e f=>exact c_clone1 wz h lc o n c (.mk lc o n c _ a b d e f)
 ·cases v<;>first
  |exact c_clone2 wz h _ _ _ _ l hv hn hl
  |(exfalso;obtain⟨lc,o,c,e⟩:=ZT hv (Bc.2 hn);cases e)
structure FnG where
 j:Nat
 H:AHeap
set_option maxHeartbeats 1000000 in
theorem qpr(wz:World)(h:AHeap)(vb w:Str)(ln cl:Int)(pv bv:AVal)(l:List PhrC)(hp:PhV wz h pv l)(hbl:bv.live=true)(hbs:bv.scal=true)(hbc:bv.cells=[bv])(hl:l.length<=1000000)(ht:∀p∈l,p.toks.length<=1000000):
 ACall Tryz.prog wz 21 [.agg [.str vb, .int .i64 ln, .int .i64 cl,pv,bv], .str w] h (fun r h'=>Sub h h'/\∃rv,r= .tuple [Zi rv, .bool (qdk l w).isSome]/\IsL wz h' 5 rv (((qdk l w).getD []).map Xy)):=by
 have hpl:=hp.live;have hps:=hp.scal;have hpc:=hp.cells;obtain⟨qs,rfl,hq,hqt⟩:=hp;rw[Jo]at hl;have hql:∀q∈qs,q.2.live=true:=fun q hqm=>(hqt q hqm).live;have nq:=qfe hq;have hF:qdk (qs.map (·.1)) w=((qs.map (·.1)).find? fun p=>decide (p.words=w)).map (·.toks):=rfl;obtain⟨F,hFF⟩:∃F,F=qdk (qs.map (·.1)) w:=⟨_,rfl⟩
 rw[<-hFF]at hF|-
 refine Ql (n:=24) (rs:=[.tmp 4, .tmp 5]) Tryz.func21 rfl rfl rfl rfl (VF rfl) ?_;simp only[Qm];refine awp_rseq [1,2] (by rfl) fun K hK=>?_;refine Ue (by rfl) (by rfl) (by rfl) fun k0q0 hk0q0=>?_;try have hf_0q0:h k0q0=none:=by first|assumption|(simp only[VU]at hk0q0;simp only[hk0q0])
 skip;simp+decide only[qa,ev,qK,qG,putD,VG,VH,VI,Ka,Kb,↓qf,qc,VY,Jq];apply hK;clear hK K;refine qF ?_;refine awp_rseq [1,9,10,11] (by rfl) fun K hK=>?_;simp+decide only[qa,ev,qK,qG,putD,VG,VH,VI,Ka,Kb,↓qC,qi,Zz,↓qI,Qc,qj qba,↓QB,Qo,↓qg,qd,XN,VJ,Kn,Jq,hpl,nq];apply hK;clear hK K;refine Qb ?_;refine QN [1,9,10,11] (fun g:FnG=>[(1, .str w),(9,pv),(10, .int .i64 qs.length),(11, .int .i64 g.j)]) (fun g:FnG=>g.H) (fun g:FnG=>Sub h g.H/\g.j<=qs.length/\F=(((qs.drop g.j).map (·.1)).find? fun p=>decide (p.words=w)).map (·.toks)) (fun g:FnG=>qs.length-g.j) ⟨0,_⟩ (by rfl) (Vh _) ⟨zqB,Jr _,hF⟩ ?_;rintro⟨j,H⟩ ⟨hs_H,hj,hg⟩;simp only at hs_H hj hg|-
 refine awp_rseq [1,9,10,11,12] (by rfl) fun K hK=>?_;simp+decide only[qa,ev,putD,VG,VH,VI,Ka,Kb,↓qo,qh,qN,cond_false,qz,Xt];apply hK;clear hK K;refine qF (qM (b:=_) rfl (fun hb1=>?_) (fun hb1=>?_))
 ·try simp only[decide_eq_true_eq]at hb1
  have hj':j<qs.length:=by omega
  obtain⟨q,hqe⟩:∃q,q=qs.getD j qbu:=⟨_,rfl⟩
  have hqm:q∈qs:=by rw[hqe,Ko,JH hj'];exact VA hj'
  obtain⟨lc,o,c,hpe⟩:=UK hq (by omega);have hq2:=hq.mono hs_H;rw[hpe]at hq2;obtain⟨e0,e1⟩:=qbH hq2 hj';rw[<-hqe]at e0 e1;have hql1:=hql q hqm;have hqt1:=hqt q hqm;have hqs1:=hqt1.scal;have hqc1:=hqt1.cells;obtain⟨⟨qw,qt⟩,qv⟩:=q;simp only at e0 e1 hql1 hqt1 hqs1 hqc1;have hst:F=if qw=w then some qt else(((qs.drop (j+1)).map (·.1)).find? fun p=>decide (p.words=w)).map (·.toks):=by
   rw[hg,J9 hj',Ke,V9];have:qs[j]=(⟨qw,qt⟩,qv):=by rw[hqe,Ko,JH hj'];rfl
   rw[this];by_cases z:qw=w
   ·simp[z]
   ·simp[z]
  have hqtl:qt.length<=1000000:=ht _ (Bp (f:=(·.1)) hqm);have hwj:IntKind.i64.wrap ((j:Int)+1)=((j+1:Nat):Int):=by rw[wrap_i64 (by omega) (by omega)];omega
  refine qV ?_;change Awp _ _ _ _ _ _ _;refine qF ?_;refine Qb ?_;refine awp_rseq [1,7,9,10,11] (by rfl) fun K hK=>?_;simp+decide only[ev,putD,VG,VH,Ka,Kb,↓qZ,Qc,qA Tryz.underlying79 qab,↓qI,Qz ag84 qab,Qd,Qw,allLive,J4,hpe,e0,e1,hql1,VN];repeat (with_reducible refine And.intro ?_ ?_;· first|trivial|omega|(intro hg;simp only[Ky,JF,Ji,VO,VL,VK,decide_eq_true_eq,decide_eq_false_iff_not,Xd]at hg;omega))
  refine Xb qrJ (cs:=[.str [], .nilSlice]) (by rfl) fun k3q2 hk3q2=>?_;have hn_3q2:H k3q2=none:=by first|assumption|(simp only[VU]at hk3q2;simp only[hk3q2])
  have hf_3q2:h k3q2=none:=VV hs_H hn_3q2;refine Qi (by rfl) (by rfl) zqA qab (by rfl) (by rfl) zqD (Jr _) (by first|rfl|(simp+decide only[ev,putD,VG,VH,Ka,VY,QU,J4,hqs1,YT])) ?_;simp only[VX,VY];simp+decide only[qa,ev,putD,VG,VH,VI,Ka,setAt,VZ,Kj,Jq];apply hK;clear hK K;refine awp_rseq [1,7,9,10,11,18] (by rfl) fun K hK=>?_;simp+decide only[qa,ev,putD,VG,VH,VI,Ka,Kb,↓qC,qi,qhc,↓qI,Qc,qj ag9,↓qg,qd,↓qo,qh,qN,cond_false,Qp,XP,XN,VJ,Jq,Qw];apply hK;clear hK K;refine qM (b:=_) rfl (fun hb2=>?_) (fun hb2=>?_)
  ·try simp only[decide_eq_true_eq]at hb2
   rw[if_pos hb2]at hst;refine awp_rseq [4,5] (by rfl) fun K hK=>?_;simp+decide only[ev,putD,VG,VH,Ka,Kb,↓qC,qi,UT,↓qI,Qc,qj qam,XN,VJ,Kn,Jq];repeat (with_reducible refine And.intro ?_ ?_;· first|trivial|omega|(intro hg;simp only[Ky,JF,Ji,VO,VL,VK,decide_eq_true_eq,decide_eq_false_iff_not,Xd]at hg;omega))
   refine qY (by rfl) (by rfl) (qsT wz _ qv qt (hqt1.mono zqB) hqtl) fun x5q2 h5q2 hx5q2=>?_;obtain⟨hv5,hs5⟩:=hx5q2;have hs_h5q2:Sub h h5q2:=Ba zqC hs5;have hr_h5q2:Sub H h5q2:=Ba zqC hs5;have eb_3q2:=hs5 k3q2 _ zqA;refine QS (V:=Zi x5q2) (by rfl) (by rfl) (qgj wz _ x5q2 _ hv5) ?_;simp+decide only[qa,ev,qK,qG,putD,VG,VH,VI,Ka,Kb,↓qf,qc];apply hK;clear hK K;refine Qn ?_;try simp only[QM,Xl]
   refine Qu (qJ (qJ (qO))) ?_;simp+decide only[VH,Ka,Zm];rw[hst];exact⟨_,Vh _,zqB,_,rfl,hv5⟩
  ·try simp only[decide_eq_false_iff_not]at hb2
   rw[if_neg hb2]at hst;refine qV ?_;change Awp _ _ _ _ _ _ _;refine Xa [1,9,10,11] (by rfl) ?_;simp+decide only[qa,ev,qK,qG,putD,VG,VH,VI,Ka,Kb,↓qo,qh,qE,cond_false,qz,QW,↓qg,qd,hwj];try simp only[qR]
   exact⟨⟨j+1,_⟩,by rw[hpe];rfl,Vh _,⟨zqB,hj',hst⟩,by simp only;omega⟩
 ·try simp only[decide_eq_false_iff_not]at hb1
  have hst:F=none:=by rw[hg,V8 (by omega)];rfl
  refine QI ?_;change Awp _ _ _ _ _ _ _;refine awp_rseq [4,5] (by rfl) fun K hK=>?_;simp+decide only[qa,ev,qK,qG,putD,VG,VI,Ka,Kb,↓qf,qc];apply hK;clear hK K;refine Qn ?_;refine Qu (qJ (qJ (qO))) ?_;simp+decide only[VH,Ka,Zm];rw[hst];exact⟨H,Vh _,hs_H, .nilSlice,rfl, .nil⟩
def qrG(l:List PhrC):Prop:=l≠[]/\l.length<=1000000/\∀p∈l,p.toks.length<=1000000
theorem operV_eq(o:Option Nat):operV o= .tuple [.int .i64 ((o.getD 0:Nat):Int), .int .i64 (if o.isSome=true then 0 else 4)]:=by cases o<;>rfl
set_option maxHeartbeats 2000000 in
theorem qnN(wz:World)(ha:Asp wz)(h:AHeap)(vb:Str)(ln cl:Int)(pv bv:AVal)(l:List PhrC)(hp:PhV wz h pv l)(hbl:bv.live=true)(hbs:bv.scal=true)(hbc:bv.cells=[bv])(hf:qrG l):
 ACall Tryz.prog wz 100 [.agg [.str vb, .int .i64 ln, .int .i64 cl,pv,bv]] h (fun r h'=>r= .bool (Uh QV l)/\Sub h h'):=by
 have hpl:=hp.live;have hps:=hp.scal;have hpc:=hp.cells;obtain⟨hf1,hf2,hf3⟩:=hf;have hR:Uh QV l=if firstT l=[]then true else(qdk l qdW).isSome && (!(qdk l qdn).isSome && decide (qci QV (firstT l)=some (firstT l).length)):=rfl
 obtain⟨R,hRR⟩:∃R,R=Uh QV l:=⟨_,rfl⟩
 rw[<-hRR]at hR|-
 obtain⟨qs,hqe,hq,hqt⟩:=id hp;have hqn:0<qs.length:=by
  rcases VT qs.length with z|z
  ·exfalso;apply hf1;rw[hqe,Kg z];rfl
  ·exact z
 obtain⟨q,hq0⟩:∃q,q=qs.getD 0 qbu:=⟨_,rfl⟩
 have hqm:q∈qs:=by rw[hq0,Ko,JH hqn];exact VA hqn
 have hft:firstT l=q.1.toks:=by
  unfold firstT;rw[hqe,hq0];simp[Ko,hqn]
 have hqv:=hqt q hqm;have hql:=hqv.live;have nq:=Zt hqv;have hqf:q.1.toks.length<=1000000:=hf3 _ (by rw[hqe];exact Bp (f:=(·.1)) hqm);rw[hft]at hR;obtain⟨lc,o,c,rfl⟩:=UK hq hqn;have hq2:=hq;have hq3:∀H,Sub h H->rd wz H lc o= .str q.1.words/\rd wz H lc (o+1)=q.2:=fun H hH=>by
  obtain⟨e0,e1⟩:=qbH (hq2.mono hH) hqn;rw[K8,K7,<-hq0]at e0 e1;exact⟨e0,e1⟩
 obtain⟨⟨qw,qt⟩,qv⟩:=q;simp only at hR hqv hql nq hqf hq3;have hpos:((0:Int)<qs.length)=True:=eq_true (by omega);refine Ql (n:=48) (rs:=[.tmp 2]) Tryz.func100 rfl rfl rfl rfl (VF rfl) ?_;simp only[Qm];refine awp_rseq [1] (by rfl) fun K hK=>?_;refine Ue (by rfl) (by rfl) (by rfl) fun k0q0 hk0q0=>?_;try have hf_0q0:h k0q0=none:=by first|assumption|(simp only[VU]at hk0q0;simp only[hk0q0])
 skip;simp+decide only[qa,ev,qK,qG,putD,VG,VH,VI,Ka,Kb,↓qf,qc,VY];apply hK;clear hK K;obtain⟨-,e1⟩:=hq3 _ (Vi (b:=⟨[.str vb, .int .i64 ln, .int .i64 cl, .slice lc o qs.length c,bv],0⟩) hk0q0);refine awp_rseq [1,3] (by rfl) fun K hK=>?_;simp+decide only[qa,ev,qK,qG,putD,VG,VH,VI,Ka,Kb,and_true,↓qC,qi,Zz,↓qI,Qc,qj qba,↓qZ,qA Tryz.underlying79 qab,UT,qj qam,↓qf,qc,XN,VJ,Kn,Jq,hpl,hql,hpos,e1,Bg,K8,K7];apply hK;clear hK K;refine qF ?_;refine awp_rseq [1,3,17] (by rfl) fun K hK=>?_;simp+decide only[qa,ev,qK,qG,putD,VG,VH,VI,Ka,Kb,↓qg,qd,↓QB,Qo,↓qo,qh,qE,cond_false,qz,XV,nq];apply hK;clear hK K;refine qM (b:=_) rfl (fun hb1=>?_) (fun hb1=>?_)
 ·try simp only[decide_eq_true_eq]at hb1
  rw[if_pos (Kg (by omega))]at hR;refine awp_rseq [2] (by rfl) fun K hK=>?_;simp+decide only[qa,ev,qK,qG,putD,VG,VI,Ka,Kb,↓qf,qc];apply hK;clear hK K;refine Qn ?_;try simp only[QM]
  refine Qu (qJ (qO)) ?_;simp+decide only[VH,if_true,Qg];rw[hR];exact⟨h,zqB,rfl,Vh _⟩
 ·try simp only[decide_eq_false_iff_not]at hb1
  rw[if_neg (fun e=>by rw[e]at hb1;exact hb1 rfl)]at hR;refine qV ?_;change Awp _ _ _ _ _ _ _;refine awp_rseq [1,3,5] (by rfl) fun K hK=>?_;simp+decide only[ev,putD,VG,VH,Ka,Kb,↓qI,Qc,Qz qeJ Yv,XN,Qd,VJ,Kn,Jq,Nat.reduceAdd,QL,Qw,allLive,J4,hpl,hbl];refine qY (by rfl) (by rfl) (qpr wz _ vb qdW ln cl _ bv l (hp.mono zqB) hbl hbs hbc hf2 hf3) fun x4q1 h4q1 hx4q1=>?_;obtain⟨hs4,rv4,rfl,hrv4⟩:=hx4q1;have hs_h4q1:Sub h h4q1:=Ba zqC hs4;have hr_h4q1:=hs_h4q1;have eb_0q0:=hs4 k0q0 _ zqA;simp+decide only[qa,ev,putD,VG,VH,VI,Ka,Kb,↓qg,qd,↓Xu,Xk,XA,KY,JN,VJ,Kn,↓qf,qc,VJ,Kn,Jq,Nat.reduceAdd];apply hK;clear hK K;refine awp_rseq [3,5,7] (by rfl) fun K hK=>?_;simp+decide only[ev,putD,VG,VH,Ka,Kb,↓qI,Qc,Qz qeJ Yv,Qj wz eb_0q0,Qd,VJ,Kn,Jq,Nat.reduceAdd,QL,Qw,allLive,J4,hpl,hbl];refine qY (by rfl) (by rfl) (qpr wz _ vb qdn ln cl _ bv l (hp.mono zqB) hbl hbs hbc hf2 hf3) fun x5q1 h5q1 hx5q1=>?_;obtain⟨hs5,rv5,rfl,hrv5⟩:=hx5q1;have hs_h5q1:Sub h h5q1:=Ba zqC hs5;have hr_h5q1:Sub h4q1 h5q1:=Ba zqC hs5;have eb_0q0:=hs5 k0q0 _ zqA;simp+decide only[qa,ev,putD,VG,VH,VI,Ka,Kb,↓qg,qd,↓Xu,Xk,XA,KY,JN,VJ,Kn,↓qf,qc,VJ,Kn,Jq,Nat.reduceAdd];apply hK;clear hK K;refine awp_rseq [3,5,7,8,9] (by rfl) fun K hK=>?_;simp+decide only[ev,putD,VG,VH,Ka,Kb,↓qg,qd];refine qY (by rfl) (by rfl) (qsS wz ha _ qv qt (hqv.mono zqB) hqf) fun x6q1 h6q1 hx6q1=>?_;obtain⟨rfl,hs6⟩:=hx6q1;rw[operV_eq];have hs_h6q1:Sub h h6q1:=Ba zqC hs6;have hr_h6q1:Sub h5q1 h6q1:=Ba zqC hs6;have eb_0q0:=hs6 k0q0 _ zqA;simp+decide only[qa,ev,putD,VG,VH,VI,Ka,Kb,↓qg,qd,↓Xu,Xk,XA,KY,JN,VJ,Kn,↓qf,qc,VJ,Kn,Jq,Nat.reduceAdd];apply hK;clear hK K;refine awp_rseq [2] (by rfl) fun K hK=>?_;simp+decide only[qa,ev,qK,qG,putD,VG,VH,VI,Ka,Kb,↓qg,qd,↓Xc,agP,Qs,qW,qP,qH,implies_true,↓WR,Zn,YJ,qhN,qhO,↓QC,Qr,Qe,QT,QH,↓QJ,qh,qE,cond_false,XL,UV,XM,UW,qz,XV,↓qal,Qo,qcW,qcY,qN,↓qf,qc,nq];apply hK;clear hK K;refine Qn ?_;refine Qu (qJ (qO)) ?_;simp+decide only[VH,if_true,Qg];refine⟨h,by assumption,?_,Vh _⟩;rw[hR];congr 1;cases hop:qci QV qt with
  |none=>simp
  |some n=>
   have e:decide (((some n:Option Nat).getD 0:Int)=(qt.length:Int))=decide (some n=some qt.length):=by
    by_cases z:n=qt.length
    ·subst z;simp
    ·have:(n:Int)≠qt.length:=by omega
     simp[z,this]
   rw[e];simp only[Option.isSome_some,if_true,decide_true,J4,Bool.and_assoc]
def impV:Option Str->AVal
 |some w=> .tuple [.str w, .bool true]
 |none=> .tuple [.str [], .bool false]
theorem qdc{wz:World}{h:AHeap}{v:AVal}{qs:List (BodC×AVal×AVal)}(ht:IsL wz h 3 v (qs.map bdC)):∀H:AHeap,Zh Tryz.prog H 80 v=⟨True, .int .i64 qs.length⟩:=by
 intro H;have:=ht.len Tryz.underlying80 H
 rwa [Jo]at this
theorem qaZ{wz:World}{h:AHeap}{v:AVal}{qs:List (BodC×AVal×AVal)}(ht:IsL wz h 3 v (qs.map bdC))(hn:0<qs.length):∃lc o c,v= .slice lc o qs.length c:=by
 obtain⟨lc,o,c,e⟩:=ht.open (fun e=>by rw[VD]at e;subst e;simp at hn);rw[Jo]at e;exact⟨lc,o,c,e⟩
def qcj:BodC×AVal×AVal:=(([],[],[]), .nilSlice, .nilSlice)
theorem qdT{wz:World}{h:AHeap}{lc:AM.Loc}{o:Nat}{c:Cap}{qs:List (BodC×AVal×AVal)}(ht:IsL wz h 3 (.slice lc o qs.length c) (qs.map bdC)){i:Nat}(hi:i<qs.length):
 rd wz h lc (o+i*3)= .str (qs.getD i qcj).1.1/\rd wz h lc (o+i*3+1)=(qs.getD i qcj).2.1/\rd wz h lc (o+i*3+2)=(qs.getD i qcj).2.2:=by
 have he:=ht.elem (i:=i) (by rw[Jo];exact hi);rw[getD_map qcj hi]at he;simp only[Qd,bdC,List.cons.injEq,and_true]at he;exact he
theorem StsV.shape{wz:World}{d:Nat}{h:AHeap}{v:AVal}{l:List StC}(hs:StsV wz d h v l):v.live=true/\v.scal=true/\v.cells=[v]:=by
 obtain⟨qs,-,a⟩:=hs.isL;exact⟨a.live,a.scal,a.cells⟩
theorem qpp(wz:World)(ha:Asp wz)(h:AHeap)(c:Cur)(pv bv:AVal)(d:Nat)(hp:PhV wz h pv c.phrases)(hb:BdV wz (StsV wz d h) h bv c.bodies)(hbl:c.bodies.length<=1000000)(hf:qrG c.phrases):
 ACall Tryz.prog wz 74 [.agg [.str c.verb, .int .i64 c.line, .int .i64 c.col,pv,bv]] h (fun r h'=>r=impV (Yc QV c)/\Sub h h'):=by
 have hpl:=hp.live;have hps:=hp.scal;have hbl:=hb.live;have hbs:=hb.scal;have hbc:=hb.cells;obtain⟨ql,hql,hqb,hqq⟩:=id hb;have nb:=qdc hqb;have hR:Yc QV c=if c.bodies≠[]then none else if c.verb=[73,70]then some qcC else if c.verb=[80,69,82,70,79,82,77]/\Uh QV c.phrases=true then some []else none:=rfl
 obtain⟨R,hRR⟩:∃R,R=Yc QV c:=⟨_,rfl⟩
 rw[<-hRR]at hR|-
 have hbn:c.bodies=[]↔ql.length=0:=by rw[hql];simp
 refine Ql (n:=18) (rs:=[.tmp 2, .tmp 3]) Tryz.func74 rfl rfl rfl rfl (VF rfl) ?_;simp only[Qm];refine awp_rseq [1] (by rfl) fun K hK=>?_;refine Ue (by rfl) (by rfl) (by rfl) fun k0q0 hk0q0=>?_;try have hf_0q0:h k0q0=none:=by first|assumption|(simp only[VU]at hk0q0;simp only[hk0q0])
 skip;simp+decide only[qa,ev,qK,qG,putD,VG,VH,VI,Ka,Kb,↓qf,qc,VY];apply hK;clear hK K;refine qF ?_;refine awp_rseq [1,7] (by rfl) fun K hK=>?_;simp+decide only[qa,ev,qK,qG,putD,VG,VH,VI,Ka,Kb,↓qC,qi,Yf,↓qI,Qc,qj qbB,↓QB,Qo,↓qo,qh,qE,cond_false,qz,Yk,XN,VJ,Kn,Jq,hbl,nb];apply hK;clear hK K;refine qM (b:=_) rfl (fun hb1=>?_) (fun hb1=>?_)
 ·try simp only[decide_eq_true_eq]at hb1
  rw[if_pos (fun e=>by rw[hbn]at e;omega)]at hR;refine awp_rseq [2,3] (by rfl) fun K hK=>?_;simp+decide only[qa,ev,qK,qG,putD,VG,VI,Ka,Kb,↓qf,qc];apply hK;clear hK K;refine Qn ?_;try simp only[QM]
  refine Qu (qJ (qJ (qO))) ?_;simp+decide only[VH,Ka,Zm];rw[hR];exact⟨h,zqB,rfl,Vh _⟩
 ·try simp only[decide_eq_false_iff_not]at hb1
  rw[if_neg (fun e=>e (hbn.2 (by omega)))]at hR;refine qV ?_;change Awp _ _ _ _ _ _ _;refine qF ?_;refine awp_rseq [1,10] (by rfl) fun K hK=>?_;simp+decide only[qa,ev,qK,qG,putD,VG,VH,VI,Ka,Kb,↓qC,qi,WY,↓qI,Qc,qj ag9,↓qo,qh,Qy,cond_false,Qp,XP,XN,VJ,Jq,Qw];apply hK;clear hK K;refine qM (b:=_) rfl (fun hb2=>?_) (fun hb2=>?_)
  ·try simp only[decide_eq_true_eq]at hb2
   rw[if_pos hb2]at hR;refine awp_rseq [2,3] (by rfl) fun K hK=>?_;simp+decide only[qa,ev,qK,qG,putD,VG,VI,Ka,Kb,↓qf,qc];apply hK;clear hK K;refine Qn ?_;try simp only[QM]
   refine Qu (qJ (qJ (qO))) ?_;simp+decide only[VH,Ka,Zm];rw[hR];exact⟨h,zqB,rfl,Vh _⟩
  ·try simp only[decide_eq_false_iff_not]at hb2
   rw[if_neg hb2]at hR;obtain⟨pb,hpb⟩:∃pb,decide (c.verb=[80,69,82,70,79,82,77])=pb:=⟨_,rfl⟩
   refine qV ?_;change Awp _ _ _ _ _ _ _;refine awp_rseq [2,3] (by rfl) fun K hK=>?_;simp+decide only[ev,qK,qG,putD,VG,VH,Ka,Kb,↓qC,qi,WY,↓qI,Qc,qj ag9,↓qo,qh,Qy,cond_false,Qp,XP,↓qg,qd,↓XJ,Xp,ZL,agP,qW,qP,qH,implies_true,J4,Qz qeJ Yv,XN,Qd,VJ,Kn,Jq,Nat.reduceAdd,QL,Qw,allLive,J4,hpl,hbl,hpb];refine UC (g:= .bool pb) (V:= .bool (Uh QV c.phrases)) (f:=100) (cap:=[]) (xs:=[.agg [.str c.verb, .int .i64 c.line, .int .i64 c.col,pv,bv]]) (by rfl) (by rfl) (fun hg=>⟨rfl,by
    have hg':pb=true:=by rwa [qH]at hg
    simp+decide only[evs,ev,VH,Ka,hg',Qf,Jz,Ke,Vj]⟩) (fun hg=>qnN wz ha _ c.verb c.line c.col pv bv c.phrases (hp.mono zqB) hbl hbs hbc hf) fun h5q5 hs5=>?_
   have hs_h5q5:Sub h h5q5:=Ba zqC hs5;have hr_h5q5:=hs_h5q5;have eb_0q0:=hs5 k0q0 _ zqA;simp+decide only[qa,ev,qK,qG,putD,VG,VH,VI,Ka,Kb,qH,↓QC,Qr,Qe,QT,QH,↓qf,qc];apply hK;clear hK K;refine Qn ?_;refine Qu (qJ (qJ (qO))) ?_;simp+decide only[VH,Ka,Zm];refine⟨h,by assumption,?_,Vh _⟩;rw[hR];by_cases z:c.verb=[80,69,82,70,79,82,77]/\Uh QV c.phrases=true
   ·rw[if_pos z,<-hpb,decide_eq_true z.1,z.2];rfl
   ·rw[if_neg z]
    have:(pb && Uh QV c.phrases)=false:=by
     rw[Bool.eq_false_iff];intro q;rw[Ky]at q;exact z ⟨of_decide_eq_true (hpb.trans q.1),q.2⟩
    rw[this];rfl
structure WhG where
 j:Nat
 b:Bool
 H:AHeap
set_option maxHeartbeats 4000000 in
theorem c_whole(wz:World)(ha:Asp wz)(h:AHeap)(c:Cur)(pv bv:AVal)(d:Nat)(closed:Bool)(hp:PhV wz h pv c.phrases)(hb:BdV wz (StsV wz d h) h bv c.bodies)(hbn:c.bodies.length<=1000000)(hf:qrG c.phrases):
 ACall Tryz.prog wz 77 [.agg [.str c.verb, .int .i64 c.line, .int .i64 c.col,pv,bv], .bool closed] h (fun r h'=>r= .bool (qgw QV c closed)/\Sub h h'):=by
 have hpl:=hp.live;have hps:=hp.scal;have hbl:=hb.live;have hbs:=hb.scal;have hbc:=hb.cells;obtain⟨ql,hql,hqb,hqq⟩:=id hb;rw[hql,Jo]at hbn;have nb:=qdc hqb;have hR:qgw QV c closed=if c.verb=[73,70]then !decide (firstT c.phrases=[]) && (match c.bodies with|b::_=>decide (b.1=[84,72,69,78])|[]=>false)
  else if c.verb=[69,86,65,76,85,65,84,69]\/c.verb=[83,69,65,82,67,72]then c.bodies.any fun b=>decide (b.1=[87,72,69,78])
  else if c.verb=[80,69,82,70,79,82,77]then decide (Uh QV c.phrases= !decide (c.bodies=[])) && (closed||decide (c.bodies=[]))
  else true:=rfl
 obtain⟨R,hRR⟩:∃R,R=qgw QV c closed:=⟨_,rfl⟩
 rw[<-hRR]at hR|-
 have hbn0:c.bodies=[]↔ql.length=0:=by rw[hql];simp
 obtain⟨A,hA⟩:∃A,A=c.bodies.any fun b=>decide (b.1=[87,72,69,78]):=⟨_,rfl⟩
 rw[<-hA]at hR;rw[hql]at hA;refine Ql (n:=69) (rs:=[.tmp 4]) Tryz.func77 rfl rfl rfl rfl (VF rfl) ?_;simp only[Qm];refine awp_rseq [1,2] (by rfl) fun K hK=>?_;refine Ue (by rfl) (by rfl) (by rfl) fun k0q0 hk0q0=>?_;try have hf_0q0:h k0q0=none:=by first|assumption|(simp only[VU]at hk0q0;simp only[hk0q0])
 skip;simp+decide only[qa,ev,qK,qG,putD,VG,VH,VI,Ka,Kb,↓qf,qc,VY,Jq];apply hK;clear hK K;refine awp_rseq [1,2,5] (by rfl) fun K hK=>?_;simp+decide only[qa,ev,qK,qG,putD,VG,VI,Ka,Kb,↓qf,qc];apply hK;clear hK K;refine qF ?_;refine awp_rseq [1,2,5,9,10,11] (by rfl) fun K hK=>?_;simp+decide only[qa,ev,qK,qG,putD,VG,VH,VI,Ka,Kb,↓qC,qi,Yf,↓qI,Qc,qj qbB,↓QB,Qo,↓qg,qd,XN,VJ,Kn,Jq,hbl,nb];apply hK;clear hK K;refine Qb ?_;refine QN [1,2,5,9,10,11] (fun g:WhG=>[(1, .bool closed),(2, .ptr (.own k0q0) 0),(5, .bool g.b),(9,bv),(10, .int .i64 ql.length),(11, .int .i64 g.j)]) (fun g:WhG=>g.H) (fun g:WhG=>Sub h g.H/\g.H k0q0=some ⟨[.str c.verb, .int .i64 c.line, .int .i64 c.col,pv,bv],0⟩/\g.j<=ql.length/\A=(g.b||((ql.drop g.j).map (·.1)).any fun b=>decide (b.1=[87,72,69,78]))) (fun g:WhG=>ql.length-g.j) ⟨0,false,_⟩ (by rfl) (Vh _) ⟨zqB,zqA,Jr _,hA⟩ ?_;rintro⟨j,b,H⟩ ⟨hs_H,eb_0q0,hj,hg⟩;simp only at hs_H eb_0q0 hj hg|-
 refine awp_rseq [1,2,5,9,10,11,12] (by rfl) fun K hK=>?_;simp+decide only[qa,ev,putD,VG,VH,VI,Ka,Kb,↓qo,qh,qN,cond_false,qz,Xt];apply hK;clear hK K;refine qF (qM (b:=_) rfl (fun hb1=>?_) (fun hb1=>?_))
 ·try simp only[decide_eq_true_eq]at hb1
  have hj':j<ql.length:=by omega
  obtain⟨q,hqe⟩:∃q,q=ql.getD j qcj:=⟨_,rfl⟩
  have hqm:q∈ql:=by rw[hqe,Ko,JH hj'];exact VA hj'
  obtain⟨lc,o,cc,hpe⟩:=qaZ hqb (by omega);have hq2:=hqb.mono hs_H;rw[hpe]at hq2;obtain⟨e0,e1,e2⟩:=qdT hq2 hj';rw[<-hqe]at e0 e1 e2;obtain⟨hqt,hqs⟩:=hqq q hqm;have hl1:=hqt.live;have hs1:=hqt.scal;have hc1:=hqt.cells;obtain⟨hl2,hs2,hc2⟩:=hqs.shape;have hst:A=(b||decide (q.1.1=[87,72,69,78])||((ql.drop (j+1)).map (·.1)).any fun b=>decide (b.1=[87,72,69,78])):=by
   rw[hg,J9 hj',Ke,V6,<-Bool.or_assoc];have:ql[j]=q:=by rw[hqe,Ko,JH hj'];rfl
   rw[this]
  obtain⟨⟨qw,qt,qL⟩,qtv,qlv⟩:=q;simp only at e0 e1 e2 hl1 hs1 hc1 hl2 hs2 hc2 hst;have hwj:IntKind.i64.wrap ((j:Int)+1)=((j+1:Nat):Int):=by rw[wrap_i64 (by omega) (by omega)];omega
  refine qV ?_;change Awp _ _ _ _ _ _ _;refine qF ?_;refine Qb ?_;refine awp_rseq [1,2,5,7,9,10,11] (by rfl) fun K hK=>?_;simp+decide only[ev,putD,VG,VH,Ka,Kb,↓qZ,Qc,qA Tryz.underlying80 UE,↓qI,Qz qoc UE,Qd,Qw,allLive,J4,hpe,e0,e1,e2,hl1,hl2,VN];repeat (with_reducible refine And.intro ?_ ?_;· first|trivial|omega|(intro hg;simp only[Ky,JF,Ji,VO,VL,VK,decide_eq_true_eq,decide_eq_false_iff_not,Xd]at hg;omega))
  refine Xb qjZ (cs:=[.str [], .nilSlice, .nilSlice]) (by rfl) fun k4q2 hk4q2=>?_;have hn_4q2:H k4q2=none:=by first|assumption|(simp only[VU]at hk4q2;simp only[hk4q2])
  have hf_4q2:h k4q2=none:=VV hs_H hn_4q2;have ne_4q2_0q0:k4q2≠k0q0:=VW hn_4q2 eb_0q0;refine Qi (by rfl) (by rfl) zqA UE (by rfl) (by rfl) zqD (Jr _) (by first|rfl|(simp+decide only[ev,putD,VG,VH,Ka,VY,QU,J4,hs1,hs2,YT])) ?_;simp only[VX,VY];simp+decide only[qa,ev,putD,VG,VH,VI,Ka,setAt,VZ,Kj,Jq,Nat.reduceAdd];apply hK;clear hK K;refine Xa [1,2,5,9,10,11] (by rfl) ?_;simp+decide only[qa,ev,qK,qG,putD,VG,VH,VI,Ka,Kb,↓qg,qd,↓Xe,qi,agP,Qs,qW,qP,qU,implies_true,qhb,↓XJ,Xp,ZL,qik,qj ag9,↓QJ,qh,Qy,cond_false,XL,XM,Qp,XP,↓QC,Qr,Qe,XZ,XO,↓qf,qc,XN,VJ,Jq,Qw];change Awp _ _ _ _ _ _ _;refine Xa [1,2,5,9,10,11] (by rfl) ?_;simp+decide only[qa,ev,qK,qG,putD,VG,VH,VI,Ka,Kb,↓qo,qh,qE,cond_false,qz,QW,↓qg,qd,hwj];try simp only[qR]
  exact⟨⟨j+1,_,_⟩,by rw[hpe];rfl,Vh _,⟨zqB,zqA,hj',hst⟩,by simp only;omega⟩
 ·try simp only[decide_eq_false_iff_not]at hb1
  have hjn:j=ql.length:=by omega
  have hbA:b=A:=by rw[hg,hjn,J8];simp
  clear hg;refine QI ?_;change Awp _ _ _ _ _ _ _;refine qF ?_;refine awp_rseq [1,2,5,23] (by rfl) fun K hK=>?_;simp+decide only[qa,ev,putD,VG,VH,VI,Ka,Kb,↓qC,qi,WY,↓qI,Qc,qj ag9,Qj wz eb_0q0,VJ,Jq,Qw];apply hK;clear hK K;refine Qb ?_;refine awp_rseq [1,2,5,23,24] (by rfl) fun K hK=>?_;simp+decide only[qa,ev,qK,qG,putD,VG,VH,VI,Ka,Kb,↓qo,qh,Qy,cond_false,Qp,XP,↓qf,qc];apply hK;clear hK K;refine qM (b:=_) rfl (fun hb2=>?_) (fun hb2=>?_)
  ·try simp only[decide_eq_true_eq]at hb2
   rw[if_pos hb2]at hR;obtain⟨qs,hqe,hq,hqt⟩:=id hp;have hqn:0<qs.length:=by
    rcases VT qs.length with z|z
    ·exfalso;apply hf.1;rw[hqe,Kg z];rfl
    ·exact z
   obtain⟨q,hq0⟩:∃q,q=qs.getD 0 qbu:=⟨_,rfl⟩
   have hqm:q∈qs:=by rw[hq0,Ko,JH hqn];exact VA hqn
   have hft:firstT c.phrases=q.1.toks:=by
    unfold firstT;rw[hqe,hq0];simp[Ko,hqn]
   have hqv:=hqt q hqm;have hqvl:=hqv.live;have nq:=Zt hqv;rw[hft]at hR;obtain⟨lc,o,cc,hpe⟩:=UK hq hqn;have hq2:=hq.mono hs_H;rw[hpe]at hq2;obtain⟨-,e1⟩:=qbH hq2 hqn;rw[K8,K7,<-hq0]at e1;have hpos:((0:Int)<qs.length)=True:=eq_true (by omega);have mcase:(∃(lb:AM.Loc) (ob:Nat) (cb:Cap),bv=bv/\decide ((0:Int)<q.1.toks.length)=false/\True/\True/\True/\R=false)\/
    (∃(lb:AM.Loc) (ob:Nat) (cb:Cap),bv=bv/\decide ((0:Int)<q.1.toks.length)=true/\decide ((0:Int)<ql.length)=false/\True/\True/\R=false)\/
    (∃(lb:AM.Loc) (ob:Nat) (cb:Cap),bv= .slice lb ob ql.length cb/\decide ((0:Int)<q.1.toks.length)=true/\decide ((0:Int)<ql.length)=true/\((0:Int)<ql.length)=True/\rd wz H lb ob= .str (ql.getD 0 qcj).1.1/\R=decide ((ql.getD 0 qcj).1.1=[84,72,69,78])):=by
    by_cases z1:q.1.toks=[]
    ·exact .inl ⟨.base 0,0, .exact 0,rfl,by rw[z1];rfl,trivial,trivial,trivial,by rw[hR,decide_eq_true z1];rfl⟩
    ·have z1':decide ((0:Int)<q.1.toks.length)=true:=by
      rw[decide_eq_true_eq];have:=Bc.2 z1;omega
     rw[decide_eq_false z1]at hR;by_cases z2:ql.length=0
     ·refine .inr (.inl ⟨.base 0,0, .exact 0,rfl,z1',by rw[z2];rfl,trivial,trivial,?_⟩)
      rw[hR,hbn0.2 z2];rfl
     ·obtain⟨lb,ob,cb,hbe⟩:=qaZ hqb (by omega)
      have hb2:=hqb.mono hs_H;rw[hbe]at hb2;obtain⟨e3,-,-⟩:=qdT hb2 (i:=0) (by omega);rw[K8,K7]at e3;refine .inr (.inr ⟨lb,ob,cb,hbe,z1',by rw[decide_eq_true_eq];omega,eq_true (by omega),e3,?_⟩);rw[hR,hql];cases ql with
      |nil=>exact absurd rfl z2
      |cons x xs=>rfl
   refine awp_rseq [4] (by rfl) fun K hK=>?_;suffices hM:∀g:Bool,g=R->K [(4, .bool g)] (H) by
    rcases mcase with⟨lb,ob,cb,hbe,hT,hB,hp2,e3,hfin⟩|⟨lb,ob,cb,hbe,hT,hB,hp2,e3,hfin⟩|⟨lb,ob,cb,hbe,hT,hB,hp2,e3,hfin⟩<;>(
     simp+decide only[qa,ev,qK,qG,putD,VG,VH,VI,Ka,Kb,and_true,↓qC,qi,Zz,↓qI,Qc,qj qba,↓qZ,qA Tryz.underlying79 qab,UT,qj qam,↓QB,Qo,↓qo,qh,qE,cond_false,qz,Yk,↓qg,qd,↓Xe,agP,Qs,qW,qP,qH,implies_true,decide_true,Qf,QO,false_implies,Zl,J4,Bf,VP,Yf,UB,↓XJ,Xp,ZL,qj qbB,↓qal,Xr Tryz.underlying80,↓QJ,↓QC,Qr,Qe,QH,↓Zp,qA Tryz.underlying80 UE,qhb,qj ag9,Qy,Qp,XP,↓qf,qc,Qj wz eb_0q0,VJ,Kn,Jq,Qw,Xv,J4,hbl,nb,hpe,hpos,e1,nq,hqvl,hbe,hT,hB,hp2,e3,QO,Qf,VP,Bg,K8,K7];exact hM _ hfin.symm)
   intro g hb_9;apply hK;clear hK K;refine Qn ?_;try simp only[QM,Xl]
   refine Qu (qJ (qO)) ?_;simp+decide only[VH,if_true,Qg];rw[<-hb_9];exact⟨h,by assumption,rfl,Vh _⟩
  ·try simp only[decide_eq_false_iff_not]at hb2
   rw[if_neg hb2]at hR;refine qF ?_;refine awp_rseq [1,2,5,23,47] (by rfl) fun K hK=>?_;simp+decide only[qa,ev,qK,qG,putD,VG,VH,VI,Ka,Kb,↓qo,qh,Qy,cond_false,Qp,XP,↓qf,qc];apply hK;clear hK K;refine qM (b:=_) rfl (fun hb3=>?_) (fun hb3=>?_)
   ·try simp only[decide_eq_true_eq]at hb3
    refine qV ?_;change Awp _ _ _ _ _ _ _;refine qM (b:=_) rfl (fun hb4=>?_) (fun hb4=>?_)
    ·try simp only[decide_eq_true_eq]at hb4
     rw[if_pos (.inl hb3)]at hR;refine awp_rseq [4] (by rfl) fun K hK=>?_;simp+decide only[qa,ev,putD,VG,VH,VI,Ka,Kb,↓qg,qd,↓qf,qc];apply hK;clear hK K;refine Qn ?_;try simp only[QM,Xl]
     refine Qu (qJ (qO)) ?_;simp+decide only[VH,if_true,Qg];exact⟨h,by assumption,by rw[hR,hbA],Vh _⟩
    ·exact absurd hb3 (of_decide_eq_false hb4)
   ·try simp only[decide_eq_false_iff_not]at hb3
    refine Xa [1,2,5,23,47] (by rfl) ?_;simp+decide only[qa,ev,qK,qG,putD,VG,VH,VI,Ka,Kb,↓qo,qh,Qy,cond_false,Qp,XP,↓qf,qc];change Awp _ _ _ _ _ _ _;refine qM (b:=_) rfl (fun hb6=>?_) (fun hb6=>?_)
    ·try simp only[decide_eq_true_eq]at hb6
     rw[if_pos (.inr hb6)]at hR;refine awp_rseq [4] (by rfl) fun K hK=>?_;simp+decide only[qa,ev,putD,VG,VH,VI,Ka,Kb,↓qg,qd,↓qf,qc];apply hK;clear hK K;refine Qn ?_;try simp only[QM,Xl]
     refine Qu (qJ (qO)) ?_;simp+decide only[VH,if_true,Qg];exact⟨h,by assumption,by rw[hR,hbA],Vh _⟩
    ·try simp only[decide_eq_false_iff_not]at hb6
     rw[if_neg (by
      rintro(z|z)
      ·exact hb3 z
      ·exact hb6 z)]at hR
     refine awp_rseq [1,2,51] (by rfl) fun K hK=>?_;simp+decide only[qa,ev,qK,qG,putD,VG,VH,VI,Ka,Kb,↓qo,qh,Qy,cond_false,Qp,XP,↓qf,qc];apply hK;clear hK K;refine qM (b:=_) rfl (fun hb7=>?_) (fun hb7=>?_)
     ·try simp only[decide_eq_true_eq]at hb7
      rw[if_pos hb7]at hR;refine qpw [0,2,3,4,5,1,6,7,8,9,10,11,12,13,14,15,16] [none,none,none,none,none,none,some 5,some 6,some 7,some 8,some 9,some 10,some 11,some 12,some 9,some 7,some 15] 17 [4] mixed (by kernel_rfl) (by rfl) fun K hK=>?_;simp only[Yi,List.filterMap_cons,List.filterMap_nil,Kz,KN];simp+decide only[qa,ev,qK,qG,putD,VG,VH,Ka,Kb,qgU,qfV,Wv,↓qI,Qc,Qz qeJ Yv,↓qC,qi,Yf,qj qbB,↓QB,Qo,↓qo,qh,qE,cond_false,qz,Yk,Qj wz eb_0q0,Qd,VJ,Kn,Jq,Nat.reduceAdd,QL,Qw,allLive,J4,hpl,hbl,nb];refine qY (by rfl) (by rfl) (qnN wz ha _ c.verb c.line c.col pv bv c.phrases (hp.mono zqB) hbl hbs hbc hf) fun x14q1 h14q1 hx14q1=>?_;obtain⟨rfl,hs14⟩:=hx14q1;have hs_h14q1:Sub h h14q1:=Ba zqC hs14;have hr_h14q1:Sub H h14q1:=Ba zqC hs14;have eb_0q0:=hs14 k0q0 _ zqA;rw[qa];refine And.intro (by first|exact Vh _|assumption|exact Vi (by assumption)) ?_;simp+decide only[qa,ev,qK,qG,putD,VG,VH,VI,Ka,Kb,Wv,qh,qN,cond_false,qsm,Tryz.underlying4,↓qg,qd,↓Xc,agP,Qs,qW,qP,Xm,Ze,qH,qU,qeS,implies_true,↓Xe,qi,Yf,↓XJ,Xp,ZL,qmz,qj qbB,↓qal,Qo,qcW,qcY,↓QJ,qE,XL,XM,qz,XV,↓WS,Qr,Qe,QT,qcs,QH,XO,qaz,qaA,↓QC,↓qf,qc,Qj wz eb_0q0,VJ,Kn,Jq,hbl,nb];apply hK;clear hK K;refine Qn ?_;try simp only[QM,Xl]
      refine Qu (qJ (qO)) ?_;simp+decide only[VH,if_true,Qg];refine⟨h,by assumption,?_,Vh _⟩;rw[hR];congr 1;by_cases z:ql.length=0
      ·rw[hbn0.2 z,z]
       cases Uh QV c.phrases<;>cases closed<;>rfl
      ·have z2:c.bodies≠[]:=fun e=>z (hbn0.1 e)
       have z3:decide ((0:Int)<ql.length)=true:=by rw[decide_eq_true_eq];omega
       have z4:decide ((ql.length:Int)=0)=false:=by rw[decide_eq_false_iff_not];omega
       rw[z3,z4,decide_eq_false z2];cases Uh QV c.phrases<;>cases closed<;>rfl
     ·try simp only[decide_eq_false_iff_not]at hb7
      rw[if_neg hb7]at hR;refine qV ?_;change Awp _ _ _ _ _ _ _;refine awp_rseq [4] (by rfl) fun K hK=>?_;simp+decide only[qa,ev,qK,qG,putD,VG,VI,Ka,Kb,↓qf,qc];apply hK;clear hK K;refine Qn ?_;refine Qu (qJ (qO)) ?_;simp+decide only[VH,if_true,Qg];exact⟨h,by assumption,by rw[hR],Vh _⟩
abbrev curB(c:Cur)(pv bv:AVal):Blk:=⟨[.str c.verb, .int .i64 c.line, .int .i64 c.col,pv,bv],0⟩
abbrev parB3(v:AVal)(i:Nat)(ov:AVal):Blk:=⟨[v, .int .i64 i,ov],0⟩
structure CurS(wz:World)(d:Nat)(c:Cur)(pv bv:AVal)(pp tp bp E:AHeap):Prop where
 ph:∃(qs:List (PhrC×AVal)) (w:Str) (ts:List TokC) (tv:AVal),c.phrases=qs.map (·.1)++[⟨w,ts⟩]/\GrowV 2 pv pp (qs.map phC++[[.str w,tv]])/\GrowV 5 tv tp (ts.map Xy)/\∀q∈qs,IsL wz E 5 q.2 (q.1.toks.map Xy)
 bd:∃bs:List (BodC×AVal×AVal),c.bodies=bs.map (·.1)/\GrowV 3 bv bp (bs.map bdC)/\∀b∈bs,IsL wz E 5 b.2.1 (b.1.2.1.map Xy)/\StsV wz d E b.2.2 b.1.2.2
def Few(c:Cur)(i:Nat):Prop:=c.phrases.length<=i/\(∀p∈c.phrases,p.toks.length<=i)/\c.bodies.length<=i
theorem CurS.bv_len{wz:World}{d:Nat}{c:Cur}{pv bv:AVal}{pp tp bp E:AHeap}(hc:CurS wz d c pv bv pp tp bp E):bv.live=true/\bv.scal=true/\bv.cells=[bv]/\∀H:AHeap,Zh Tryz.prog H 80 bv=⟨True, .int .i64 c.bodies.length⟩:=by
 obtain⟨bs,e,g,-⟩:=hc.bd;refine⟨g.live,g.scal,g.cells,fun H=>?_⟩;rw[qdc (wz:=wz) (g.isL (Vh _)),e,Jo]
theorem CurS.pv_ok{wz:World}{d:Nat}{c:Cur}{pv bv:AVal}{pp tp bp E:AHeap}(hc:CurS wz d c pv bv pp tp bp E):pv.live=true/\pv.scal=true/\pv.cells=[pv]:=by
 obtain⟨qs,w,ts,tv,_,g,_⟩:=hc.ph;exact⟨g.live,g.scal,g.cells⟩
theorem c_tokBad(wz:World)(h B:AHeap)(kp ks:Nat)(v ov bv pv:AVal)(op pp tp bp E:AHeap)(c:Cur)(d i:Nat)(l:List TokC)(forms:Str)(hS:Sep [B,one kp (parB3 v i ov),op,one ks (curB c pv bv),pp,tp,bp,E] h)(hv:IsL wz B 5 v (l.map Xy))(hc:CurS wz d c pv bv pp tp bp E)
 (hl:l.length<=1000000) (hi:i<=l.length) (hb:c.bodies≠[]):APanic Tryz.prog wz 76 [.ptr (.own kp) 0, .ptr (.own ks) 0, .str forms] h (FaultP h (UR l 4 i)):=by
 have eb_p:h kp=some _:=hS.at_ (i:=1) rfl;have eb_s:h ks=some _:=hS.at_ (i:=3) rfl;have ne_p_s:kp≠ks:=hS.ne (i:=1) (j:=3) rfl rfl (by decide);have hs_h:Sub B h:=hS.in_ (i:=0) rfl;have hlv:=hv.live;obtain⟨hbl,-,-,nb⟩:=hc.bv_len;have hn:=Bc.2 hb;refine UY (k:=82) (rs:=[]) Tryz.func76 rfl rfl rfl rfl (VF rfl) ?_;simp only[Qm];refine qF ?_;refine awp_rseq [0,1,2,14] (by rfl) fun K hK=>?_;simp+decide only[qa,ev,qK,qG,putD,VG,VH,VI,Ka,Kb,↓qg,qd,↓Qv,Qk,QE,↓qC,qi,Yf,↓qI,Qc,qj qbB,↓QB,Qo,↓qo,qh,qE,cond_false,qz,Yk,Qj wz eb_s,VJ,Kn,Jq,Nat.reduceAdd,hbl,nb];apply hK;clear hK K;refine qM (b:=_) rfl (fun hb1=>?_) (fun hb1=>?_)
 ·try simp only[decide_eq_true_eq]at hb1
  refine Yd 5 (by rfl) (by rfl) ?_;simp only[Ki,V4];simp+decide only[qa,ev,putD,VG,VH,Ka,Kb,↓qg,qd,↓Qv,Qk,QE,↓qC,qi,Yp,↓qI,Qc,qj ag3,Qj wz eb_p,VJ,Kn,Jq,QL];refine⟨⟨_,_,by rfl,?_⟩,by intro i;first|trivial|exact .inr trivial|exact .inr rfl⟩;exact qda wz _ B kp v ov l i 4 i zqA zqB hv hl (by omega)
 ·have:=of_decide_eq_false hb1;omega
theorem qiI(F:List AVal)(w tv u:AVal)(n:Nat)(hn:F.length=n*2):setAt (F++[w,tv]) (n*2+1) [u]=F++[w,u]:=by
 simp only[setAt];rw[List.set_append_right _ _ (by omega),show n*2+1-F.length=1 by omega];rfl
theorem qcL(qs:List (PhrC×AVal)):(qs.map phC).flatten.length=qs.length*2:=by rw[XT qdB,Jo]
theorem qec{l:List TokC}{c:Cur}{forms:Str}{i:Nat}(hb:c.bodies=[]):WT l c forms i=if (QZ l i forms).2=0 then .ok {c with phrases:=qpG c.phrases (l.getD i noT)} (i+1)
 else if (QZ l i forms).1≠[]then .ok {c with phrases:=c.phrases++[⟨(QZ l i forms).1,[]⟩]} (i+(QZ l i forms).2)
 else .ok c (i+(QZ l i forms).2):=by
 unfold WT;rw[if_neg (by rw[hb];simp)]
theorem qtc(ps:List PhrC)(w:Str)(ts:List TokC)(t:TokC):qpG (ps++[⟨w,ts⟩]) t=ps++[⟨w,ts++[t]⟩]:=by simp[qpG]
theorem qep{qs:List (PhrC×AVal)}{w:Str}{tv pv:AVal}{pp:AHeap}(hg:GrowV 2 pv pp (qs.map phC++[[.str w,tv]])):∃kh ch,pv= .slice (.own kh) 0 (qs.length+1) ch/\(ch= .exact (qs.length+1)\/ch= .grow 2)/\pp=one kh ⟨(qs.map phC).flatten++[.str w,tv],0⟩:=by
 rcases hg with⟨_,_,e⟩|⟨k,c,e1,e2,e3,_,_⟩
 ·simp at e
 ·rw[Jc,Jo,JA]at e1 e2
  exact⟨k,c,e1,e2,by rw[e3];simp⟩
theorem qhG{qs:List (PhrC×AVal)}{w:Str}{tv pv u:AVal}{pp:AHeap}{kh:Nat}{ch:Cap}(hg:GrowV 2 pv pp (qs.map phC++[[.str w,tv]]))(hpv:pv= .slice (.own kh) 0 (qs.length+1) ch)(hch:ch= .exact (qs.length+1)\/ch= .grow 2)(hu:u.live=true):
 GrowV 2 pv (one kh ⟨(qs.map phC).flatten++[.str w,u],0⟩) (qs.map phC++[[.str w,u]]):=by
 have hl:allLive (qs.map phC++[[AVal.str w,tv]]).flatten=true:=by
  rcases hg with⟨_,_,e⟩|⟨_,_,_,_,_,_,hl⟩
  ·simp at e
  ·exact hl
 rw[Vt,Ya,Ky]at hl;subst hpv;refine GrowV.new (by rw[Jc,Jo,JA]) hch (fun x hx=>?_) ?_ (by simp)
 ·rcases JR.1 hx with h|h
  ·exact qdB x h
  ·rw[VM.1 h];rfl
 ·rw[Vt,Ya,hl.1]
  show(true && (true && (u.live && true)))=true
  rw[hu];rfl
theorem qnn(qs:List (PhrC×AVal))(w:Str)(tv:AVal):((qs.map phC).flatten++[AVal.str w,tv]).getD (qs.length*2+1) .dead=tv:=by
 rw[Ko,List.getElem?_append_right (by rw[qcL];omega),qcL,show qs.length*2+1-qs.length*2=1 by omega];rfl
set_option maxHeartbeats 4000000 in
theorem c_tokOk(wz:World)(ha:Asp wz)(h B:AHeap)(kp ks:Nat)(v ov bv pv:AVal)(op pp tp bp E:AHeap)(c c':Cur)(d i j:Nat)(l:List TokC)(forms:Str)(hS:Sep [B,one kp (parB3 v i ov),op,one ks (curB c pv bv),pp,tp,bp,E] h)(hv:IsL wz B 5 v (l.map Xy))(hc:CurS wz d c pv bv pp tp bp E)
 (hl:l.length<=1000000) (hi:i<l.length) (hb:c.bodies=[]) (hf:forms.length<=1000000) (hfa:asciiB forms=true) (hok:WT l c forms i= .ok c' j) (hfew:Few c i) (hov:ov.live=true):
 ACall Tryz.prog wz 76 [.ptr (.own kp) 0, .ptr (.own ks) 0, .str forms] h (fun r h'=>r= .tuple []/\∃pv' pp' tp' E',CurS wz d c' pv' bv pp' tp' bp E'/\Sep [B,one kp (parB3 v j ov),op,one ks (curB c' pv' bv),pp',tp',bp,E'] h'):=by
 have eb_p:h kp=some _:=hS.at_ (i:=1) rfl;have eb_s:h ks=some _:=hS.at_ (i:=3) rfl;have ne_p_s:kp≠ks:=hS.ne (i:=1) (j:=3) rfl rfl (by decide);have hs_h:Sub B h:=hS.in_ (i:=0) rfl;have hlv:=hv.live;obtain⟨hbl,hbs,hbc,nb⟩:=hc.bv_len;rw[qec hb]at hok;have hst:=qbl l i forms (by omega);obtain⟨S,hS0⟩:∃S,S=QZ l i forms:=⟨_,rfl⟩
 rw[<-hS0]at hok hst;obtain⟨hf1,hf2,hf3⟩:=hfew;refine Ql (n:=82) (rs:=[]) Tryz.func76 rfl rfl rfl rfl (VF rfl) ?_;simp only[Qm];refine qF ?_;refine awp_rseq [0,1,2,14] (by rfl) fun K hK=>?_;simp+decide only[qa,ev,qK,qG,putD,VG,VH,VI,Ka,Kb,↓qg,qd,↓Qv,Qk,QE,↓qC,qi,Yf,↓qI,Qc,qj qbB,↓QB,Qo,↓qo,qh,qE,cond_false,qz,Yk,Qj wz eb_s,VJ,Kn,Jq,Nat.reduceAdd,hbl,nb];apply hK;clear hK K;refine qM (b:=_) rfl (fun hb1=>?_) (fun hb1=>?_)
 ·rw[hb]at hb1;cases hb1
 ·try simp only[decide_eq_false_iff_not]at hb1
  refine qV ?_;change Awp _ _ _ _ _ _ _;refine awp_rseq [0,1,6,7] (by rfl) fun K hK=>?_;simp+decide only[ev,putD,VG,VH,Ka,Kb,↓qg,qd];refine QS (V:= .tuple [.str S.1, .int .i64 S.2]) (by rfl) (by rfl) (by rw[hS0];exact qdM wz ha _ (.own kp) 0 v l i forms (Qj wz eb_p 0) (Qj wz eb_p 1) (hv.mono zqB) hl (by omega) hf hfa) ?_;simp+decide only[qa,ev,putD,VG,VH,VI,Ka,Kb,↓qg,qd,↓Xu,Xk,XA,KY,JN,VJ,Kn,↓qf,qc,VJ,Kn,Jq,Nat.reduceAdd];apply hK;clear hK K;refine qF ?_;refine Qb ?_;refine awp_rseq [0,1,6,7,27] (by rfl) fun K hK=>?_;simp+decide only[qa,ev,qK,qG,putD,VG,VH,VI,Ka,Kb,↓qg,qd,↓qo,qh,qE,cond_false,qz,XV,↓qf,qc];apply hK;clear hK K;refine qM (b:=_) rfl (fun hb2=>?_) (fun hb2=>?_)
  ·try simp only[decide_eq_true_eq]at hb2
   have hz:S.2=0:=by omega
   rw[if_pos hz]at hok;obtain⟨qs,w,ts,tv,hph,hg,hgt,hqE⟩:=hc.ph;obtain⟨kh,ch,rfl,hch,rfl⟩:=qep hg;have eb_h:h kh=some _:=hS.at_ (i:=4) rfl;have ne_p_h:kp≠kh:=hS.ne (i:=1) (j:=4) rfl rfl (by decide);have ne_s_h:ks≠kh:=hS.ne (i:=3) (j:=4) rfl rfl (by decide);have nph:∀H:AHeap,Zh Tryz.prog H 79 (.slice (.own kh) 0 (qs.length+1) ch)=⟨True, .int .i64 ((qs.length+1:Nat):Int)⟩:=fun H=>by
    have:=(hg.isL (wz:=wz) (Vh _)).len Tryz.underlying79 H
    rwa [Jc,Jo,JA]at this
   rw[hph,Jc,Jo,JA]at hf1;have hwn:IntKind.i64.wrap (((qs.length+1:Nat):Int)-1)=(qs.length:Int):=by rw[wrap_i64 (by omega) (by omega)];omega
   have htl:=hgt.live;have htsl:ts.length<=i:=hf2 ⟨w,ts⟩ (by rw[hph];simp);refine WP [0,8] mixed (by kernel_rfl) (by rfl) (by rfl) fun K hK=>?_;simp+decide only[ev,qK,qG,putD,VG,VH,Ka,Kb,↓qg,qd,↓Qv,Qk,QE,↓qC,qi,Zz,↓qI,Qc,qj qba,↓QB,Qo,Xr Tryz.underlying79,↓qo,qh,qE,cond_false,qz,Wl,Qj wz eb_s,VJ,Kn,Jq,Xv,hwn];try simp+decide only[qa,ev,putD,VG,VH,VI,Ka,Kb,↓qZ,Qc,qA Tryz.underlying79 qab,↓qf,qc,Jq]
   repeat (with_reducible refine And.intro ?_ ?_;· first|trivial|omega|(intro hg;simp only[Ky,JF,Ji,VO,VL,VK,decide_eq_true_eq,decide_eq_false_iff_not,Xd]at hg;omega))
   apply hK;clear hK K;obtain⟨lc,o,cc,hve⟩:=ZT hv (by omega);have hv2:=hv.mono hs_h;rw[hve]at hv2;obtain⟨e0,e1,e2,e3,e4⟩:=WE hv2 hi;obtain⟨t,ht⟩:∃t,t=l.getD i noT:=⟨_,rfl⟩
   rw[<-ht]at e0 e1 e2 e3 e4 hok;obtain⟨cs,hcs⟩:∃cs,cs=(qs.map phC).flatten++[AVal.str w,tv]:=⟨_,rfl⟩
   have hcg:cs.getD (qs.length*2+1) .dead=tv:=by rw[hcs];exact qnn qs w tv
   have hcl:cs.length=qs.length*2+2:=by rw[hcs,Jc,qcL];rfl
   rw[<-hcs]at eb_h hS;have etv:rd wz h (.own kh) (qs.length*2+1)=tv:=by rw[Qj wz eb_h];exact hcg
   refine qaj 16 [0] [0] mixed (by kernel_rfl) (by rfl) fun K hK=>?_;simp only[Ki,V4,Vw,Vm];simp+decide only[ev,putD,VG,VH,Ka,Kb,↓qaw,qd,↓Uz,Qk,QE,↓YE,qi,UT,↓qay,ZF,qj qam,qbv,Yp,qj ag3,↓Wm,qA Tryz.underlying39 Yl,Zf,Qz qhZ Yl,Qj wz eb_p,Qd,VJ,Kn,Jq,YP,QL,Qw,Xv,allLive,J4,htl,etv,hve,e0,e1,e2,e3,e4,VN,K7,Jq];repeat (with_reducible refine And.intro ?_ ?_;· first|trivial|omega|(intro hg;simp only[Ky,JF,Ji,VO,VL,VK,decide_eq_true_eq,decide_eq_false_iff_not,Xd]at hg;omega))
   refine UU (by rfl) ?_;refine Qh (cs:=(Xy t)) (by kernel_rfl) fun k5q15 hk5q15=>?_;have hn_5q15:h k5q15=none:=by first|assumption|(simp only[VU]at hk5q15;simp only[hk5q15])
   have hf_5q15:B k5q15=none:=VV hs_h hn_5q15;have ne_5q15_p:k5q15≠kp:=VW hn_5q15 eb_p;have ne_5q15_s:k5q15≠ks:=VW hn_5q15 eb_s;rw[qa];try simp only[qaG]
   refine ZM (es:=5) (v:=tv) (p:=tp) (xs:=ts.map Xy) (ys:=[Xy t]) (i:=5) (by rfl) (by rfl) Tryz.underlying39 Tryz.underlying39 (fun k e=>by cases e) Yl qfo qdo (by rfl) (by decide) (by rfl) hgt rfl (hS.forget (Vi hn_5q15)) (by rfl) (Bh (Vg _ _ _) (fun x hx=>by rw[VM.1 hx];rfl) (by rfl) (by rfl) (.exact 1) (KM _)) (by rfl) (by simp) (by rw[Jo,JA];omega) (by rw[Jo,JA];omega) fun tv2 tp2 h5 hg2 _ hS2=>?_;simp+decide only[ev,putD,VG,VH,Ka,Kb,↓Qv,Qk,QE,↓qC,qi,UT];refine Qi (v:=tv2) (by rfl) (by rfl) (hS2.at_ (i:=4) rfl) sz39 hg2.live (by rw[hg2.cells];rfl) (by simp only;omega) (Jr _) (by rw[hg2.cells];simp[QU,hg2.scal]) ?_;simp+decide only[qa,putD,VI,Ka,VY];apply hK;clear hK K;obtain⟨H6,hH6⟩:∃H6,H6=h5.set kh ⟨setAt cs (qs.length*2+1) tv2.cells,0⟩:=⟨_,rfl⟩
   refine Bq (h':=H6) (by rw[hH6];exact Vh _) ?_;rw[hg2.cells,hcs,qiI _ _ _ _ _ (qcL qs)]at hH6;have hS6:=hS2.put (i:=4) rfl ⟨(qs.map phC).flatten++[AVal.str w,tv2],0⟩;rw[<-hH6]at hS6;simp only[VZ,Kj]at hS6;have eb_p:H6 kp=some _:=hS6.at_ (i:=1) rfl;have hs_H6:Sub B H6:=hS6.in_ (i:=0) rfl;refine Xa [0,7] (by rfl) ?_;simp+decide only[qa,ev,qK,qG,putD,VG,VI,Ka,Kb,↓qf,qc];change Awp _ _ _ _ _ _ _;refine Xa [] (by rfl) ?_;simp+decide only[ev,putD,VG,VH,Ka,Kb,↓qg,qd,↓Qv,Qk,QE,↓qC,qi,Yp,↓qI,Qc,qj ag3,↓qo,qh,qN,cond_false,qz,QW,Qj wz eb_p,VJ,Kn,Jq,QL];try simp(disch:=omega)only[wrap_i64]
   refine Qi (by rfl) (by rfl) zqA sz3 (by rfl) (by rfl) zqD (Jr _) (by rfl) ?_;simp only[VY];simp+decide only[qa,ev,putD,VH,VI,Ka,setAt,VZ,Kj];refine Us (qO) ?_;try simp+decide only[Kb,qeg]
   cases hok;exact⟨_,Vh _,_,_,_,_,⟨⟨qs,w,ts++[t],tv2,by simp only;rw[hph,qtc],qhG hg rfl hch hg2.live,by rw[Vr];exact hg2,hqE⟩,hc.bd⟩,hS6.put (i:=1) rfl _⟩
  ·try simp only[decide_eq_false_iff_not]at hb2
   have hz:S.2≠0:=by omega
   rw[if_neg hz]at hok;refine awp_rseq [0,1,6,7,60] (by rfl) fun K hK=>?_;simp+decide only[qa,ev,qK,qG,putD,VG,VH,VI,Ka,Kb,↓qg,qd,↓qo,qh,Qy,cond_false,Qp,Um,↓qf,qc];apply hK;clear hK K;refine qM (b:=_) rfl (fun hb3=>?_) (fun hb3=>?_)
   ·try simp only[decide_eq_false_iff_not,Ji]at hb3
    rw[if_pos hb3]at hok;obtain⟨qs,w,ts,tv,hph,hg,hgt,hqE⟩:=hc.ph;have hpl:=hg.live;rw[hph,Jc,Jo,JA]at hf1;refine Xa [0,7] (by rfl) ?_;simp+decide only[ev,qK,qG,putD,VG,VH,Ka,Kb,↓qg,qd,↓Qv,Qk,QE,↓qC,qi,Zz,↓qI,Qc,qj qba,↓Zo,↓Xz,bld84_0,evP,Ke,Vj,Qj wz eb_s,VJ,Kn,Jq,hpl];refine Qh (cs:=[.str S.1, .nilSlice]) (by kernel_rfl) fun k8q7 hk8q7=>?_;have hn_8q7:h k8q7=none:=by first|assumption|(simp only[VU]at hk8q7;simp only[hk8q7])
    have hf_8q7:B k8q7=none:=VV hs_h hn_8q7;have ne_8q7_p:k8q7≠kp:=VW hn_8q7 eb_p;have ne_8q7_s:k8q7≠ks:=VW hn_8q7 eb_s;refine ZM (es:=2) (v:=pv) (p:=pp) (xs:=qs.map phC++[[.str w,tv]]) (ys:=[[.str S.1, .nilSlice]]) (i:=4) (by rfl) (by rfl) Tryz.underlying79 Tryz.underlying79 (fun k e=>by cases e) qab by84 qrJ (by rfl) (by decide) (by rfl) hg rfl (hS.forget (Vi hn_8q7)) (by rfl) (Bh (Vg _ _ _) (fun x hx=>by rw[VM.1 hx];rfl) (by rfl) (by rfl) (.exact 1) (KM _)) (by rfl) (by simp) (by simp only[Jc,Jo,JA];omega) (by simp only[Jc,Jo,JA];omega) fun pv2 pp2 h8 hg2 _ hS2=>?_;simp+decide only[ev,putD,VG,VH,Ka,Kb,↓Qv,Qk,QE,↓qC,qi,Zz,Jq];refine Qi (v:=pv2) (by rfl) (by rfl) (hS2.at_ (i:=3) rfl) sz79 hg2.live (by rw[hg2.cells];rfl) (by simp only[KY,JN];omega) (Jr _) (by rw[hg2.cells];simp[QU,hg2.scal]) ?_;simp only[hg2.cells,setAt,VZ,Kj];simp+decide only[qa,putD,VI,Ka];have eb_p:h8 kp=some _:=hS2.at_ (i:=1) rfl;have hs8:Sub B h8:=hS2.in_ (i:=0) rfl;change Awp _ _ _ _ _ _ _;refine Xa [] (by rfl) ?_;simp+decide only[ev,putD,VG,VH,Ka,Kb,↓qg,qd,↓Qv,Qk,QE,↓qC,qi,Yp,↓qI,Qc,qj ag3,↓qo,qh,qN,cond_false,qz,QW,YI,ne_eq,not_false_eq_true,Qj wz eb_p,ne_p_s,VJ,Kn,Jq,QL];try simp(disch:=omega)only[wrap_i64]
    refine Qi (by rfl) (by rfl) zqA sz3 (by rfl) (by rfl) zqD (Jr _) (by rfl) ?_;simp only[VY];simp+decide only[qa,ev,putD,VH,VI,Ka,setAt,VZ,Kj];refine Us (qO) ?_;try simp+decide only[Kb,qeg]
    cases hok;have hS8:=(hS2.put (i:=3) rfl (curB {c with phrases:=c.phrases++[⟨S.1,[]⟩]} pv2 bv)).put (i:=1) rfl (parB3 v (i+S.2) ov);have hS9:=(Sep.fold (ps:=[tp,E]) (hS8.pick [5,7,0,1,2,3,4,6] (by decide) (by simp))).emp.pick [1,2,3,4,5,7,6,0] (by decide) (by simp);have hsu:=XI (ps:=[tp,E]) (hS8.pick [5,7] (by decide) (by simp)).2;exact⟨_,Vh _,_,_,_,_,⟨⟨qs++[(⟨w,ts⟩,tv)],S.1,[], .nilSlice,by simp only;rw[hph,Vr];rfl,by rw[Vr];exact hg2, .nil,fun q hq=>by
     rcases JR.1 hq with hq|hq
     ·exact(hqE q hq).mono (hsu E (by simp))
     ·rw[VM.1 hq]
      exact hgt.isL (hsu tp (by simp))⟩,by
     obtain⟨bs,b1,b2,b3⟩:=hc.bd;exact⟨bs,b1,b2,fun b hb=>⟨(b3 b hb).1.mono (hsu E (by simp)),(b3 b hb).2.mono (hsu E (by simp))⟩⟩⟩,hS9⟩
   ·try simp only[decide_eq_true_eq,VK]at hb3
    rw[if_neg (by rw[hb3];simp)]at hok;refine qV ?_;change Awp _ _ _ _ _ _ _;refine Xa [] (by rfl) ?_;simp+decide only[ev,putD,VG,VH,Ka,Kb,↓qg,qd,↓Qv,Qk,QE,↓qC,qi,Yp,↓qI,Qc,qj ag3,↓qo,qh,qN,cond_false,qz,QW,Qj wz eb_p,VJ,Kn,Jq,QL];try simp(disch:=omega)only[wrap_i64]
    refine Qi (by rfl) (by rfl) zqA sz3 (by rfl) (by rfl) zqD (Jr _) (by rfl) ?_;simp only[VY];simp+decide only[qa,ev,putD,VH,VI,Ka,setAt,VZ,Kj];refine Us (qO) ?_;try simp+decide only[Kb,qeg]
    cases hok;exact⟨_,Vh _,_,_,_,_,hc,hS.put (i:=1) rfl _⟩
abbrev strC(s:Str):List AVal:=[.str s]
def qjU(B:AHeap)(Q:FaultC->Prop):AVal->AHeap->Prop:=fun x h'=>∃f,Q f/\x= .iface 48 (faultV f)/\Sub B h'
structure ParS(wz:World)(l:List TokC)(B:AHeap)(v ov:AVal)(op:AHeap)(O:List Str)(i:Nat):Prop where
 toks:IsL wz B 5 v (l.map Xy)
 open_:GrowV 1 ov op (O.map strC)
 isG:isG ov=true
 at_:i<=l.length
abbrev ListRO(l:List TokC):=ListR QV l XE
abbrev StRO(l:List TokC):=StR QV l XE
abbrev BodyRO(l:List TokC):=BodyR QV l XE
abbrev LoopRO(l:List TokC):=LoopR QV l XE
def qio(wz:World)(l:List TokC)(B:AHeap)(kp:Nat)(v:AVal)(O:List Str)(dd i:Nat):AVal->AHeap->Prop:=fun r h'=>∃L j ov' op' E,ListRO l dd O i [] (.ok L j)/\i<=j/\L.length<=j-i/\StsV wz (33-dd) E r L/\ParS wz l B v ov' op' O j/\Sep [B,one kp (parB3 v j ov'),op',E] h'
def qpM(wz:World)(l:List TokC)(B:AHeap)(kp:Nat)(v:AVal)(O:List Str)(dd i:Nat):AVal->AHeap->Prop:=fun r h'=>dd<=32/\∃s j ov' op' E pv bv,StRO l dd O i (.ok s j)/\i<j/\r= .agg (qbj (s,pv,bv))/\PhV wz E pv s.phrases/\BdV wz (StsV wz (32-dd) E) E bv s.bodies/\ParS wz l B v ov' op' O j/\Sep [B,one kp (parB3 v j ov'),op',E] h'
def qjY(wz:World)(l:List TokC)(B:AHeap)(kp ks:Nat)(v pv:AVal)(pp tp:AHeap)(O:List Str)(dd n i:Nat)(c:Cur)(w:Str):AHeap->Prop:=fun h'=>∃c' j ov' op' bv' bp' E',BodyRO l dd O c w n i (.ok c' j)/\i<j/\c'.phrases=c.phrases/\c'.verb=c.verb/\c'.line=c.line/\c'.col=c.col/\c'.bodies.length=c.bodies.length+1/\CurS wz (32-dd) c' pv bv' pp tp bp' E'/\ParS wz l B v ov' op' O j/\Sep [B,one kp (parB3 v j ov'),op',one ks (curB c' pv bv'),pp,tp,bp',E'] h'
def qli(wz:World)(l:List TokC)(dd:Nat):Prop:=∀(h B:AHeap) (kp:Nat) (v ov:AVal) (op:AHeap) (O:List Str) (i:Nat),Sep [B,one kp (parB3 v i ov),op] h->ParS wz l B v ov op O i->Fair O->O.length+1=dd->
 ACallE Tryz.prog wz 30 [.ptr (.own kp) 0, .int .i64 dd] h (qio wz l B kp v O dd i) (qjU B fun f=>ListRO l dd O i [] (.bad f))
def StmK(wz:World)(l:List TokC)(dd:Nat):Prop:=∀(h B:AHeap) (kp:Nat) (v ov:AVal) (op:AHeap) (O:List Str) (i:Nat),Sep [B,one kp (parB3 v i ov),op] h->ParS wz l B v ov op O i->Fair O->O.length+1=dd->isV l i=true->
 ACallE Tryz.prog wz 51 [.ptr (.own kp) 0, .int .i64 dd] h (qpM wz l B kp v O dd i) (qjU B fun f=>StRO l dd O i (.bad f))
def BodK(wz:World)(l:List TokC)(dd:Nat):Prop:=∀(h B:AHeap) (kp ks:Nat) (v ov bv pv:AVal) (op pp tp bp E:AHeap) (O:List Str) (c:Cur) (w:Str) (n i:Nat),Sep [B,one kp (parB3 v i ov),op,one ks (curB c pv bv),pp,tp,bp,E] h->ParS wz l B v ov op O i->CurS wz (32-dd) c pv bv pp tp bp E->Fair O->O.length=dd->i+n<=l.length->0<n\/isV l i=true->Few c i->
 ACallE Tryz.prog wz 73 [.ptr (.own kp) 0, .ptr (.own ks) 0, .str w, .int .i64 n, .int .i64 dd] h (fun r h'=>r= .tuple []/\qjY wz l B kp ks v pv pp tp O dd n i c w h') (qjU B fun f=>BodyRO l dd O c w n i (.bad f))
theorem isV_some{l:List TokC}{i:Nat}(h:isV l i=true):i<l.length:=by
 unfold isV at h;by_cases hi:i<l.length
 ·exact hi
 ·rw[if_neg hi]at h;cases h
structure LsG where
 i:Nat
 ov:AVal
 op:AHeap
 E:AHeap
 qs:List (StC×AVal×AVal)
 rv:AVal
 rp:AHeap
 H:AHeap
structure LsI(wz:World)(l:List TokC)(B:AHeap)(kp:Nat)(v:AVal)(O:List Str)(dd i₀:Nat)(g:LsG):Prop where
 sep:Sep [B,one kp (parB3 v g.i g.ov),g.op,g.rp,g.E] g.H
 par:ParS wz l B v g.ov g.op O g.i
 row:GrowV 5 g.rv g.rp (g.qs.map qbj)
 els:∀q∈g.qs,PhV wz g.E q.2.1 q.1.phrases/\BdV wz (StsV wz (32-dd) g.E) g.E q.2.2 q.1.bodies
 le:i₀<=g.i
 few:g.qs.length<=g.i-i₀
 deep:dd<=32\/g.qs=[]
 go:∀r,ListRO l dd O g.i (g.qs.map (·.1)) r->ListRO l dd O i₀ [] r
set_option maxHeartbeats 4000000 in
theorem k_list(wz:World)(hm:MaxL wz)(l:List TokC)(hl:l.length<=65537)(hsh:Short l)(dd:Nat)(hdd:dd<=33)(hst:StmK wz l dd):qli wz l dd:=by
 intro h B kp v ov op O i₀ hS hP hF hO;refine UY (k:=36) (rs:=[.tmp 4]) Tryz.func30 rfl rfl rfl rfl (VF rfl) ?_;simp only[Qm];refine awp_rseq [0,1] (by rfl) fun K hK=>?_;simp+decide only[qa,ev,qK,qG,putD,VG,VI,Ka,Kb,↓qf,qc,Jq];apply hK;clear hK K;refine awp_rseq [0,1,5] (by rfl) fun K hK=>?_;simp+decide only[qa,ev,qK,qG,putD,VG,VI,Ka,Kb,↓qf,qc];apply hK;clear hK K;refine qF ?_;refine Qb ?_;refine QN [0,1,5] (fun g:LsG=>[(0, .ptr (.own kp) 0),(1, .int .i64 dd),(5,g.rv)]) (fun g:LsG=>g.H) (fun g:LsG=>LsI wz l B kp v O dd i₀ g) (fun g:LsG=>l.length-g.i) ⟨i₀,ov,op,emp,[], .nilSlice,emp,h⟩ (by rfl) (Vh _) ⟨hS.emp.emp,hP, .nil,(fun q hq=>by cases hq),KM _,Jr _, .inr rfl,fun r hr=>hr⟩ ?_;rintro⟨i,ov,op,E,qs,rv,rp,H⟩ hI;obtain⟨hS,hP,hrow,hels,hle,hfew,hdeep,hgo⟩:=hI;simp only at hS hP hrow hels hle hfew hdeep hgo|-
 have hs_H:Sub B H:=hS.in_ (i:=0) rfl;have eb_p:H kp=some _:=hS.at_ (i:=1) rfl;have hv:=hP.toks;have hlv:=hv.live;have nv:=Zt hv;have hrl:=hrow.live;refine qF ?_;have mcase:(∃(lc:AM.Loc) (o:Nat) (c:Cap),v= .slice lc o l.length c/\i<l.length/\decide ((i:Int)<(l.length:Int))=true/\rd wz H lc (o+i*5)= .int .u8 (l.getD i noT).kind.toNat/\rd wz H lc (o+i*5+1)= .str (l.getD i noT).text/\rd wz H lc (o+i*5+2)= .int .i64 (l.getD i noT).line/\rd wz H lc (o+i*5+3)= .int .i64 (l.getD i noT).col/\rd wz H lc (o+i*5+4)= .bool (l.getD i noT).left)\/
  (∃(lc:AM.Loc) (o:Nat) (c:Cap),v=v/\¬i<l.length/\decide ((i:Int)<(l.length:Int))=false/\True/\True/\True/\True/\True):=by
  by_cases hlt:i<l.length
  ·obtain⟨lc,o,c,hve⟩:=ZT hv (by omega)
   have hv2:=hv.mono hs_H;rw[hve]at hv2;exact .inl ⟨lc,o,c,hve,hlt,by simpa using hlt,WE hv2 hlt⟩
  ·exact .inr ⟨.base 0,0, .exact 0,rfl,hlt,by simpa using hlt,trivial,trivial,trivial,trivial,trivial⟩
 refine qgn [0,1,5,28] mixed (by kernel_rfl) (by rfl) fun K hK=>?_;suffices hM:∀b:Bool,b=isV l i->K [(0, .ptr (.own kp) 0),(1, .int .i64 dd),(5,rv),(28, .bool b)] (H) by
  rcases mcase with⟨lc,o,c,hve,hkl,hkd,e0,e1,e2,e3,e4⟩|⟨lc,o,c,hve,hkl,hkd,e0,e1,e2,e3,e4⟩<;>(
   simp+decide only[ev,putD,VG,VH,Ka,Kb,↓qlm,qd,↓qmI,Qk,QE,↓ZN,qi,Yp,↓qcG,ZF,qj ag3,qbv,qj qam,↓vp_len,Qo,Xr Tryz.underlying39,↓qmJ,qh,qN,cond_false,qz,Xt,↓qpR,vgP,qis,qW,qP,qH,implies_true,Qf,QO,forall_const,false_implies,J4,↓qmK,↓qfz,↓qpS,Zf,↓qfy,qA Tryz.underlying39 Yl,Qz qhZ Yl,Qj wz eb_p,Qd,VJ,Kn,Jq,YP,QL,Qw,Xv,allLive,J4,hlv,nv,hve,hkd,e0,e1,e2,e3,e4,VN,K7,QO,Qf];repeat (with_reducible refine And.intro ?_ ?_;· first|trivial|omega|(intro hg;simp only[Ky,JF,Ji,VO,VL,VK,decide_eq_true_eq,decide_eq_false_iff_not,Xd]at hg;omega))
   first
   |(refine qtl (by rfl) ?_)
   |(refine qeY (V:= .bool (Ug (l.getD i noT))) (f:=50) (cap:=[]) (xs:=[tokV (l.getD i noT)]) (by rfl) (fun hg=>⟨rfl,rfl⟩) (fun hg=>qgi wz hm _ _ (hsh.at hkl)) ?_)
   simp+decide only[qdt,ev,qK,qG,putD,VG,VH,VI,Ka,Kb,gv,qW,qH,↓qpP,Qr,Qe,QH,Qf,VP]
   (refine hM _ ?_;unfold isV;first|rw[if_pos hkl]|rw[if_neg hkl]))
 intro b hb_2;apply hK;clear hK K;refine qM (b:=_) rfl (fun hb1=>?_) (fun hb1=>?_)
 ·skip
  have hv1:isV l i=true:=by rw[<-hb_2];exact hb1
  have hdj:[B,rp,E].Pairwise disj:=(hS.pick [0,3,4] (by decide) (by simp)).2;have hcall:=hst H (WB [B,rp,E]) kp v ov op O i (Sep.fold (ps:=[B,rp,E]) (hS.pick [0,3,4,1,2] (by decide) (by simp))) ⟨hv.mono (XI hdj B (by simp)),hP.open_,hP.isG,hP.at_⟩ hF hO hv1;refine qV ?_;change Awp _ _ _ _ _ _ _;refine Qb ?_;by_cases hbad:∃f,StRO l dd O i (.bad f)
  ·skip
   refine Yd 3 (by rfl) (by rfl) ?_;simp only[Ki,V4];simp+decide only[qa,ev,putD,VG,VH,Ka,Kb,↓qg,qd];refine⟨⟨_,_,by rfl,?_⟩,by intro i;first|trivial|exact .inr trivial|exact .inr rfl⟩;obtain⟨f,hf⟩:=hbad;refine(hcall.bad fun x h' ⟨_,s,j,_,_,_,_,_,q,_⟩=>by cases q.one hf).mono (fun _ _ q=>q) fun x h' ⟨f',q1,q2,q3⟩=>⟨f',hgo _ (ListR.bad hv1 q1),q2,(XI hdj B (by simp)).trans q3⟩
  refine Xa [0,1,5] (by rfl) ?_;simp+decide only[ev,putD,VG,VH,Ka,Kb,↓qg,qd];refine qY (by rfl) (by rfl) (hcall.ok fun x h' ⟨f,q,_⟩=>hbad ⟨f,q⟩) fun x3q3 h3q3 hx3q3=>?_;obtain⟨hd3,s,j,ov2,op2,E2,pv,bv,hR3,hij,rfl,hph3,hbd3,hP3,hS3⟩:=hx3q3;have hS3:=hS3.unfold hdj;have hs_3:Sub B h3q3:=hS3.in_ (i:=0) rfl;refine Qh (cs:=qbj (s,pv,bv)) (by kernel_rfl) fun k3q4 hk3q4=>?_;refine ZM (es:=5) (v:=rv) (p:=rp) (xs:=qs.map qbj) (ys:=[qbj (s,pv,bv)]) (i:=1) (by rfl) (by rfl) Tryz.underlying45 Tryz.underlying45 (fun k e=>by cases e) Yv by82 qhT (by rfl) (by decide) (by rfl) hrow rfl (hS3.forget (Vi hk3q4)) (by rfl) (Bh (Vg _ _ _) (fun x hx=>by rw[VM.1 hx];rfl) (by rfl) (by show(true && (true && (true && (pv.live && (bv.live && true)))))=true;rw[hph3.live,hbd3.live];rfl) (.exact 1) (KM _)) (by show(true && (true && (true && (pv.scal && (bv.scal && true)))))=true;rw[hph3.scal,hbd3.scal];rfl) (by simp) (by rw[Jo,JA];have:=hP.at_;omega) (by rw[Jo,JA];have:=hP.at_;omega) fun rv2 rp2 h4 hrow2 _ hS4=>?_;simp+decide only[qa,ev,putD,VG,VH,VI,Ka,Kb,↓qf,qc];try simp only[qR,Zg]
  have hu:∀p∈[E,E2],Sub p (WB [E,E2]):=XI (hS4.pick [2,5] (by decide) (by simp)).2;refine⟨⟨j,ov2,op2,WB [E,E2],qs++[(s,pv,bv)],rv2,rp2,h4⟩,rfl,Vh _,⟨(Sep.fold (ps:=[E,E2]) (hS4.pick [2,5,0,3,4,1] (by decide) (by simp))).pick [1,2,3,4,0] (by decide) (by simp),⟨hv,hP3.open_,hP3.isG,hP3.at_⟩,by simp only;rw[Vr];exact hrow2,fun q hq=>?_,by simp only;omega,by simp only[Jc,JA];omega, .inl hd3,fun r hr=>?_⟩,by have:=hP3.at_;simp only;omega⟩
  ·rcases JR.1 hq with z|z
   ·exact⟨(hels q z).1.mono (hu E (by simp)),(hels q z).2.mono (hu E (by simp)) fun _ _=>StsV.mono (hu E (by simp))⟩
   ·rw[VM.1 z]
    exact⟨hph3.mono (hu E2 (by simp)),hbd3.mono (hu E2 (by simp)) fun _ _=>StsV.mono (hu E2 (by simp))⟩
  ·refine hgo r (ListR.next hv1 hR3 ?_)
   simp only[Vr,Ke,Vj]at hr;exact hr
 ·skip
  have hv1:isV l i=false:=by rw[<-hb_2,hb1]
  refine QI ?_;change Awp _ _ _ _ _ _ _;refine awp_rseq [4] (by rfl) fun K hK=>?_;simp+decide only[qa,ev,putD,VG,VH,VI,Ka,Kb,↓qg,qd,↓qf,qc];apply hK;clear hK K;refine Qn ?_;refine Qu (qJ (qO)) ?_;simp+decide only[VH,if_true,Qg];have hu:∀p∈[rp,E],Sub p (WB [rp,E]):=XI (hS.pick [3,4] (by decide) (by simp)).2;have hrr:=hrow.isL (wz:=wz) (hu rp (by simp));refine⟨H,Vh _,qs.map (·.1),i,ov,op,WB [rp,E],hgo _ (ListR.stop hv1),hle,by rw[Jo];exact hfew,?_,hP,(Sep.fold (ps:=[rp,E]) (hS.pick [3,4,0,1,2] (by decide) (by simp))).pick [1,2,3,0] (by decide) (by simp)⟩;rcases hdeep with hd|hq
  ·rw[show 33-dd=(32-dd)+1 by omega]
   exact⟨qs,rfl,hrr,fun q hq=>⟨(hels q hq).1.mono (hu E (by simp)),(hels q hq).2.mono (hu E (by simp)) fun _ _=>StsV.mono (hu E (by simp))⟩⟩
  ·subst hq
   cases h0:33-dd with
   |zero=>exact⟨rfl,hrr⟩
   |succ d=>exact⟨[],rfl,hrr,fun q hq=>by cases hq⟩
structure B1G where
 j:Nat
 H:AHeap
structure B2G where
 toks:List TokC
 i:Nat
 tv:AVal
 q:AHeap
 H:AHeap
structure B2I(wz:World)(l:List TokC)(B:AHeap)(kp ks kb:Nat)(v ov pv bv:AVal)(op pp tp bp E:AHeap)(c:Cur)(w:Str)(i₀:Nat)(g:B2G):Prop where
 sep:Sep [B,one kp (parB3 v g.i ov),op,one ks (curB c pv bv),pp,tp,bp,E,one kb ⟨[.str w,g.tv, .nilSlice],0⟩,g.q] g.H
 row:GrowV 5 g.tv g.q (g.toks.map Xy)
 at_:g.i<=l.length
 le:i₀<=g.i
 few:g.toks.length<=g.i
theorem qdr{l:List TokC}{fm:Str}{i:Nat}{acc:List TokC}(h:isE l i=true\/isV l i=true\/qai l i≠[]\/0<(QZ l i fm).2):Ui l fm (l.length-i) i acc=(acc,i):=by
 cases hf:l.length-i with
 |zero=>rfl
 |succ f=>rw[Ui,if_pos h]
theorem qmH{l:List TokC}{fm:Str}{i:Nat}{acc:List TokC}(hi:i<l.length)(h:¬(isE l i=true\/isV l i=true\/qai l i≠[]\/0<(QZ l i fm).2)):Ui l fm (l.length-i) i acc=Ui l fm (l.length-(i+1)) (i+1) (acc++[l.getD i noT]):=by
 obtain⟨f,hf⟩:∃f,l.length-i=f+1:=⟨l.length-i-1,by omega⟩
 rw[hf,Ui,if_neg h,show l.length-(i+1)=f by omega]
def goW(l:List TokC)(i:Nat):Bool:= !(isE l i||(isV l i|| !decide (qai l i=[])))
theorem goW_end{l:List TokC}{i:Nat}(h:¬i<l.length):goW l i=false:=by unfold goW isE;rw[if_neg h];rfl
theorem goW_in{l:List TokC}{i:Nat}(h:i<l.length):goW l i=(!decide ((l.getD i noT).kind=6) && (!Ug (l.getD i noT) && decide (qcV (l.getD i noT)=[]))):=by
 unfold goW isE isV qai;rw[if_pos h,if_pos h];cases decide ((l.getD i noT).kind=6)<;>cases Ug (l.getD i noT)<;>cases decide (qcV (l.getD i noT)=[])<;>rfl
def MC11(wz:World)(H:AHeap)(l:List TokC)(v:AVal)(a:Nat):Prop:=
 (∃(lc:AM.Loc) (o:Nat) (c:Cap),v=v/\decide ((a:Int)<(l.length:Int))=false/\¬a<l.length/\True/\True/\True/\True/\True/\True/\True/\goW l a=false)\/
 (∃(lc:AM.Loc) (o:Nat) (c:Cap),v= .slice lc o l.length c/\decide ((a:Int)<(l.length:Int))=true/\a<l.length/\decide (((l.getD a noT).kind.toNat:Int)=6)=true/\True/\rd wz H lc (o+a*5)= .int .u8 (l.getD a noT).kind.toNat/\rd wz H lc (o+a*5+1)= .str (l.getD a noT).text/\rd wz H lc (o+a*5+2)= .int .i64 (l.getD a noT).line/\rd wz H lc (o+a*5+3)= .int .i64 (l.getD a noT).col/\rd wz H lc (o+a*5+4)= .bool (l.getD a noT).left/\goW l a=false)\/
 (∃(lc:AM.Loc) (o:Nat) (c:Cap),v= .slice lc o l.length c/\decide ((a:Int)<(l.length:Int))=true/\a<l.length/\decide (((l.getD a noT).kind.toNat:Int)=6)=false/\Ug (l.getD a noT)=true/\rd wz H lc (o+a*5)= .int .u8 (l.getD a noT).kind.toNat/\rd wz H lc (o+a*5+1)= .str (l.getD a noT).text/\rd wz H lc (o+a*5+2)= .int .i64 (l.getD a noT).line/\rd wz H lc (o+a*5+3)= .int .i64 (l.getD a noT).col/\rd wz H lc (o+a*5+4)= .bool (l.getD a noT).left/\goW l a=false)\/
 (∃(lc:AM.Loc) (o:Nat) (c:Cap),v= .slice lc o l.length c/\decide ((a:Int)<(l.length:Int))=true/\a<l.length/\decide (((l.getD a noT).kind.toNat:Int)=6)=false/\Ug (l.getD a noT)=false/\rd wz H lc (o+a*5)= .int .u8 (l.getD a noT).kind.toNat/\rd wz H lc (o+a*5+1)= .str (l.getD a noT).text/\rd wz H lc (o+a*5+2)= .int .i64 (l.getD a noT).line/\rd wz H lc (o+a*5+3)= .int .i64 (l.getD a noT).col/\rd wz H lc (o+a*5+4)= .bool (l.getD a noT).left/\goW l a=decide (qcV (l.getD a noT)=[]))
theorem mc11{wz:World}{H:AHeap}{l:List TokC}{v:AVal}{a:Nat}(hv:IsL wz H 5 v (l.map Xy)):MC11 wz H l v a:=by
 by_cases hlt:a<l.length
 ·obtain⟨lc,o,c,hve⟩:=ZT hv (by omega)
  rw[hve]at hv;have he:=WE hv hlt;have hg:=goW_in hlt;have z6:decide (((l.getD a noT).kind.toNat:Int)=6)=decide ((l.getD a noT).kind=6):=ZY _ 6;have hd:decide ((a:Int)<(l.length:Int))=true:=by simpa using hlt
  obtain⟨e0,e1,e2,e3,e4⟩:=he;by_cases q6:(l.getD a noT).kind=6
  ·exact .inr (.inl ⟨lc,o,c,hve,hd,hlt,by rw[z6];exact decide_eq_true q6,trivial,e0,e1,e2,e3,e4,by rw[hg,decide_eq_true q6];rfl⟩)
  ·cases hvt:Ug (l.getD a noT)with
   |true=>exact .inr (.inr (.inl ⟨lc,o,c,hve,hd,hlt,by rw[z6];exact decide_eq_false q6,hvt,e0,e1,e2,e3,e4,by rw[hg,hvt,decide_eq_false q6];rfl⟩))
   |false=>exact .inr (.inr (.inr ⟨lc,o,c,hve,hd,hlt,by rw[z6];exact decide_eq_false q6,hvt,e0,e1,e2,e3,e4,by rw[hg,hvt,decide_eq_false q6];rfl⟩))
 ·exact .inl ⟨.base 0,0, .exact 0,rfl,by simpa using hlt,hlt,trivial,trivial,trivial,trivial,trivial,trivial,trivial,goW_end hlt⟩
theorem qgZ{O:List Str}(hF:Fair O):(O.getLastD []).length<=1000000/\asciiB (O.getLastD [])=true:=by
 cases O with
 |nil=>exact⟨by simp,rfl⟩
 |cons a O=>exact hF _ (by rw[List.getLastD_cons];exact List.getLastD_mem_cons)
set_option maxHeartbeats 8000000 in
theorem k_bodyA(wz:World)(l:List TokC)(hl:l.length<=65537)(dd:Nat)
 (hrest:∀(H B:AHeap) (kp ks:Nat) (v ov bv pv:AVal) (op pp tp bp E:AHeap) (O:List Str) (c:Cur) (w:Str) (n i:Nat),Sep [B,one kp (parB3 v i ov),op,one ks (curB c pv bv),pp,tp,bp,E] H->ParS wz l B v ov op O i->CurS wz (32-dd) c pv bv pp tp bp E->Fair O->O.length=dd->i+n<=l.length->0<n\/isV l i=true->Few c i->Stm.twice c w=false->
   Awp Tryz.prog wz ⟨210,[],GP wz 210 [] [] (qjU B fun f=>BodyRO l dd O c w n i (.bad f))⟩ (Wn 2 (qbZ Tryz.f73)) (qcf Tryz.prog wz [] (fun r h'=>r= .tuple []/\qjY wz l B kp ks v pv pp tp O dd n i c w h')) [(0, .ptr (.own kp) 0),(1, .ptr (.own ks) 0),(2, .str w),(3, .int .i64 n),(4, .int .i64 dd),(10, .int .i64 i)] (H)):BodK wz l dd:=by
 intro h B kp ks v ov bv pv op pp tp bp E O c w n i hS hP hC hF hO hin hpos hfew;have hin2:i<=l.length:=hP.at_;have eb_p:h kp=some _:=hS.at_ (i:=1) rfl;have eb_s:h ks=some _:=hS.at_ (i:=3) rfl;have ne_p_s:kp≠ks:=hS.ne (i:=1) (j:=3) rfl rfl (by decide);have hs_h:Sub B h:=hS.in_ (i:=0) rfl;have hv:=hP.toks;have hlv:=hv.live;have hlo:=hP.open_.live;obtain⟨hpl,hps,hpc⟩:=hC.pv_ok;obtain⟨hbl,hbs,hbc,nb⟩:=hC.bv_len;obtain⟨bs,hb1e,hb2e,hb3e⟩:=hC.bd;have hbn:c.bodies.length=bs.length:=by rw[hb1e,Jo]
 obtain⟨hf1,hf2,hf3⟩:=hfew;have hin2:i<=l.length:=hP.at_;have hTw:Stm.twice c w=(bs.map (·.1)).any fun b=>(decide (b.1=w) && !decide (w=[87,72,69,78]))||decide (b.1=[87,72,69,78,32,79,84,72,69,82]):=by rw[<-hb1e];rfl
 refine UY (k:=210) (rs:=[]) Tryz.func73 rfl rfl rfl rfl (VF rfl) ?_;simp only[Qm];refine awp_rseq [0,1,2,3,4,10] (by rfl) fun K hK=>?_;simp+decide only[qa,ev,putD,VG,VH,VI,Ka,Kb,↓qg,qd,↓Qv,Qk,QE,↓qC,qi,Yp,↓qI,Qc,qj ag3,↓qf,qc,Qj wz eb_p,VJ,Kn,Jq,Nat.reduceAdd,QL];apply hK;clear hK K;refine qF ?_;refine awp_rseq [0,1,2,3,4,10,26,27,28] (by rfl) fun K hK=>?_;simp+decide only[qa,ev,qK,qG,putD,VG,VH,VI,Ka,Kb,↓qg,qd,↓Qv,Qk,QE,↓qC,qi,Yf,↓qI,Qc,qj qbB,↓QB,Qo,Qj wz eb_s,VJ,Kn,Jq,hbl,nb];apply hK;clear hK K;refine Qb ?_;refine QN [0,1,2,3,4,10,26,27,28] (fun g:B1G=>[(0, .ptr (.own kp) 0),(1, .ptr (.own ks) 0),(2, .str w),(3, .int .i64 n),(4, .int .i64 dd),(10, .int .i64 i),(26,bv),(27, .int .i64 c.bodies.length),(28, .int .i64 g.j)]) (fun g:B1G=>g.H) (fun g:B1G=>Sep [B,one kp (parB3 v i ov),op,one ks (curB c pv bv),pp,tp,bp,E] g.H/\g.j<=bs.length/\Stm.twice c w=((bs.drop g.j).map (·.1)).any fun b=>(decide (b.1=w) && !decide (w=[87,72,69,78]))||decide (b.1=[87,72,69,78,32,79,84,72,69,82])) (fun g:B1G=>bs.length-g.j) ⟨0,h⟩ (by rfl) (Vh _) ⟨hS,Jr _,hTw⟩ ?_;rintro⟨j,H⟩ ⟨hS,hj,hTj⟩;simp only at hS hj hTj|-
 have eb_p:H kp=some _:=hS.at_ (i:=1) rfl;have eb_s:H ks=some _:=hS.at_ (i:=3) rfl;have hs_H:Sub B H:=hS.in_ (i:=0) rfl;refine awp_rseq [0,1,2,3,4,10,26,27,28,29] (by rfl) fun K hK=>?_;simp+decide only[qa,ev,putD,VG,VH,VI,Ka,Kb,↓qo,qh,qN,cond_false,qz,Xt];apply hK;clear hK K;refine qF (qM (b:=_) rfl (fun hb1=>?_) (fun hb1=>?_))
 ·try simp only[decide_eq_true_eq]at hb1
  have hj':j<bs.length:=by omega
  obtain⟨q,hqe⟩:∃q,q=bs.getD j qcj:=⟨_,rfl⟩
  have hqm:q∈bs:=by rw[hqe,Ko,JH hj'];exact VA hj'
  have hqb:=hb2e.isL (wz:=wz) (hS.in_ (i:=6) rfl);obtain⟨lc,o,cc,hpe⟩:=qaZ hqb (by omega);rw[hpe]at hqb;obtain⟨e0,e1,e2⟩:=qdT hqb hj';rw[<-hqe]at e0 e1 e2;obtain⟨hqt,hqs⟩:=hb3e q hqm;have hl1:=hqt.live;have hs1:=hqt.scal;have hc1:=hqt.cells;obtain⟨hl2,hs2,hc2⟩:=hqs.shape;have hst:Stm.twice c w=(((decide (q.1.1=w) && !decide (w=[87,72,69,78]))||decide (q.1.1=[87,72,69,78,32,79,84,72,69,82]))||((bs.drop (j+1)).map (·.1)).any fun b=>(decide (b.1=w) && !decide (w=[87,72,69,78]))||decide (b.1=[87,72,69,78,32,79,84,72,69,82])):=by
   rw[hTj,J9 hj',Ke,V6];have:bs[j]=q:=by rw[hqe,Ko,JH hj'];rfl
   rw[this]
  obtain⟨⟨qw,qt,qL⟩,qtv,qlv⟩:=q;simp only at e0 e1 e2 hl1 hs1 hc1 hl2 hs2 hc2 hst;have hwj:IntKind.i64.wrap ((j:Int)+1)=((j+1:Nat):Int):=by rw[wrap_i64 (by omega) (by omega)];omega
  refine qV ?_;change Awp _ _ _ _ _ _ _;refine qF ?_;refine Qb ?_;refine awp_rseq [0,1,2,3,4,10,12,26,27,28] (by rfl) fun K hK=>?_;simp+decide only[ev,putD,VG,VH,Ka,Kb,↓qZ,Qc,qA Tryz.underlying80 UE,↓qI,Qz qoc UE,Qd,Qw,allLive,J4,hpe,e0,e1,e2,hl1,hl2,VN];repeat (with_reducible refine And.intro ?_ ?_;· first|trivial|omega|(intro hg;simp only[Ky,JF,Ji,VO,VL,VK,decide_eq_true_eq,decide_eq_false_iff_not,Xd]at hg;omega))
  refine Xb qjZ (cs:=[.str [], .nilSlice, .nilSlice]) (by rfl) fun k3q2 hk3q2=>?_;have hn_3q2:H k3q2=none:=by first|assumption|(simp only[VU]at hk3q2;simp only[hk3q2])
  have hf_3q2:B k3q2=none:=VV hs_H hn_3q2;have ne_3q2_p:k3q2≠kp:=VW hn_3q2 eb_p;have ne_3q2_s:k3q2≠ks:=VW hn_3q2 eb_s;refine Qi (by rfl) (by rfl) zqA UE (by rfl) (by rfl) zqD (Jr _) (by first|rfl|(simp+decide only[ev,putD,VG,VH,Ka,VY,QU,J4,hs1,hs2,YT])) ?_;simp only[VX,VY];simp+decide only[qa,ev,putD,VG,VH,VI,Ka,setAt,VZ,Kj,Jq,Nat.reduceAdd];apply hK;clear hK K;refine awp_rseq [0,1,2,3,4,10,26,27,28,44] (by rfl) fun K hK=>?_;simp+decide only[qa,ev,qK,qG,putD,VG,VH,VI,Ka,Kb,↓qC,qi,qhb,↓qI,Qc,qj ag9,↓qg,qd,↓qo,qh,qN,cond_false,Qp,XP,↓Xc,agP,Qs,qW,qP,qH,qU,implies_true,↓QJ,Qy,XL,XM,Um,↓QC,Qr,Qe,QT,XZ,QH,XO,↓Xe,↓XJ,Xp,ZL,qik,XN,VJ,Jq,Qw];apply hK;clear hK K;refine qM (b:=_) rfl (fun hb2=>?_) (fun hb2=>?_)
  ·try simp only[decide_eq_true_eq,decide_eq_false_iff_not,Ji,Ky,JF]at hb2
   have hT:Stm.twice c w=true:=by
    rw[hst];rcases hb2 with⟨z1,z2⟩|z
    ·simp[z1,z2]
    ·simp[z]
   refine Yd 2 (by rfl) (by rfl) ?_;simp only[Ki,V4];simp+decide only[qa,ev,putD,VG,VH,Ka,Kb,↓qg,qd];refine⟨⟨_,_,by rfl,?_⟩,by intro i;first|trivial|exact .inr trivial|exact .inr rfl⟩;exact(qda wz _ B kp v ov l i 4 i zqA zqB hv (by omega) (by omega)).mono (fun _ _ q=>q) fun x h' ⟨q1,q2⟩=>⟨_,BodyR.twice hT,q1,Ba (by assumption) (Ba zqB q2)⟩
  ·try simp only[decide_eq_true_eq,decide_eq_false_iff_not,VK,VO,VL]at hb2
   have hst2:Stm.twice c w=((bs.drop (j+1)).map (·.1)).any fun b=>(decide (b.1=w) && !decide (w=[87,72,69,78]))||decide (b.1=[87,72,69,78,32,79,84,72,69,82]):=by
    rw[hst];have:(decide (qw=w) && !decide (w=[87,72,69,78])||decide (qw=[87,72,69,78,32,79,84,72,69,82]))=false:=by
     rw[<-Br];intro z;simp only[JF,Ky,decide_eq_true_eq,Ji,decide_eq_false_iff_not]at z;rcases z with⟨z1,z2⟩|z
     ·rcases hb2.1 with y|y
      ·exact y z1
      ·exact z2 y
     ·exact hb2.2 z
    rw[this,V7]
   refine qV ?_;change Awp _ _ _ _ _ _ _;refine Xa [0,1,2,3,4,10,26,27,28] (by rfl) ?_;simp+decide only[qa,ev,qK,qG,putD,VG,VH,VI,Ka,Kb,↓qo,qh,qE,cond_false,qz,QW,↓qg,qd,hwj];try simp only[qR]
   exact⟨⟨j+1,_⟩,by rw[hpe];rfl,Vh _,⟨hS.forget zqB,hj',hst2⟩,by simp only;omega⟩
 ·try simp only[decide_eq_false_iff_not]at hb1
  have hj':j=bs.length:=by omega
  have hTf:Stm.twice c w=false:=by rw[hTj,hj',J8];rfl
  refine QI ?_;change Awp _ _ _ _ _ _ _;refine Bt [0,1,2,3,4,10] ?_;exact hrest H B kp ks v ov bv pv op pp tp bp E O c w n i hS hP hC hF hO hin hpos ⟨hf1,hf2,hf3⟩ hTf
set_option maxHeartbeats 8000000 in
theorem k_bodyB(wz:World)(hm:MaxL wz)(ha:Asp wz)(l:List TokC)(hl:l.length<=65537)(hsh:Short l)(dd:Nat)(hdd:dd<=32)(hd0:0<dd)(H B:AHeap)(kp ks:Nat)(v ov bv pv:AVal)(op pp tp bp E:AHeap)(O:List Str)(c:Cur)(w:Str)(n i:Nat)
 (hS:Sep [B,one kp (parB3 v i ov),op,one ks (curB c pv bv),pp,tp,bp,E] H) (hP:ParS wz l B v ov op O i) (hC:CurS wz (32-dd) c pv bv pp tp bp E) (hF:Fair O) (hO:O.length=dd) (hin:i+n<=l.length) (hTf:Stm.twice c w=false)
 (hrest:∀(kb:Nat) (g:B2G),B2I wz l B kp ks kb v ov pv bv op pp tp bp E c w (i+n) g->headW l O w n i=(g.toks,g.i)->¬(w=Ye/\(headW l O w n i).1=[])->
   Awp Tryz.prog wz ⟨210,[],GP wz 210 [] [] (qjU B fun f=>BodyRO l dd O c w n i (.bad f))⟩ (Wn 6 (qbZ Tryz.f73)) (qcf Tryz.prog wz [] (fun r h'=>r= .tuple []/\qjY wz l B kp ks v pv pp tp O dd n i c w h')) [(0, .ptr (.own kp) 0),(1, .ptr (.own ks) 0),(2, .str w),(4, .int .i64 dd),(10, .int .i64 i),(13, .ptr (.own kb) 0),(14, .str (O.getLastD []))] (g.H)):
 Awp Tryz.prog wz ⟨210,[],GP wz 210 [] [] (qjU B fun f=>BodyRO l dd O c w n i (.bad f))⟩ (Wn 2 (qbZ Tryz.f73)) (qcf Tryz.prog wz [] (fun r h'=>r= .tuple []/\qjY wz l B kp ks v pv pp tp O dd n i c w h')) [(0, .ptr (.own kp) 0),(1, .ptr (.own ks) 0),(2, .str w),(3, .int .i64 n),(4, .int .i64 dd),(10, .int .i64 i)] (H):=by
 have eb_p:H kp=some _:=hS.at_ (i:=1) rfl;have eb_s:H ks=some _:=hS.at_ (i:=3) rfl;have ne_p_s:kp≠ks:=hS.ne (i:=1) (j:=3) rfl rfl (by decide);have hs_H:Sub B H:=hS.in_ (i:=0) rfl;have hv:=hP.toks;have hlv:=hv.live;have hlo:=hP.open_.live;obtain⟨hpl,hps,hpc⟩:=hC.pv_ok;obtain⟨hbl,hbs,hbc,nb⟩:=hC.bv_len;have hin2:i<=l.length:=hP.at_;have hwn:IntKind.i64.wrap ((i:Int)+n)=((i+n:Nat):Int):=by rw[wrap_i64 (by omega) (by omega)];omega
 change Awp _ _ _ (Code.seq _ _) _ _ _;refine awp_rseq [0,1,2,4,10] (by rfl) fun K hK=>?_;simp+decide only[ev,putD,VG,VH,Ka,Kb,↓qg,qd,↓Qv,Qk,QE,↓qC,qi,Yp,↓qI,Qc,qj ag3,↓qo,qh,qN,cond_false,qz,QW,Qj wz eb_p,VJ,Kn,Jq,QL,hwn];refine Qi (by rfl) (by rfl) zqA sz3 (by rfl) (by rfl) zqD (Jr _) (by rfl) ?_;simp only[VY];simp+decide only[qa,ev,putD,VH,VI,Ka,setAt,VZ,Kj];apply hK;clear hK K;refine awp_rseq [0,1,2,4,10,13] (by rfl) fun K hK=>?_;simp+decide only[ev,qK,qG,putD,VG,VH,Ka,Kb,↓qg,qd,↓Zo,↓Xz,qrB,evP,Ke,Vj];refine Xb qjZ (cs:=[.str [], .nilSlice, .nilSlice]) (by rfl) fun k8q2 hk8q2=>?_;have hn_8q2:H k8q2=none:=by first|assumption|(simp only[VU]at hk8q2;simp only[hk8q2])
 have hf_8q2:B k8q2=none:=VV hs_H hn_8q2;have ne_8q2_p:k8q2≠kp:=VW hn_8q2 eb_p;have ne_8q2_s:k8q2≠ks:=VW hn_8q2 eb_s;refine Qi (by rfl) (by rfl) zqA UE (by rfl) (by rfl) zqD (Jr _) (by rfl) ?_;simp only[VX,VY];simp+decide only[qa,ev,putD,VG,VH,VI,Ka,setAt,VZ,Kj,Jq,Nat.reduceAdd];apply hK;clear hK K;obtain⟨H9,hH9⟩:∃H9,H9=(H.set kp (parB3 v (i+n) ov)).set k8q2 ⟨[.str w, .nilSlice, .nilSlice],0⟩:=⟨_,rfl⟩
 refine Bq (h':=H9) (by rw[hH9];exact Vh _) ?_;have hS9:=(hS.put (i:=1) rfl (parB3 v (i+n) ov)).lay hk8q2 ⟨[.str w, .nilSlice, .nilSlice],0⟩;rw[<-hH9]at hS9;simp only[VZ,Kj,Kh,Je]at hS9;have eb_p:H9 kp=some _:=hS9.at_ (i:=1) rfl;have eb_s:H9 ks=some _:=hS9.at_ (i:=3) rfl;have eb_8q2:H9 k8q2=some _:=hS9.at_ (i:=8) rfl;have ne_p_8q2:kp≠k8q2:=hS9.ne (i:=1) (j:=8) rfl rfl (by decide);have ne_s_8q2:ks≠k8q2:=hS9.ne (i:=3) (j:=8) rfl rfl (by decide);have hs_H9:Sub B H9:=hS9.in_ (i:=0) rfl;have hos:IsStrs wz H9 ov O:=hP.open_.isL (hS9.in_ (i:=2) rfl);have no:=UF hos;obtain⟨lo,oo,co,hove⟩:=qiC hos (by omega);have hos2:=hos;rw[hove]at hos2;have hwo:IntKind.i64.wrap ((O.length:Int)-1)=((O.length-1:Nat):Int):=by rw[wrap_i64 (by omega) (by omega)];omega
 have ef:=qiD hos2 (i:=O.length-1) (by omega);obtain⟨fm,hfm⟩:∃fm,fm=O.getLastD []:=⟨_,rfl⟩
 have hfl:O.getD (O.length-1) []=fm:=by
  rw[hfm,Bu,List.getLast?_eq_getElem?];rfl
 rw[hfl]at ef;obtain⟨hfm1,hfm2⟩:=qgZ hF;rw[<-hfm]at hfm1 hfm2;refine WP [0,1,2,4,10,13,14] mixed (by kernel_rfl) (by rfl) (by rfl) fun K hK=>?_;simp+decide only[ev,qK,qG,putD,VG,VH,Ka,Kb,↓qg,qd,↓Qv,Qk,QE,↓qC,qi,qha,↓qI,Qc,qj ag22,↓QB,Qo,Xr Tryz.underlying22,↓qo,qh,qE,cond_false,qz,Wl,Qj wz eb_p,VJ,Kn,Jq,Xv,hwo,hove];try simp+decide only[qa,ev,putD,VG,VH,VI,Ka,Kb,↓qZ,Qc,qA Tryz.underlying22 sz9,↓qI,qj ag9,↓qf,qc,Qw,ef,VN,V5]
 repeat (with_reducible refine And.intro ?_ ?_;· first|trivial|omega|(intro hg;simp only[Ky,JF,Ji,VO,VL,VK,decide_eq_true_eq,decide_eq_false_iff_not,Xd]at hg;omega))
 apply hK;clear hK K;refine qF ?_;refine awp_rseq [0,1,2,4,10,13,14,72] (by rfl) fun K hK=>?_;simp+decide only[qa,ev,qK,qG,putD,VG,VH,VI,Ka,Kb,↓qg,qd,↓qo,qh,Qy,cond_false,Qp,XP];apply hK;clear hK K;refine Yy [0,1,2,4,10,13,14] (fun g:B2G=>[(0, .ptr (.own kp) 0),(1, .ptr (.own ks) 0),(2, .str w),(4, .int .i64 dd),(10, .int .i64 i),(13, .ptr (.own k8q2) 0),(14, .str fm)]) (fun g:B2G=>g.H) (fun g:B2G=>B2I wz l B kp ks k8q2 v ov pv bv op pp tp bp E c w (i+n) g/\headW l O w n i=(g.toks,g.i)/\¬(w=Ye/\(headW l O w n i).1=[])) ?_ ?_
 ·refine qM (b:=_) rfl (fun hb1=>?_) (fun hb1=>?_)
  ·try simp only[decide_eq_true_eq]at hb1
   have hwW:w=Ye:=hb1;have hW:headW l O w n i=qtk l fm (i+n):=by unfold headW;rw[if_pos hwW,hfm]
   refine qF ?_;refine Qb ?_;refine QN [0,1,2,4,10,13,14] (fun g:B2G=>[(0, .ptr (.own kp) 0),(1, .ptr (.own ks) 0),(2, .str w),(4, .int .i64 dd),(10, .int .i64 i),(13, .ptr (.own k8q2) 0),(14, .str fm)]) (fun g:B2G=>g.H) (fun g:B2G=>B2I wz l B kp ks k8q2 v ov pv bv op pp tp bp E c w (i+n) g/\headW l O w n i=Ui l fm (l.length-g.i) g.i g.toks) (fun g:B2G=>l.length-g.i) ⟨[],i+n, .nilSlice,emp,H9⟩ (by rfl) (Vh _) ⟨⟨hS9.emp, .nil,hin,KM _,Jr _⟩,hW⟩ ?_;rintro⟨toks,a,tv,q,H2⟩ ⟨⟨hS2,hrow,hal,hle,hfw⟩,hgo⟩;simp only at hS2 hrow hal hle hfw hgo|-
   have eb_p:H2 kp=some _:=hS2.at_ (i:=1) rfl;have eb_s:H2 ks=some _:=hS2.at_ (i:=3) rfl;have eb_8q2:H2 k8q2=some _:=hS2.at_ (i:=8) rfl;have hs_H2:Sub B H2:=hS2.in_ (i:=0) rfl;have nv:=Zt hv;have htl:=hrow.live;have nt:∀H:AHeap,Zh Tryz.prog H 39 tv=⟨True, .int .i64 toks.length⟩:=Zt (wz:=wz) (hrow.isL (Vh _));refine qF ?_;have mcase:MC11 wz H2 l v a:=mc11 (hv.mono hs_H2);have hta:a<l.length->(l.getD a noT).text.length<=1000000:=fun z=>hsh.at z;unfold MC11 at mcase;refine qaj 52 [] [0,1,2,4,10,13,14,124] mixed (by kernel_rfl) (by rfl) fun K hK=>?_;simp only[Ki,Vw,List.take_nil,List.drop_nil];suffices hM:∀b:Bool,b=goW l a->K [(0, .ptr (.own kp) 0),(1, .ptr (.own ks) 0),(2, .str w),(4, .int .i64 dd),(10, .int .i64 i),(13, .ptr (.own k8q2) 0),(14, .str fm),(124, .bool b)] (H2) by
    rcases mcase with⟨lc,o,cc,hve,hkd,hkl,hk6,hvt,e0,e1,e2,e3,e4,hfin⟩|⟨lc,o,cc,hve,hkd,hkl,hk6,hvt,e0,e1,e2,e3,e4,hfin⟩|⟨lc,o,cc,hve,hkd,hkl,hk6,hvt,e0,e1,e2,e3,e4,hfin⟩|⟨lc,o,cc,hve,hkd,hkl,hk6,hvt,e0,e1,e2,e3,e4,hfin⟩<;>(
     simp+decide only[qa,ev,qK,qG,putD,VG,VH,Ka,Kb,↓qaw,qd,↓Uz,Qk,QE,↓YE,qi,Yp,↓qay,ZF,qj ag3,qbv,qj qam,↓fp_len,Qo,Xr Tryz.underlying39,↓qfW,qh,qN,cond_false,qz,Xt,↓qrl,fgP,qjn,qW,qP,qH,implies_true,Bd,Be,Qf,QO,forall_const,false_implies,Zl,J4,Bf,↓qhL,↓qgc,↓qrm,Zf,↓qgb,qA Tryz.underlying39 Yl,WZ,qj qjH,↓qnw,qE,WW,↓qlP,Qr,Qe,QH,Qz qhZ Yl,Qj wz eb_p,Qd,VJ,Kn,Jq,YP,QL,Qw,Xv,allLive,J4,hlv,nv,hve,hkd,hk6,e0,e1,e2,e3,e4,VN,K7,QO,Qf];repeat (with_reducible refine And.intro ?_ ?_;· first|trivial|omega|(intro hg;simp only[Ky,JF,Ji,VO,VL,VK,decide_eq_true_eq,decide_eq_false_iff_not,Xd]at hg;omega))
     first
     |(refine qnz (by rfl) ?_)
     |(refine qfk (V:= .bool (Ug (l.getD a noT))) (f:=50) (cap:=[]) (xs:=[tokV (l.getD a noT)]) (by rfl) (fun hg=>⟨rfl,rfl⟩) trivial (fun hg g hsub=>qgi wz hm _ _ (hta hkl)) ?_)
     simp+decide only[ev,qK,qG,putD,VG,VH,Ka,Kb,gv,qW,qH,↓fg_unOp,Zn,fgP,qjn,qP,implies_true,Bd,Be,Qf,QO,forall_const,false_implies,Zl,J4,Bf,YJ,↓qlP,Qr,Qe,QH,↓qaw,qd,↓qrl,↓qhL,Qk,QE,↓qgc,qi,qbv,↓qrm,ZF,Zf,qj qam,Yp,qj ag3,↓qgb,qA Tryz.underlying39 Yl,Qz qhZ Yl,Qj wz eb_p,Qd,VJ,Kn,Jq,YP,QL,Qw,Xv,allLive,J4,hve,hvt,e0,e1,e2,e3,e4,VN,K7,QO,Qf];repeat (with_reducible refine And.intro ?_ ?_;· first|trivial|omega|(intro hg;simp only[Ky,JF,Ji,VO,VL,VK,decide_eq_true_eq,decide_eq_false_iff_not,Xd]at hg;omega))
     first
     |(refine qnz (by rfl) ?_)
     |(refine qfk (V:= .str (qcV (l.getD a noT))) (f:=71) (cap:=[]) (xs:=[tokV (l.getD a noT)]) (by rfl) (fun hg=>⟨rfl,rfl⟩) trivial (fun hg g hsub=>qrz wz hm _ _ (hta hkl)) ?_)
     simp+decide only[qaG,ev,qK,qG,putD,VG,VH,VI,Ka,Kb,gv,qW,qH,↓qnw,qh,fgP,qjn,qP,implies_true,Qf,QO,false_implies,Zl,VP,Qy,cond_false,Qp,XP,↓qlP,Qr,Qe,QH,QO,Qf,VP];exact hM _ hfin.symm)
   intro b hb_11;apply hK;clear hK K;refine qM (b:=_) rfl (fun hb2=>?_) (fun hb2=>?_)
   ·skip
    have hgo1:isE l a=false/\isV l a=false/\qai l a=[]:=by
     have z:goW l a=true:=by rw[<-hb_11];exact hb2
     unfold goW at z;simp only[Ji,VL,VK,decide_eq_true_eq]at z;exact⟨z.1,z.2.1,z.2.2⟩
    have hal2:a<l.length:=by
     by_cases z:a<l.length
     ·exact z
     ·have y:=hgo1.1
      unfold isE at y;rw[if_neg z]at y;cases y
    refine qV ?_;change Awp _ _ _ _ _ _ _;refine Qb ?_;refine qF ?_;refine awp_rseq [0,1,2,4,10,13,14,16] (by rfl) fun K hK=>?_;simp+decide only[ev,putD,VG,VH,Ka,Kb,↓qg,qd];refine QS (V:= .tuple [.str (QZ l a fm).1, .int .i64 (QZ l a fm).2]) (by rfl) (by rfl) (qdM wz ha _ (.own kp) 0 v l a fm (Qj wz eb_p 0) (Qj wz eb_p 1) (hv.mono zqB) (by omega) hal hfm1 hfm2) ?_;simp+decide only[qa,ev,putD,VG,VH,VI,Ka,Kb,↓qg,qd,↓Xu,Xk,XA,KY,JN,VJ,Kn,↓qf,qc,VJ,Kn,Jq,Nat.reduceAdd];apply hK;clear hK K;refine awp_rseq [0,1,2,4,10,13,14,132] (by rfl) fun K hK=>?_;simp+decide only[qa,ev,qK,qG,putD,VG,VH,VI,Ka,Kb,↓qg,qd,↓qo,qh,qE,cond_false,qz,Yk];apply hK;clear hK K;refine qM (b:=_) rfl (fun hb3=>?_) (fun hb3=>?_)
    ·try simp only[decide_eq_true_eq]at hb3
     have hWd:headW l O w n i=(toks,a):=by rw[hgo];exact qdr (.inr (.inr (.inr (by omega))))
     refine QI ?_;change Awp _ _ _ _ _ _ _;refine awp_rseq [0,1,2,4,10,13,14,158] (by rfl) fun K hK=>?_;simp+decide only[qa,ev,qK,qG,putD,VG,VH,VI,Ka,Kb,↓qC,qi,qcT,↓qI,Qc,qj qam,↓QB,Qo,↓qo,qh,qE,cond_false,qz,XV,Qj wz eb_8q2,VJ,Kn,Jq,nt,htl];apply hK;clear hK K;refine qM (b:=_) rfl (fun hb4=>?_) (fun hb4=>?_)
     ·try simp only[decide_eq_true_eq]at hb4
      have htk:toks=[]:=Kg (by omega);refine Yd 2 (by rfl) (by rfl) ?_;simp only[Ki,V4];simp+decide only[qa,ev,putD,VG,VH,Ka,Kb,↓qg,qd];refine⟨⟨_,_,by rfl,?_⟩,by intro i;first|trivial|exact .inr trivial|exact .inr rfl⟩;exact(qda wz _ B kp v ov l a 4 i zqA zqB hv (by omega) (by omega)).mono (fun _ _ q=>q) fun x h' ⟨q1,q2⟩=>⟨_,Bv hTf ⟨hwW,by rw[hWd];exact htk⟩,q1,Ba (by assumption) q2⟩
     ·try simp only[decide_eq_false_iff_not]at hb4
      have htk:toks≠[]:=fun z=>by rw[z]at hb4;exact hb4 rfl
      refine qV ?_;try simp only[qR]
      first
      |exact⟨⟨toks,a,tv,q,H2⟩,rfl,Vh _,⟨hS2,hrow,hal,hle,hfw⟩,hWd,fun z=>htk (by rw[hWd]at z;exact z.2)⟩
      |exact⟨⟨[],i+n, .nilSlice,emp,H9⟩,rfl,Vh _,⟨hS9.emp, .nil,hin,KM _,Jr _⟩,by unfold headW;rw[if_neg hwW],fun z=>hwW z.1⟩
    ·try simp only[decide_eq_false_iff_not]at hb3
     have hgo2:headW l O w n i=Ui l fm (l.length-(a+1)) (a+1) (toks++[l.getD a noT]):=by
      rw[hgo];refine qmH hal2 ?_;rintro(z|z|z|z)
      ·rw[hgo1.1]at z;cases z
      ·rw[hgo1.2.1]at z;cases z
      ·exact z hgo1.2.2
      ·omega
     refine qV ?_;change Awp _ _ _ _ _ _ _;obtain⟨lc,o,cc,hve⟩:=ZT hv (by omega);have hv2:=hv.mono hs_H2;rw[hve]at hv2;obtain⟨e0,e1,e2,e3,e4⟩:=WE hv2 hal2;obtain⟨t,ht⟩:∃t,t=l.getD a noT:=⟨_,rfl⟩
     rw[<-ht]at e0 e1 e2 e3 e4 hgo2;refine qaj 13 [] [0,1,2,4,10,13,14] mixed (by kernel_rfl) (by rfl) fun K hK=>?_;simp only[Ki,V4,Vw,Vm];simp+decide only[ev,putD,VG,VH,Ka,Kb,↓YE,qi,qcT,↓qay,ZF,qj qam,↓qaw,qd,↓Uz,Qk,QE,qbv,Yp,qj ag3,↓Wm,qA Tryz.underlying39 Yl,Zf,Qz qhZ Yl,Qj wz eb_p,Qj wz eb_8q2,Qd,VJ,Kn,Jq,YP,QL,Qw,Xv,allLive,J4,hve,htl,e0,e1,e2,e3,e4,VN,K7];repeat (with_reducible refine And.intro ?_ ?_;· first|trivial|omega|(intro hg;simp only[Ky,JF,Ji,VO,VL,VK,decide_eq_true_eq,decide_eq_false_iff_not,Xd]at hg;omega))
     refine UU (by rfl) ?_;refine Qh (cs:=(Xy t)) (by kernel_rfl) fun k14q12 hk14q12=>?_;have hn_14q12:H2 k14q12=none:=by first|assumption|(simp only[VU]at hk14q12;simp only[hk14q12])
     have hf_14q12:B k14q12=none:=VV hs_H2 hn_14q12;have ne_14q12_p:k14q12≠kp:=VW hn_14q12 eb_p;have ne_14q12_s:k14q12≠ks:=VW hn_14q12 eb_s;have ne_14q12_8q2:k14q12≠k8q2:=VW hn_14q12 eb_8q2;rw[qa];try simp only[qaG]
     refine ZM (es:=5) (v:=tv) (p:=q) (xs:=toks.map Xy) (ys:=[Xy t]) (i:=9) (by rfl) (by rfl) Tryz.underlying39 Tryz.underlying39 (fun k e=>by cases e) Yl qfo qdo (by rfl) (by decide) (by rfl) hrow rfl (hS2.forget (Vi hn_14q12)) (by rfl) (Bh (Vg _ _ _) (fun x hx=>by rw[VM.1 hx];rfl) (by rfl) (by rfl) (.exact 1) (KM _)) (by rfl) (by simp) (by rw[Jo,JA];omega) (by rw[Jo,JA];omega) fun tv2 q2 h14 hrow2 _ hS3=>?_;simp+decide only[ev,putD,VG,VH,Ka,Kb,↓qC,qi,qcT,Jq];refine Qi (v:=tv2) (by rfl) (by rfl) (hS3.at_ (i:=8) rfl) sz39 hrow2.live (by rw[hrow2.cells];rfl) (by simp only[KY,JN];omega) (Jr _) (by rw[hrow2.cells];simp[QU,hrow2.scal]) ?_;simp only[hrow2.cells,setAt,VZ,Kj];simp+decide only[qa,putD,VI,Ka];have eb_p:h14 kp=some _:=hS3.at_ (i:=1) rfl;have hwa:IntKind.i64.wrap ((a:Int)+1)=((a+1:Nat):Int):=by rw[wrap_i64 (by omega) (by omega)];omega
     apply hK;clear hK K;refine Xa [0,1,2,4,10,13,14] (by rfl) ?_;simp+decide only[ev,qK,qG,putD,VG,VH,Ka,Kb,↓qg,qd,↓Qv,Qk,QE,↓qC,qi,Yp,↓qI,Qc,qj ag3,↓qo,qh,qE,cond_false,qz,QW,YI,ne_eq,not_false_eq_true,Qj wz eb_p,ne_8q2_p.symm,VJ,Kn,Jq,QL,hwa];refine Qi (by rfl) (by rfl) zqA sz3 (by rfl) (by rfl) zqD (Jr _) (by rfl) ?_;simp only[VY];simp+decide only[qa,ev,putD,VH,VI,Ka,setAt,VZ,Kj];try simp only[qR,Zg]
     exact⟨⟨toks++[t],a+1,tv2,q2,(h14.set k8q2 ⟨[.str w,tv2, .nilSlice],0⟩).set kp (parB3 v (a+1) ov)⟩,rfl,Vh _,⟨⟨(hS3.put (i:=8) rfl ⟨[.str w,tv2, .nilSlice],0⟩).put (i:=1) rfl (parB3 v (a+1) ov),by simp only;rw[Vr];exact hrow2,hal2,by simp only;omega,by simp only[Jc,JA];omega⟩,hgo2⟩,by simp only;omega⟩
   ·skip
    have hWd:headW l O w n i=(toks,a):=by
     rw[hgo];refine qdr ?_;have z:goW l a=false:=by rw[<-hb_11];exact hb2
     unfold goW at z;simp only[VK,JF,Ji,decide_eq_false_iff_not]at z;rcases z with z|z|z
     ·exact .inl z
     ·exact .inr (.inl z)
     ·exact .inr (.inr (.inl z))
    refine QI ?_;change Awp _ _ _ _ _ _ _;refine awp_rseq [0,1,2,4,10,13,14,158] (by rfl) fun K hK=>?_;simp+decide only[qa,ev,qK,qG,putD,VG,VH,VI,Ka,Kb,↓qC,qi,qcT,↓qI,Qc,qj qam,↓QB,Qo,↓qo,qh,qE,cond_false,qz,XV,Qj wz eb_8q2,VJ,Kn,Jq,nt,htl];apply hK;clear hK K;refine qM (b:=_) rfl (fun hb5=>?_) (fun hb5=>?_)
    ·try simp only[decide_eq_true_eq]at hb5
     have htk:toks=[]:=Kg (by omega);refine Yd 2 (by rfl) (by rfl) ?_;simp only[Ki,V4];simp+decide only[qa,ev,putD,VG,VH,Ka,Kb,↓qg,qd];refine⟨⟨_,_,by rfl,?_⟩,by intro i;first|trivial|exact .inr trivial|exact .inr rfl⟩;exact(qda wz _ B kp v ov l a 4 i zqA zqB hv (by omega) (by omega)).mono (fun _ _ q=>q) fun x h' ⟨q1,q2⟩=>⟨_,Bv hTf ⟨hwW,by rw[hWd];exact htk⟩,q1,Ba (by assumption) q2⟩
    ·try simp only[decide_eq_false_iff_not]at hb5
     have htk:toks≠[]:=fun z=>by rw[z]at hb5;exact hb5 rfl
     refine qV ?_;try simp only[qR]
     first
     |exact⟨⟨toks,a,tv,q,H2⟩,rfl,Vh _,⟨hS2,hrow,hal,hle,hfw⟩,hWd,fun z=>htk (by rw[hWd]at z;exact z.2)⟩
     |exact⟨⟨[],i+n, .nilSlice,emp,H9⟩,rfl,Vh _,⟨hS9.emp, .nil,hin,KM _,Jr _⟩,by unfold headW;rw[if_neg hwW],fun z=>hwW z.1⟩
  ·try simp only[decide_eq_false_iff_not]at hb1
   have hwW:¬w=Ye:=hb1;refine qV ?_;try simp only[qR]
   first
   |exact⟨⟨toks,a,tv,q,H2⟩,rfl,Vh _,⟨hS2,hrow,hal,hle,hfw⟩,hWd,fun z=>htk (by rw[hWd]at z;exact z.2)⟩
   |exact⟨⟨[],i+n, .nilSlice,emp,H9⟩,rfl,Vh _,⟨hS9.emp, .nil,hin,KM _,Jr _⟩,by unfold headW;rw[if_neg hwW],fun z=>hwW z.1⟩
 ·rintro⟨toks,a,tv,q,H2⟩ ⟨hI,hhd,hbare⟩
  refine Bt [0,1,2,4,10,13,14] ?_;have:=hrest k8q2 _ hI hhd hbare;rw[<-hfm]at this;exact this
theorem sts_clip{wz:World}{h:AHeap}:∀{d:Nat} {v:AVal} {l:List StC},StsV wz d h v l->StsV wz d h (Zi v) l
 |0,_,_,hp=>⟨hp.1,hp.2.clip⟩
 |d+1,_,_,⟨qs,e,a,b⟩=>⟨qs,e,a.clip,b⟩
theorem qas{wz:World}{h:AHeap}{d:Nat}{v:AVal}{l:List StC}(hp:StsV wz d h v l):∀H:AHeap,Zh Tryz.prog H 45 v=⟨True, .int .i64 l.length⟩:=by
 intro H;obtain⟨qs,rfl,a⟩:=hp.isL;have:=a.len Tryz.underlying45 H
 rwa [Jo,<-Jo (f:=(·.1))]at this
set_option maxHeartbeats 8000000 in
theorem k_bodyC(wz:World)(hm:MaxL wz)(ha:Asp wz)(l:List TokC)(hl:l.length<=65537)(hsh:Short l)(dd:Nat)(hdd:dd<=32)(hli:qli wz l (dd+1))(B:AHeap)(kp ks kb:Nat)(v ov bv pv:AVal)(op pp tp bp E:AHeap)(O:List Str)(c:Cur)(w:Str)(n i:Nat)
 (hP0:ParS wz l B v ov op O i) (hC:CurS wz (32-dd) c pv bv pp tp bp E) (hF:Fair O) (hO:O.length=dd) (hin:i+n<=l.length) (hpos:0<n\/isV l i=true) (hfew:Few c i) (hTf:Stm.twice c w=false) (g:B2G)
 (hI:B2I wz l B kp ks kb v ov pv bv op pp tp bp E c w (i+n) g) (hhd:headW l O w n i=(g.toks,g.i)) (hbare:¬(w=Ye/\(headW l O w n i).1=[])):
 Awp Tryz.prog wz ⟨210,[],GP wz 210 [] [] (qjU B fun f=>BodyRO l dd O c w n i (.bad f))⟩ (Wn 6 (qbZ Tryz.f73)) (qcf Tryz.prog wz [] (fun r h'=>r= .tuple []/\qjY wz l B kp ks v pv pp tp O dd n i c w h')) [(0, .ptr (.own kp) 0),(1, .ptr (.own ks) 0),(2, .str w),(4, .int .i64 dd),(10, .int .i64 i),(13, .ptr (.own kb) 0),(14, .str (O.getLastD []))] (g.H):=by
 obtain⟨toks,a,tv,q,H⟩:=g;obtain⟨hS,hrow,hal,hle,hfw⟩:=hI;simp only at hS hrow hal hle hfw hhd|-
 have eb_p:H kp=some _:=hS.at_ (i:=1) rfl;have eb_s:H ks=some _:=hS.at_ (i:=3) rfl;have eb_b:H kb=some _:=hS.at_ (i:=8) rfl;have ne_p_s:kp≠ks:=hS.ne (i:=1) (j:=3) rfl rfl (by decide);have ne_p_b:kp≠kb:=hS.ne (i:=1) (j:=8) rfl rfl (by decide);have ne_s_b:ks≠kb:=hS.ne (i:=3) (j:=8) rfl rfl (by decide);have hs_H:Sub B H:=hS.in_ (i:=0) rfl;have hv:=hP0.toks;have hlv:=hv.live;obtain⟨hpl,hps,hpc⟩:=hC.pv_ok;obtain⟨hbl,hbs,hbc,nb⟩:=hC.bv_len;obtain⟨fm,hfm⟩:∃fm,fm=O.getLastD []:=⟨_,rfl⟩
 obtain⟨hfm1,hfm2⟩:=qgZ hF;rw[<-hfm]at hfm1 hfm2|-
 have hW2:(headW l O w n i).2=a:=by rw[hhd]
 have hdj:[B,one ks (curB c pv bv),pp,tp,bp,E,one kb ⟨[.str w,tv, .nilSlice],0⟩,q].Pairwise disj:=(hS.pick [0,3,4,5,6,7,8,9] (by decide) (by simp)).2;have hcall:=hli H (WB [B,one ks (curB c pv bv),pp,tp,bp,E,one kb ⟨[.str w,tv, .nilSlice],0⟩,q]) kp v ov op O a (Sep.fold (ps:=[B,one ks (curB c pv bv),pp,tp,bp,E,one kb ⟨[.str w,tv, .nilSlice],0⟩,q]) (hS.pick [0,3,4,5,6,7,8,9,1,2] (by decide) (by simp))) ⟨hv.mono (XI hdj B (by simp)),hP0.open_,hP0.isG,hal⟩ hF (by omega);have hwd:IntKind.i64.wrap ((dd:Int)+1)=((dd+1:Nat):Int):=by rw[wrap_i64 (by omega) (by omega)];omega
 change Awp _ _ _ (Code.seq _ _) _ _ _;by_cases hbad:∃f,ListRO l (dd+1) O a [] (.bad f)
 ·skip
  refine qF ?_;refine Yd 3 (by rfl) (by rfl) ?_;simp only[Ki,V4];simp+decide only[qa,ev,qK,qG,putD,VG,VH,Ka,Kb,↓qg,qd,↓qo,qh,qE,cond_false,qz,QW];try simp(disch:=omega)only[wrap_i64]
  refine⟨⟨_,_,by rfl,?_⟩,by intro i;first|trivial|exact .inr trivial|exact .inr rfl⟩;try rw[hwd]
  obtain⟨f,hf⟩:=hbad;refine(hcall.bad fun x h' ⟨L,j,_,_,_,y,_⟩=>by cases y.one hf).mono (fun _ _ q=>q) fun x h' ⟨f',q1,q2,q3⟩=>⟨f',BodyR.bad hTf hbare (by rw[hW2];exact q1),q2,(XI hdj B (by simp)).trans q3⟩
 refine awp_rseq [0,1,2,10,13,14] (by rfl) fun K hK=>?_;simp+decide only[ev,qK,qG,putD,VG,VH,Ka,Kb,↓qg,qd,↓qo,qh,qE,cond_false,qz,QW];try simp(disch:=omega)only[wrap_i64]
 refine qY (by rfl) (by rfl) (hcall.ok fun x h' ⟨f,q,_⟩=>hbad ⟨f,q⟩) fun x18q3 h18q3 hx18q3=>?_;obtain⟨L,j,ov2,op2,E2,hR,hij,hLn,hsts,hP2,hS2⟩:=hx18q3;have hS2:=hS2.unfold hdj;obtain⟨hrl,hrs,hrc⟩:=hsts.shape;simp+decide only[ev,putD,VG,VH,Ka,Kb,↓qC,qi,qcS,Jq];refine Qi (v:=x18q3) (by rfl) (by rfl) (hS2.at_ (i:=6) rfl) qtt hrl (by rw[hrc];rfl) (by simp only[KY,JN];omega) (Jr _) (by rw[hrc];simp[QU,hrs]) ?_;simp only[hrc,setAt,VZ,Kj];simp+decide only[qa,putD,VI,Ka];apply hK;clear hK K;refine qF ?_;obtain⟨H19,hH19⟩:∃H19,H19=h18q3.set kb ⟨[.str w,tv,x18q3],0⟩:=⟨_,rfl⟩
 refine Bq (h':=H19) (by rw[hH19];exact Vh _) ?_;have hS3:=hS2.put (i:=6) rfl ⟨[.str w,tv,x18q3],0⟩;rw[<-hH19]at hS3;simp only[VZ,Kj,Kh,Je]at hS3;have eb_p:H19 kp=some _:=hS3.at_ (i:=8) rfl;have eb_s:H19 ks=some _:=hS3.at_ (i:=1) rfl;have eb_b:H19 kb=some _:=hS3.at_ (i:=6) rfl;have hs_H19:Sub B H19:=hS3.in_ (i:=0) rfl;have hj:=hP2.at_;have nL:=qas hsts;have hlo2:=hP2.open_.live;have htl:=hrow.live;obtain⟨S,hSS⟩:∃S,S=QZ l j fm:=⟨_,rfl⟩
 have hE:qhd l O w L j=(decide (L.length=0) && (!decide (w=Ye)||(!decide (S.1=Ye) && !decide (S.1=qft)))):=by rw[hSS,hfm];rfl
 refine awp_rseq [0,1,2,10,13,17] (by rfl) fun K hK=>?_;simp+decide only[ev,putD,VG,VH,Ka,Kb,↓qg,qd];refine QS (V:= .tuple [.str S.1, .int .i64 S.2]) (by rfl) (by rfl) (by rw[hSS];exact qdM wz ha _ (.own kp) 0 v l j fm (Qj wz eb_p 0) (Qj wz eb_p 1) (hv.mono zqB) (by omega) hj hfm1 hfm2) ?_;simp+decide only[qa,ev,putD,VG,VH,VI,Ka,Kb,↓qg,qd,↓Xu,Xk,XA,KY,JN,VJ,Kn,↓qf,qc,VJ,Kn,Jq,Nat.reduceAdd];apply hK;clear hK K;refine awp_rseq [0,1,10,13,188] (by rfl) fun K hK=>?_;simp+decide only[qa,ev,qK,qG,putD,VG,VH,VI,Ka,Kb,↓qC,qi,qcS,↓qI,Qc,qj qhm,↓QB,Qo,↓qo,qh,qE,cond_false,qz,XV,↓qg,qd,↓Xc,agP,Qs,qW,qP,Xm,Ze,qH,qU,qeS,implies_true,Bool.not_not,↓QJ,Qy,XL,XM,Qp,Um,↓WS,Qr,Qe,QT,qaH,qnD,QH,XO,qaz,qaA,↓QC,Qj wz eb_b,VJ,Kn,Jq,nL,hrl];apply hK;clear hK K;refine qM (b:=_) rfl (fun hb1=>?_) (fun hb1=>?_)
 ·try simp only[decide_eq_true_eq,decide_eq_false_iff_not,Ji,Ky,JF]at hb1
  have hEt:qhd l O w L j=true:=by
   rw[hE,Ky,decide_eq_true_eq];refine⟨by omega,?_⟩;rcases hb1.2 with z|⟨z1,z2⟩
   ·rw[decide_eq_false (show ¬w=Ye from z)];rfl
   ·rw[decide_eq_false (show ¬S.1=Ye from z1),decide_eq_false (show ¬S.1=qft from z2)];simp
  refine Yd 2 (by rfl) (by rfl) ?_;simp only[Ki,V4];simp+decide only[qa,ev,putD,VG,VH,Ka,Kb,↓qg,qd];refine⟨⟨_,_,by rfl,?_⟩,by intro i;first|trivial|exact .inr trivial|exact .inr rfl⟩;exact(qda wz _ B kp v ov2 l j 4 i zqA zqB hv (by omega) (by omega)).mono (fun _ _ q=>q) fun x h' ⟨q1,q2⟩=>⟨_,BodyR.empty hTf hbare (by rw[hW2];exact hR) hEt,q1,Ba (by assumption) q2⟩
 ·try simp only[decide_eq_true_eq,decide_eq_false_iff_not,VK,VO,VL]at hb1
  have hEf:qhd l O w L j=false:=by
   rw[hE,<-Br];intro z;rw[Ky,decide_eq_true_eq,JF,Ky]at z;obtain⟨z1,z2⟩:=z;rcases hb1 with y|⟨y1,y2⟩
   ·omega
   ·rcases z2 with x|⟨x1,x2⟩
    ·rw[show decide (w=Ye)=true from decide_eq_true y1]at x;cases x
    ·rcases y2 with u|u
     ·rw[show decide (S.1=Ye)=true from decide_eq_true u]at x1;cases x1
     ·rw[show decide (S.1=qft)=true from decide_eq_true u]at x2;cases x2
  refine qV ?_;change Awp _ _ _ _ _ _ _;have htv:=hrow.isL (wz:=wz) (hS3.in_ (i:=7) rfl);obtain⟨qL,hqL,hrv0⟩:=(hsts.mono (hS3.in_ (i:=10) rfl)).isL;have hck:=htv.clip;have hcr:=hrv0.clip;have hckl:=hck.live;have hcrl:=hcr.live;refine qeU 7 [1,13] mixed (by kernel_rfl) (by rfl) fun K hK=>?_;simp only[Ki,V4,Vw,Vm];simp+decide only[ev,putD,VG,VH,Ka,Kb,↓ZN,qi,qcT,↓qcG,ZF,qj qam,Qj wz eb_b,VJ,Kn,Jq,htl];refine qbi (V:=Zi tv) (by rfl) (by rfl) (qgj wz _ tv _ htv) ?_;simp+decide only[ev,putD,VG,VH,Ka,Kb,↓ZN,qi,qcS,↓qcG,ZF,qj qhm,Qj wz eb_b,VJ,Kn,Jq,hrl];refine qbi (V:=Zi x18q3) (by rfl) (by rfl) (qnR wz _ x18q3 _ hrv0) ?_;simp+decide only[qdt,ev,putD,VG,VH,Ka,Kb,↓ZN,qi,qcT,Jq];refine Qi (v:=Zi tv) (by rfl) (by rfl) eb_b sz39 hckl (by rw[hck.cells];rfl) (by simp only[KY,JN];omega) (Jr _) (by rw[hck.cells];simp[QU,hck.scal]) ?_;simp only[hck.cells,setAt,VZ,Kj];simp+decide only[ev,putD,VG,VH,Ka,Kb,↓qC,qi,qcS,Jq];refine Qi (v:=Zi x18q3) (by rfl) (by rfl) (Vg _ _ _) qtt hcrl (by rw[hcr.cells];rfl) (by simp only[KY,JN];omega) (Jr _) (by rw[hcr.cells];simp[QU,hcr.scal]) ?_;simp only[hcr.cells,VX,setAt,VZ,Kj];simp+decide only[qa,putD,VI,Ka];apply hK;clear hK K;obtain⟨H23,hH23⟩:∃H23,H23=H19.set kb ⟨[.str w,Zi tv,Zi x18q3],0⟩:=⟨_,rfl⟩
  refine Bq (h':=H23) (by rw[hH23];exact Vh _) ?_;have hS4:=hS3.put (i:=6) rfl ⟨[.str w,Zi tv,Zi x18q3],0⟩;rw[<-hH23]at hS4;simp only[VZ,Kj]at hS4;have eb_p:H23 kp=some _:=hS4.at_ (i:=8) rfl;have eb_s:H23 ks=some _:=hS4.at_ (i:=1) rfl;have eb_b:H23 kb=some _:=hS4.at_ (i:=6) rfl;have hs_H23:Sub B H23:=hS4.in_ (i:=0) rfl;obtain⟨bs,hb1e,hb2e,hb3e⟩:=id hC.bd;have hbn:c.bodies.length=bs.length:=by rw[hb1e,Jo]
  obtain⟨hf1,hf2,hf3⟩:=hfew;have hin2:i<=l.length:=hP0.at_;refine qfs 7 [0] mixed (by kernel_rfl) (by rfl) ?_;simp only[Ki,V4,Vw,Vm];simp+decide only[ev,putD,VG,VH,Ka,Kb,↓qaw,qd,↓Uz,Qk,QE,↓YE,qi,Yf,↓qay,ZF,qj qbB,Qz qoc UE,Qj wz eb_s,Qj wz eb_b,Qd,VJ,Kn,Jq,Nat.reduceAdd,Qw,allLive,J4,hbl,hckl,hcrl];refine UU (by rfl) ?_;refine Qh (cs:=[.str w,Zi tv,Zi x18q3]) (by kernel_rfl) fun k23q6 hk23q6=>?_;have hn_23q6:H23 k23q6=none:=by first|assumption|(simp only[VU]at hk23q6;simp only[hk23q6])
  have hf_23q6:B k23q6=none:=VV hs_H23 hn_23q6;have ne_23q6_p:k23q6≠kp:=VW hn_23q6 eb_p;have ne_23q6_s:k23q6≠ks:=VW hn_23q6 eb_s;have ne_23q6_b:k23q6≠kb:=VW hn_23q6 eb_b;rw[qa];try simp only[qaG]
  refine ZM (es:=3) (v:=bv) (p:=bp) (xs:=bs.map bdC) (ys:=[[.str w,Zi tv,Zi x18q3]]) (i:=4) (by rfl) (by rfl) Tryz.underlying80 Tryz.underlying80 (fun k e=>by cases e) UE by86 qjZ (by rfl) (by decide) (by rfl) hb2e rfl (hS4.forget (Vi hn_23q6)) (by rfl) (Bh (Vg _ _ _) (fun x hx=>by rw[VM.1 hx];rfl) (by rfl) (by show(true && ((Zi tv).live && ((Zi x18q3).live && true)))=true;rw[hckl,hcrl];rfl) (.exact 1) (KM _)) (by show(true && ((Zi tv).scal && ((Zi x18q3).scal && true)))=true;rw[hck.scal,hcr.scal];rfl) (by simp) (by simp only[Jo,JA];omega) (by simp only[Jo,JA];omega) fun bv2 bp2 h23 hb2g _ hS5=>?_;simp+decide only[ev,putD,VG,VH,Ka,Kb,↓Qv,Qk,QE,↓qC,qi,Yf,Jq];refine Qi (v:=bv2) (by rfl) (by rfl) (hS5.at_ (i:=1) rfl) sz80 hb2g.live (by rw[hb2g.cells];rfl) (by simp only[KY,JN];omega) (Jr _) (by rw[hb2g.cells];simp[QU,hb2g.scal]) ?_;simp only[hb2g.cells,setAt,VZ,Kj];simp+decide only[qa,putD];refine Us (qO) ?_;try simp+decide only[Kb,qeg]
  have hS6:=hS5.put (i:=1) rfl (curB {c with bodies:=c.bodies++[(w,toks,L)]} pv bv2);simp only[VZ,Kj]at hS6;have hdE:[E,q,E2].Pairwise disj:=(hS6.pick [5,7,10] (by decide) (by simp)).2;have hu:=XI hdE;have hS7:=(Sep.fold (ps:=[E,q,E2]) (hS6.pick [5,7,10,0,8,9,1,2,3,4] (by decide) (by simp))).pick [1,2,3,4,5,6,7,0] (by decide) (by simp);refine⟨_,Vh _,{c with bodies:=c.bodies++[(w,toks,L)]},j,ov2,op2,bv2,bp2,WB [E,q,E2],by have:=BodyR.ok hTf hbare (by rw[hW2];exact hR) hEf;rw[hhd]at this;exact this,?_,rfl,rfl,rfl,rfl,by simp,⟨?_,?_⟩,⟨hv,hP2.open_,hP2.isG,hP2.at_⟩,hS7⟩
  ·rcases hpos with z|z
   ·omega
   ·by_cases hn0:n=0
    ·rcases KU i j with y|y
     ·exact y
     ·exfalso
      have hij2:a=j:=by omega
      have hai:a=i:=by omega
      have hL0:L.length=0:=by omega
      have hwW:w=Ye:=by
       by_cases y2:w=Ye
       ·exact y2
       ·rw[hE,hL0,decide_eq_false y2]at hEf;cases hEf
      refine hbare ⟨hwW,?_⟩;unfold headW;rw[if_pos hwW,hn0,K7];unfold qtk;rw[qdr (.inr (.inl z))]
    ·omega
  ·obtain⟨qs,w1,ts,tv1,p1,p2,p3,p4⟩:=hC.ph
   exact⟨qs,w1,ts,tv1,p1,p2,p3,fun x hx=>(p4 x hx).mono (hu E (by simp))⟩
  ·refine⟨bs++[((w,toks,L),Zi tv,Zi x18q3)],by simp only;rw[hb1e,Vr];rfl,by rw[Vr];exact hb2g,fun b hb=>?_⟩
   rcases JR.1 hb with z|z
   ·exact⟨(hb3e b z).1.mono (hu E (by simp)),(hb3e b z).2.mono (hu E (by simp))⟩
   ·rw[VM.1 z]
    refine⟨(hrow.isL (hu q (by simp))).clip,?_⟩;have:=sts_clip (hsts.mono (hu E2 (by simp)))
    rwa [show 33-(dd+1)=32-dd by omega]at this
theorem k_body(wz:World)(hm:MaxL wz)(ha:Asp wz)(l:List TokC)(hl:l.length<=65537)(hsh:Short l)(dd:Nat)(hdd:dd<=32)(hd0:0<dd)(hli:qli wz l (dd+1)):BodK wz l dd:=
 k_bodyA wz l hl dd fun H B kp ks v ov bv pv op pp tp bp E O c w n i hS hP hC hF hO hin hpos hfew hTf=>
  k_bodyB wz hm ha l hl hsh dd hdd hd0 H B kp ks v ov bv pv op pp tp bp E O c w n i hS hP hC hF hO hin hTf fun kb g hI hhd hbare=>
   k_bodyC wz hm ha l hl hsh dd hdd hli B kp ks kb v ov bv pv op pp tp bp E O c w n i hP hC hF hO hin hpos hfew hTf g hI hhd hbare
theorem cond_P{P:Str×Str->Prop}{b:Bool}{x y:Str×Str}(hx:P x)(hy:P y):P (bif b then x else y):=by cases b<;>assumption
def qrI(p:Str×Str):Prop:=(p.1.length<=1000000/\asciiB p.1=true)/\p.2.length<=1000000/\asciiB p.2=true
instance (p:Str×Str):Decidable (qrI p):=by unfold qrI;exact inferInstance
theorem qji(s:Str):qrI (XE s):=by
 unfold XE;repeat' (refine cond_P (P:=qrI) (by decide) ?_)
 decide
theorem Fair.snoc{O:List Str}(hF:Fair O)(s:Str):Fair (O++[(XE s).2]):=fun f hf=>by
 rcases JR.1 hf with h|h
 ·exact hF f h
 ·rw[VM.1 h];exact(qji s).2
structure StI(wz:World)(l:List TokC)(B:AHeap)(kp ks k4:Nat)(b4:Blk)(v ov pv bv:AVal)(op pp tp bp E:AHeap)(O:List Str)(d:Nat)(c:Cur)(j:Nat)(H:AHeap):Prop where
 sep:Sep [B,one kp (parB3 v j ov),op,one ks (curB c pv bv),pp,tp,bp,E,one k4 b4] H
 par:ParS wz l B v ov op O j
 cur:CurS wz d c pv bv pp tp bp E
 few:Few c j
def qdp:Blk:=⟨[.str [], .int .i64 0, .int .i64 0, .nilSlice, .nilSlice],0⟩
set_option maxHeartbeats 8000000 in
theorem k_stmA(wz:World)(l:List TokC)(hl:l.length<=65537)(dd:Nat)(hdd:dd<=33)
 (hrest:dd<=32->∀(H B:AHeap) (kp ks k4:Nat) (v ov pv bv:AVal) (op pp tp bp E:AHeap) (O:List Str) (i:Nat),StI wz l B kp ks k4 qdp v ov pv bv op pp tp bp E (O++[(XE (l.getD i noT).text).2]) (32-dd) (qdL l i) (i+1) H->Fair O->O.length+1=dd->isV l i=true->
   Awp Tryz.prog wz ⟨201,[],GP wz 201 [] [] (qjU B fun f=>StRO l dd O i (.bad f))⟩ (Wn 6 (qic (Wn 1 (qbZ Tryz.f51)))) (qel (qcf Tryz.prog wz [.cell 4 82] (qpM wz l B kp v O dd i))) [(0, .ptr (.own kp) 0),(1, .int .i64 dd),(4, .ptr (.own k4) 0),(5, .int .i64 i),(6, .ptr (.own ks) 0),(7, .str (XE (l.getD i noT).text).1),(8, .str (XE (l.getD i noT).text).2)] (H)):StmK wz l dd:=by
 intro h B kp v ov op O i hS hP hF hO hvi;have eb_p:h kp=some _:=hS.at_ (i:=1) rfl;have hs_h:Sub B h:=hS.in_ (i:=0) rfl;have hv:=hP.toks;have hlv:=hv.live;have hlo:=hP.open_.live;have hi:=isV_some hvi;refine UY (k:=201) (rs:=[.cell 4 82]) Tryz.func51 rfl rfl rfl rfl (VF rfl) ?_;simp only[Qm];refine awp_rseq [0,1,4] (by rfl) fun K hK=>?_;refine Xb qhT (cs:=[.str [], .int .i64 0, .int .i64 0, .nilSlice, .nilSlice]) (by rfl) fun k0q0 hk0q0=>?_;have hn_0q0:h k0q0=none:=by first|assumption|(simp only[VU]at hk0q0;simp only[hk0q0])
 have hf_0q0:B k0q0=none:=VV hs_h hn_0q0;have ne_0q0_p:k0q0≠kp:=VW hn_0q0 eb_p;simp+decide only[qa,putD,VG,VI,Ka,Jq];apply hK;clear hK K;refine qsZ ?_;refine awp_rseq [0,1,4,5] (by rfl) fun K hK=>?_;simp+decide only[qa,ev,putD,VG,VH,VI,Ka,Kb,↓qg,qd,↓Qv,Qk,QE,↓qC,qi,Yp,↓qI,Qc,qj ag3,↓qf,qc,YI,ne_eq,not_false_eq_true,ne_0q0_p.symm,Qj wz eb_p,VJ,Kn,Jq,QL];apply hK;clear hK K;refine qF ?_;refine awp_rseq [0,1,4,5,23] (by rfl) fun K hK=>?_;simp+decide only[qa,ev,qK,qG,putD,VG,VH,VI,Ka,Kb,↓qg,qd,↓qo,qh,qE,cond_false,qz,Yk];apply hK;clear hK K;refine qM (b:=_) rfl (fun hb1=>?_) (fun hb1=>?_)
 ·try simp only[decide_eq_true_eq]at hb1
  refine Yd 2 (by rfl) (by rfl) ?_;simp only[Ki,V4];simp+decide only[qa,ev,putD,VG,VH,Ka,Kb,↓qg,qd];refine⟨⟨_,_,by rfl,?_⟩,by intro i;first|trivial|exact .inr trivial|exact .inr rfl⟩;exact(qda wz _ B kp v ov l i 3 i zqA zqB hv (by omega) (by omega)).mono (fun _ _ q=>q) fun x h' ⟨q1,q2⟩=>⟨_,StR.deep (by omega),q1,Ba zqB q2⟩
 ·try simp only[decide_eq_false_iff_not]at hb1
  have hd32:dd<=32:=by omega
  refine qV ?_;change Awp _ _ _ _ _ _ _;obtain⟨H4,hH4⟩:∃H4,H4=h.set k0q0 qdp:=⟨_,rfl⟩
  refine Bq (h':=H4) (by rw[hH4];exact Vh _) ?_;have hS4:=hS.lay hk0q0 qdp;rw[<-hH4]at hS4;simp only[Kh,Je]at hS4;have eb_p:H4 kp=some _:=hS4.at_ (i:=1) rfl;have eb_0q0:H4 k0q0=some _:=hS4.at_ (i:=3) rfl;have hs_H4:Sub B H4:=hS4.in_ (i:=0) rfl;obtain⟨lc,o,cc,hve⟩:=ZT hv (by omega);have hv2:=hv.mono hs_H4;rw[hve]at hv2;obtain⟨e0,e1,e2,e3,e4⟩:=WE hv2 hi;obtain⟨t,ht⟩:∃t,t=l.getD i noT:=⟨_,rfl⟩
  have hcur:qdL l i=⟨t.text,t.line,t.col,[⟨[],[]⟩],[]⟩:=by rw[ht];rfl
  rw[<-ht]at e0 e1 e2 e3 e4;have e3':rd wz H4 lc (o+i*5+2+1)= .int .i64 t.col:=e3;refine qaj 20 [] [0,1,4,5,6] mixed (by kernel_rfl) (by rfl) fun K hK=>?_;simp only[Ki,V4,Vw,Vm];simp+decide only[ev,qK,qG,putD,VG,VH,Ka,Kb,↓qaw,qd,↓Uz,Qk,QE,↓YE,qi,qbv,↓qay,ZF,qj qam,↓Wm,qA Tryz.underlying39 Yl,Zf,qbw,qj ag9,fa44_2,Qz ag42 sz42,↓qjh,↓Xz,qpt,evP,Vj,Qj wz eb_p,Qd,VJ,QL,Qw,Xv,allLive,J4,hve,e1,e2,e3,VN,K7];repeat (with_reducible refine And.intro ?_ ?_;· first|trivial|omega|(intro hg;simp only[Ky,JF,Ji,VO,VL,VK,decide_eq_true_eq,decide_eq_false_iff_not,Xd]at hg;omega))
  refine UU (by rfl) ?_;refine Qh (cs:=[.str [], .nilSlice]) (by kernel_rfl) fun k4q17 hk4q17=>?_;have hn_4q17:H4 k4q17=none:=by first|assumption|(simp only[VU]at hk4q17;simp only[hk4q17])
  have hf_4q17:B k4q17=none:=VV hs_H4 hn_4q17;have ne_4q17_p:k4q17≠kp:=VW hn_4q17 eb_p;rw[qa];simp+decide only[ev,qK,qG,putD,VG,VH,Ka,Kb,↓qjh,↓Xz,qnY,evP,Ke,Vj,qgu];refine UU (by rfl) ?_;refine Xb qhT (cs:=[.str [], .int .i64 0, .int .i64 0, .nilSlice, .nilSlice]) (by rfl) fun k4q19 hk4q19=>?_;have ne_4q19_4q17:k4q19≠k4q17:=by simp only[VU]at hk4q19;simp only[hk4q19,ne_eq,not_false_eq_true]
  have hn_4q19:H4 k4q19=none:=by first|assumption|(simp only[VU]at hk4q19;simp only[hk4q19])
  have hf_4q19:B k4q19=none:=VV hs_H4 hn_4q19;have ne_4q19_p:k4q19≠kp:=VW hn_4q19 eb_p;rw[qa];try simp only[qaG]
  refine Qi (by rfl) (by rfl) zqA Yv (by rfl) (by rfl) zqD (Jr _) (by rfl) ?_;simp only[VX,VY];simp+decide only[qa,ev,putD,VG,VH,VI,Ka,setAt,VZ,Kj,Jq,Nat.reduceAdd];apply hK;clear hK K;obtain⟨H5,hH5⟩:∃H5,H5=(H4.set k4q17 ⟨[.str [], .nilSlice],0⟩).set k4q19 ⟨[.str t.text, .int .i64 t.line, .int .i64 t.col, .slice (.own k4q17) 0 1 (.exact 1), .nilSlice],0⟩:=⟨_,rfl⟩
  refine Bq (h':=H5) (by rw[hH5];exact Vh _) ?_;have hS5:=(hS4.lay hn_4q17 ⟨[.str [], .nilSlice],0⟩).lay ((Vf _ _ ne_4q19_4q17).trans hn_4q19) ⟨[.str t.text, .int .i64 t.line, .int .i64 t.col, .slice (.own k4q17) 0 1 (.exact 1), .nilSlice],0⟩;rw[<-hH5]at hS5;simp only[Kh,Je]at hS5;have eb_p:H5 kp=some _:=hS5.at_ (i:=1) rfl;have eb_4q19:H5 k4q19=some _:=hS5.at_ (i:=5) rfl;have hs_H5:Sub B H5:=hS5.in_ (i:=0) rfl;refine awp_rseq [0,1,4,5,6,7,8] (by rfl) fun K hK=>?_;simp+decide only[ev,putD,VG,VH,Ka,Kb,↓qC,qi,WY,↓qI,Qc,qj ag9,Qj wz eb_4q19,VJ,Jq,Qw];refine QS (V:= .tuple [.str (XE t.text).1, .str (XE t.text).2]) (by rfl) (by rfl) (c_forms wz _ t.text) ?_;simp+decide only[qa,ev,putD,VG,VH,VI,Ka,Kb,↓qg,qd,↓Xu,Xk,XA,KY,JN,VJ,Kn,↓qf,qc,VJ,Kn,Jq,Nat.reduceAdd];apply hK;clear hK K;refine awp_rseq [0,1,4,5,6,7,8] (by rfl) fun K hK=>?_;simp+decide only[ev,putD,VG,VH,Ka,Kb,↓qg,qd,↓Qv,Qk,QE,↓qC,qi,qha,↓qI,Qc,qj ag22,Qj wz eb_p,VJ,Kn,Jq,hlo];refine Qh (cs:=[.str (XE t.text).2]) (by kernel_rfl) fun k6q6 hk6q6=>?_;have hn_6q6:H5 k6q6=none:=by first|assumption|(simp only[VU]at hk6q6;simp only[hk6q6])
  have hf_6q6:B k6q6=none:=VV hs_H5 hn_6q6;have ne_6q6_p:k6q6≠kp:=VW hn_6q6 eb_p;have ne_6q6_4q19:k6q6≠k4q19:=VW hn_6q6 eb_4q19;refine ZM (es:=1) (v:=ov) (p:=op) (xs:=O.map strC) (ys:=[strC (XE t.text).2]) (i:=2) (by rfl) (by rfl) Tryz.underlying22 Tryz.underlying22 (fun k e=>by cases e) sz9 by9 ze9 (by rfl) (by decide) (by rfl) hP.open_ rfl (hS5.forget (Vi hn_6q6)) (by rfl) (Bh (Vg _ _ _) (fun x hx=>by rw[VM.1 hx];rfl) (by rfl) (by rfl) (.exact 1) (KM _)) (by rfl) (by simp) (by simp only[Jo,JA];omega) (by simp only[Jo,JA];omega) fun ov2 op2 h6 hov2 hG2 hS6=>?_;simp+decide only[ev,putD,VG,VH,Ka,Kb,↓Qv,Qk,QE,↓qC,qi,qha,Jq];refine Qi (v:=ov2) (by rfl) (by rfl) (hS6.at_ (i:=1) rfl) sz22 hov2.live (by rw[hov2.cells];rfl) (by simp only[KY,JN];omega) (Jr _) (by rw[hov2.cells];simp[QU,hov2.scal]) ?_;simp only[hov2.cells,setAt,VZ,Kj];simp+decide only[qa,putD,VI,Ka];apply hK;clear hK K;obtain⟨H7,hH7⟩:∃H7,H7=h6.set kp (parB3 v i ov2):=⟨_,rfl⟩
  refine Bq (h':=H7) (by rw[hH7];exact Vh _) ?_;have hS7:=hS6.put (i:=1) rfl (parB3 v i ov2);rw[<-hH7]at hS7;simp only[VZ,Kj]at hS7;have eb_p:H7 kp=some _:=hS7.at_ (i:=1) rfl;have hs_H7:Sub B H7:=hS7.in_ (i:=0) rfl;have hwi:IntKind.i64.wrap ((i:Int)+1)=((i+1:Nat):Int):=by rw[wrap_i64 (by omega) (by omega)];omega
  refine awp_rseq [0,1,4,5,6,7,8] (by rfl) fun K hK=>?_;simp+decide only[ev,qK,qG,putD,VG,VH,Ka,Kb,↓qg,qd,↓Qv,Qk,QE,↓qC,qi,Yp,↓qI,Qc,qj ag3,↓qo,qh,qE,cond_false,qz,QW,Qj wz eb_p,VJ,Kn,Jq,QL,hwi];refine Qi (by rfl) (by rfl) zqA sz3 (by rfl) (by rfl) zqD (Jr _) (by rfl) ?_;simp only[VY];simp+decide only[qa,ev,putD,VH,VI,Ka,setAt,VZ,Kj];apply hK;clear hK K;have hS8:=(hS7.put (i:=1) rfl (parB3 v (i+1) ov2)).emp.emp.emp.pick [0,1,2,5,4,6,7,8,3] (by decide) (by simp);refine Bt [0,1,4,5,6,7,8] ?_;have:=hrest hd32 (H7.set kp (parB3 v (i+1) ov2)) B kp k4q19 k0q0 v ov2 (.slice (.own k4q17) 0 1 (.exact 1)) .nilSlice op2 (one k4q17 ⟨[.str [], .nilSlice],0⟩) emp emp emp O i ⟨?_,?_,?_,?_⟩ hF hO hvi
  ·rw[<-ht]at this
   exact this
  ·rw[hcur]
   exact hS8
  ·refine⟨hv,?_,hG2,by omega⟩
   rw[<-ht,Vr];exact hov2
  ·rw[hcur]
   exact⟨⟨[],[],[], .nilSlice,rfl,GrowV.new (xs:=[[AVal.str [], .nilSlice]]) rfl (.inl rfl) (fun x hx=>by rw[VM.1 hx];rfl) (by rfl) rfl, .nil,fun q hq=>by cases hq⟩,⟨[],rfl, .nil,fun b hb=>by cases hb⟩⟩
  ·rw[hcur]
   exact⟨by simp only[JA];omega,fun p hp=>by rw[VM.1 hp];exact Jr _,Jr _⟩
theorem qmh{wz:World}{d:Nat}{c:Cur}{pv bv:AVal}{pp tp bp E H:AHeap}(hc:CurS wz d c pv bv pp tp bp E)(h1:Sub pp H)(h2:Sub tp H)(h3:Sub E H):PhV wz H pv c.phrases:=by
 obtain⟨qs,w,ts,tv,p1,p2,p3,p4⟩:=hc.ph;refine⟨qs++[(⟨w,ts⟩,tv)],by rw[p1,Vr];rfl,by rw[Vr];exact p2.isL h1,fun q hq=>?_⟩;rcases JR.1 hq with z|z
 ·exact(p4 q z).mono h3
 ·rw[VM.1 z];exact p3.isL h2
theorem qmi{wz:World}{d:Nat}{c:Cur}{pv bv:AVal}{pp tp bp E H:AHeap}(hc:CurS wz d c pv bv pp tp bp E)(h1:Sub bp H)(h3:Sub E H):BdV wz (StsV wz d H) H bv c.bodies:=by
 obtain⟨bs,p1,p2,p3⟩:=hc.bd;exact⟨bs,p1,p2.isL h1,fun b hb=>⟨(p3 b hb).1.mono h3,(p3 b hb).2.mono h3⟩⟩
theorem qpf{wz:World}{d:Nat}{c:Cur}{pv bv:AVal}{pp tp bp E:AHeap}{j:Nat}(hc:CurS wz d c pv bv pp tp bp E)(hf:Few c j)(hj:j<=1000000):qrG c.phrases:=by
 obtain⟨qs,w,ts,tv,p1,p2,p3,p4⟩:=hc.ph;exact⟨by rw[p1];simp,Vd hf.1 hj,fun p hp=>Vd (hf.2.1 p hp) hj⟩
theorem qlV{l:List TokC}{c c':Cur}{ph:Str}{j j':Nat}(hf:Few c j)(hne:c.phrases≠[])(hb:c.bodies=[])(h:WT l c ph j= .ok c' j'):Few c' j'/\j<j':=by
 obtain⟨f1,f2,f3⟩:=hf;rw[qec hb]at h;have hp:=Bc.2 hne;split at h
 ·cases h
  refine⟨⟨?_,fun p hp=>?_,by simp only;omega⟩,by omega⟩
  ·simp only[qpG,Jc,List.length_dropLast,JA];omega
  ·simp only[qpG]at hp
   rcases JR.1 hp with z|z
   ·have:=f2 p (List.dropLast_subset _ z);omega
   ·rw[VM.1 z]
    have:=f2 (c.phrases.getLastD ⟨[],[]⟩) (by
     rw[Bu,List.getLast?_eq_some_getLast hne];exact List.getLast_mem hne)
    simp only[Jc,JA];omega
 ·rename_i hz
  split at h
  ·cases h
   refine⟨⟨?_,fun p hp=>?_,by simp only;omega⟩,by omega⟩
   ·simp only[Jc,JA];omega
   ·simp only at hp
    rcases JR.1 hp with z|z
    ·have:=f2 p z;omega
    ·rw[VM.1 z];exact Jr _
  ·cases h
   exact⟨⟨by omega,fun p hp=>by have:=f2 p hp;omega,by omega⟩,by omega⟩
theorem qtp{l:List TokC}{c:Cur}{ph:Str}{j:Nat}(hb:c.bodies=[]):∃c' j',WT l c ph j= .ok c' j':=by
 rw[qec hb];split
 ·exact⟨_,_,rfl⟩
 ·split<;>exact⟨_,_,rfl⟩
theorem tok_le{l:List TokC}{c c':Cur}{ph:Str}{j j':Nat}(hb:c.bodies=[])(hj:j<l.length)(h:WT l c ph j= .ok c' j'):j'<=l.length:=by
 rw[qec hb]at h;have:=qbl l j ph (Bz hj);split at h
 ·cases h;omega
 ·split at h<;>cases h<;>exact this
theorem Few.up{c:Cur}{j j':Nat}(h:Few c j)(hj:j<=j'):Few c j':=⟨Vd h.1 hj,fun p hp=>Vd (h.2.1 p hp) hj,Vd h.2.2 hj⟩
theorem qny{c c':Cur}{j j':Nat}(h:Few c j)(hp:c'.phrases=c.phrases)(hb:c'.bodies.length=c.bodies.length+1)(hj:j<j'):Few c' j':=⟨by rw[hp];exact Vd h.1 (Bz hj),fun p hpm=>by rw[hp]at hpm;exact Vd (h.2.1 p hpm) (Bz hj),by rw[hb];have:=h.2.2;omega⟩
theorem impV_eq(m:Option Str):impV m= .tuple [.str (m.getD []), .bool m.isSome]:=by cases m<;>rfl
structure LoG where
 c:Cur
 j:Nat
 ov:AVal
 pv:AVal
 bv:AVal
 op:AHeap
 pp:AHeap
 tp:AHeap
 bp:AHeap
 E:AHeap
 H:AHeap
theorem isE_in{l:List TokC}{j:Nat}(h:j<l.length):isE l j=decide ((l.getD j noT).kind=6):=by unfold isE;rw[if_pos h]
theorem qrj{l:List TokC}{j:Nat}(h:¬j<l.length):isE l j=true:=by unfold isE;rw[if_neg h]
set_option maxHeartbeats 16000000 in
theorem k_stmB(wz:World)(hm:MaxL wz)(ha:Asp wz)(l:List TokC)(hl:l.length<=65537)(hsh:Short l)(dd:Nat)(hdd:dd<=32)(hd0:0<dd)(hbk:BodK wz l dd)(B:AHeap)(kp ks k4:Nat)(b4:Blk)(v:AVal)(O O0:List Str)(ph bd:Str)(i:Nat)(Q:AVal->AHeap->Prop)(QP:FaultC->Prop)
 (hF:Fair O) (hO:O.length=dd) (hbd:O.getLastD []=bd) (hph1:ph.length<=1000000) (hph2:asciiB ph=true) (hbad0:∀f,LoopRO l dd O ph (qdL l i) (i+1) (.bad f)->QP f)
 (ov pv bv:AVal) (op pp tp bp E H:AHeap) (hI:StI wz l B kp ks k4 b4 v ov pv bv op pp tp bp E O (32-dd) (qdL l i) (i+1) H)
 (hrest:∀(H:AHeap) (ov pv bv:AVal) (op pp tp bp E:AHeap) (c:Cur) (cl:Bool) (j:Nat),StI wz l B kp ks k4 b4 v ov pv bv op pp tp bp E O (32-dd) c j H->i<j->LoopRO l dd O ph (qdL l i) (i+1) (.ok (c,cl) j)->
   Awp Tryz.prog wz ⟨201,[],GP wz 201 [] [] (qjU B QP)⟩ (Wn 9 (qic (Wn 1 (qbZ Tryz.f51)))) (qel (qcf Tryz.prog wz [.cell 4 82] (Q))) [(0, .ptr (.own kp) 0),(4, .ptr (.own k4) 0),(5, .int .i64 i),(6, .ptr (.own ks) 0),(9, .bool cl)] (H)):
 Awp Tryz.prog wz ⟨201,[],GP wz 201 [] [] (qjU B QP)⟩ (Wn 6 (qic (Wn 1 (qbZ Tryz.f51)))) (qel (qcf Tryz.prog wz [.cell 4 82] (Q))) [(0, .ptr (.own kp) 0),(1, .int .i64 dd),(4, .ptr (.own k4) 0),(5, .int .i64 i),(6, .ptr (.own ks) 0),(7, .str ph),(8, .str bd)] (H):=by
 change Awp _ _ _ (Code.seq _ _) _ _ _;refine awp_rseq [0,1,4,5,6,7,8,9] (by rfl) fun K hK=>?_;simp+decide only[qa,ev,qK,qG,putD,VG,VI,Ka,Kb,↓qf,qc];apply hK;clear hK K;refine qF ?_;refine qta ?_;change Awp _ _ _ _ _ _ _;refine qF ?_;refine Qb ?_;refine QN [0,1,4,5,6,7,8,9] (fun g:LoG=>[(0, .ptr (.own kp) 0),(1, .int .i64 dd),(4, .ptr (.own k4) 0),(5, .int .i64 i),(6, .ptr (.own ks) 0),(7, .str ph),(8, .str bd),(9, .bool false)]) (fun g:LoG=>g.H) (fun g:LoG=>StI wz l B kp ks k4 b4 v g.ov g.pv g.bv g.op g.pp g.tp g.bp g.E O (32-dd) g.c g.j g.H/\i<g.j/\∀r,LoopRO l dd O ph g.c g.j r->LoopRO l dd O ph (qdL l i) (i+1) r) (fun g:LoG=>l.length-g.j) ⟨qdL l i,i+1,ov,pv,bv,op,pp,tp,bp,E,H⟩ (by rfl) (Vh _) ⟨hI,Nat.lt_succ_self _,fun r hr=>hr⟩ ?_;rintro⟨c,j,ov,pv,bv,op,pp,tp,bp,E,H⟩ ⟨⟨hS,hP,hC,hfew⟩,hij,hgo⟩;simp only at hS hP hC hfew hij hgo|-
 have eb_p:H kp=some _:=hS.at_ (i:=1) rfl;have eb_s:H ks=some _:=hS.at_ (i:=3) rfl;have ne_p_s:kp≠ks:=hS.ne (i:=1) (j:=3) rfl rfl (by decide);have hs_H:Sub B H:=hS.in_ (i:=0) rfl;have hv:=hP.toks;have hlv:=hv.live;have nv:=Zt hv;have hjl:=hP.at_;have hlo:=hP.open_.live;obtain⟨hpl,hps,hpc⟩:=hC.pv_ok;obtain⟨hbl,hbs,hbc,nb⟩:=hC.bv_len;refine qF ?_;have mcase:(∃(lc:AM.Loc) (o:Nat) (cc:Cap),v= .slice lc o l.length cc/\j<l.length/\decide ((j:Int)<(l.length:Int))=true/\rd wz H lc (o+j*5)= .int .u8 (l.getD j noT).kind.toNat/\decide (((l.getD j noT).kind.toNat:Int)=6)=decide ((l.getD j noT).kind=6)/\(!isE l j)= !decide ((l.getD j noT).kind=6))\/
  (∃(lc:AM.Loc) (o:Nat) (cc:Cap),v=v/\¬j<l.length/\decide ((j:Int)<(l.length:Int))=false/\True/\True/\(!isE l j)=false):=by
  by_cases hlt:j<l.length
  ·obtain⟨lc,o,cc,hve⟩:=ZT hv (by omega)
   have hv2:=hv.mono hs_H;rw[hve]at hv2;exact .inl ⟨lc,o,cc,hve,hlt,by simpa using hlt,(WE hv2 hlt).1,ZY _ 6,by rw[isE_in hlt]⟩
  ·exact .inr ⟨.base 0,0, .exact 0,rfl,hlt,by simpa using hlt,trivial,trivial,by rw[qrj hlt];rfl⟩
 refine WP [0,1,4,5,6,7,8,9,92] mixed (by kernel_rfl) (by rfl) (by rfl) fun K hK=>?_;suffices hM:∀b:Bool,b= !isE l j->K [(0, .ptr (.own kp) 0),(1, .int .i64 dd),(4, .ptr (.own k4) 0),(5, .int .i64 i),(6, .ptr (.own ks) 0),(7, .str ph),(8, .str bd),(9, .bool false),(92, .bool b)] (H) by
  rcases mcase with⟨lc,o,cc,hve,hkl,hkd,e0,hk6,hfin⟩|⟨lc,o,cc,hve,hkl,hkd,e0,hk6,hfin⟩<;>(
   simp+decide only[qa,ev,qK,qG,putD,VG,VH,VI,Ka,Kb,↓qg,qd,↓Qv,Qk,QE,↓qC,qi,Yp,↓qI,Qc,qj ag3,qbv,qj qam,↓QB,Qo,Xr Tryz.underlying39,↓qo,qh,qN,cond_false,qz,Xt,↓Xc,agP,Qs,qW,qP,qH,implies_true,Qf,QO,forall_const,false_implies,Zl,VP,UB,↓qbS,↓Xe,↓XJ,Xp,ZL,↓Zp,qA Tryz.underlying39 Yl,WZ,qj qjH,↓QJ,qE,WW,↓QC,Qr,Qe,QH,Qj wz eb_p,VJ,Kn,Jq,QL,Xv,hlv,nv,hve,hkd,e0,hk6,VN,K7,QO,Qf,VP];repeat (with_reducible refine And.intro ?_ ?_;· first|trivial|omega|(intro hg;simp only[Ky,JF,Ji,VO,VL,VK,decide_eq_true_eq,decide_eq_false_iff_not,Xd]at hg;omega))
   exact hM _ hfin.symm)
 intro b hb_9;apply hK;clear hK K;refine qM (b:=_) rfl (fun hb1=>?_) (fun hb1=>?_)
 ·skip
  have hE0:isE l j=false:=by
   have z:(!isE l j)=true:=by rw[<-hb_9];exact hb1
   simpa using z
  have hjlt:j<l.length:=by
   by_cases z:j<l.length
   ·exact z
   ·rw[qrj z]at hE0;cases hE0
  obtain⟨lc,o,cc,hve⟩:=ZT hv (by omega);have hv2:=hv.mono hs_H;rw[hve]at hv2;obtain⟨e0,e1,e2,e3,e4⟩:=WE hv2 hjlt;obtain⟨t,ht⟩:∃t,t=l.getD j noT:=⟨_,rfl⟩
  rw[<-ht]at e0 e1 e2 e3 e4;have htx:t.text.length<=1000000:=by rw[ht];exact hsh.at hjlt
  have hEV:qai l j=qcV t:=by unfold qai;rw[ht]
  have hVV:isV l j=Ug t:=by unfold isV;rw[if_pos hjlt,ht]
  refine qV ?_;change Awp _ _ _ _ _ _ _;refine Qb ?_;refine qaj 11 [] [0,1,4,5,6,7,8,9,10] mixed (by kernel_rfl) (by rfl) fun K hK=>?_;simp only[Ki,V4,Vw,Vm];simp+decide only[ev,putD,VG,VH,Ka,Kb,↓qaw,qd,↓Uz,Qk,QE,↓YE,qi,qbv,↓qay,ZF,qj qam,Yp,qj ag3,↓Wm,qA Tryz.underlying39 Yl,Zf,Qz qhZ Yl,Qj wz eb_p,Qd,VJ,Kn,Jq,YP,QL,Qw,Xv,allLive,J4,hve,e0,e1,e2,e3,e4,VN,K7];repeat (with_reducible refine And.intro ?_ ?_;· first|trivial|omega|(intro hg;simp only[Ky,JF,Ji,VO,VL,VK,decide_eq_true_eq,decide_eq_false_iff_not,Xd]at hg;omega))
  refine UU (by rfl) ?_;refine Xb qdo (cs:=[.int .u8 0, .str [], .int .i64 0, .int .i64 0, .bool false]) (by rfl) fun k10q10 hk10q10=>?_;have hn_10q10:H k10q10=none:=by first|assumption|(simp only[VU]at hk10q10;simp only[hk10q10])
  have hf_10q10:B k10q10=none:=VV hs_H hn_10q10;have ne_10q10_p:k10q10≠kp:=VW hn_10q10 eb_p;have ne_10q10_s:k10q10≠ks:=VW hn_10q10 eb_s;rw[qa];try simp only[qaG]
  refine Qi (by rfl) (by rfl) zqA Yl (by rfl) (by rfl) zqD (Jr _) (by rfl) ?_;simp only[VX,VY];simp+decide only[qa,ev,putD,VG,VH,VI,Ka,setAt,VZ,Kj,Jq,Nat.reduceAdd];apply hK;clear hK K;refine qF ?_;obtain⟨H11,hH11⟩:∃H11,H11=H.set k10q10 ⟨[.int .u8 t.kind.toNat, .str t.text, .int .i64 t.line, .int .i64 t.col, .bool t.left],0⟩:=⟨_,rfl⟩
  refine Bq (h':=H11) (by rw[hH11];exact Vh _) ?_;have hS1:=hS.lay hn_10q10 ⟨[.int .u8 t.kind.toNat, .str t.text, .int .i64 t.line, .int .i64 t.col, .bool t.left],0⟩;rw[<-hH11]at hS1;simp only[Kh,Je]at hS1;have eb_p:H11 kp=some _:=hS1.at_ (i:=1) rfl;have eb_s:H11 ks=some _:=hS1.at_ (i:=3) rfl;have eb_10q10:H11 k10q10=some _:=hS1.at_ (i:=9) rfl;have hs_H11:Sub B H11:=hS1.in_ (i:=0) rfl;obtain⟨hbd1,hbd2⟩:=qgZ hF;rw[hbd]at hbd1 hbd2;obtain⟨S,hSS⟩:∃S,S=QZ l j bd:=⟨_,rfl⟩
  have hSle:=qbl l j bd hjl;rw[<-hSS]at hSle;have hSO:QZ l j (O.getLastD [])=S:=by rw[hbd,hSS]
  have hwj:IntKind.i64.wrap ((j:Int)+1)=((j+1:Nat):Int):=by rw[wrap_i64 (by omega) (by omega)];omega
  refine awp_rseq [0,1,4,5,6,7,8,9,10,11] (by rfl) fun K hK=>?_;simp+decide only[ev,putD,VG,VH,Ka,Kb,↓qI,Qc,Qz qhZ Yl,Qj wz eb_10q10,Qd,VJ,Kn,Jq,Nat.reduceAdd,YP,QL,Qw,allLive,J4];refine QS (V:= .str (qcV t)) (by rfl) (by rfl) (qrz wz hm _ t htx) ?_;simp+decide only[qa,ev,putD,VG,VH,VI,Ka,Kb,↓qf,qc];apply hK;clear hK K;refine awp_rseq [0,1,4,5,6,7,8,9,10,11,106] (by rfl) fun K hK=>?_;simp+decide only[qa,ev,qK,qG,putD,VG,VH,VI,Ka,Kb,↓qg,qd,↓qo,qh,Qy,cond_false,Qp,Um];apply hK;clear hK K;refine qM (b:=_) rfl (fun hb2=>?_) (fun hb2=>?_)
  ·try simp only[decide_eq_false_iff_not,Ji]at hb2
   refine qF ?_;refine awp_rseq [0,4,5,6,9,110] (by rfl) fun K hK=>?_;simp+decide only[qa,ev,putD,VG,VH,VI,Ka,Kb,↓qg,qd,↓qC,qi,WY,↓qI,Qc,qj ag9,↓qo,qh,qN,cond_false,Qp,XP,Qj wz eb_s,VJ,Jq,Qw];apply hK;clear hK K;refine qM (b:=_) rfl (fun hb3=>?_) (fun hb3=>?_)
   ·try simp only[decide_eq_true_eq]at hb3
    have hZ1:StI wz l B kp ks k4 b4 v ov pv bv op pp tp bp E O (32-dd) c (j+1) (H11.set kp (parB3 v (j+1) ov)):=⟨(hS1.put (i:=1) rfl (parB3 v (j+1) ov)).pick [0,1,2,3,4,5,6,7,8] (by decide) (by simp),⟨hv,hP.open_,hP.isG,by omega⟩,hC,hfew.up (Nat.le_succ _)⟩
    have hZ2:=hgo _ (LoopR.endS hE0 (hEV.trans hb3) (by rw[hEV];exact hb2));have hZ3:i<j+1:=by omega
    refine awp_rseq [0,4,5,6,9] (by rfl) fun K hK=>?_;simp+decide only[qa,ev,qK,qG,putD,VG,VI,Ka,Kb,↓qf,qc];apply hK;clear hK K;refine Xa [0,4,5,6,9] (by rfl) ?_;simp+decide only[ev,qK,qG,putD,VG,VH,Ka,Kb,↓qg,qd,↓Qv,Qk,QE,↓qC,qi,Yp,↓qI,Qc,qj ag3,↓qo,qh,qE,cond_false,qz,QW,Qj wz eb_p,VJ,Kn,Jq,QL,hwj];refine Qi (by rfl) (by rfl) zqA sz3 (by rfl) (by rfl) zqD (Jr _) (by rfl) ?_;simp only[VY];simp+decide only[qa,ev,putD,VH,VI,Ka,setAt,VZ,Kj];change Awp _ _ _ _ _ _ _;refine QI ?_;change Awp _ _ _ _ _ _ _;refine Bt [0,4,5,6,9] ?_;exact hrest _ _ _ _ _ _ _ _ _ _ _ _ hZ1 hZ3 hZ2
   ·try simp only[decide_eq_false_iff_not]at hb3
    have hZ1:StI wz l B kp ks k4 b4 v ov pv bv op pp tp bp E O (32-dd) c j H11:=⟨hS1.pick [0,1,2,3,4,5,6,7,8] (by decide) (by simp),hP,hC,hfew⟩
    have hZ2:=hgo _ (LoopR.endO hE0 (fun z=>hb3 (hEV.symm.trans z)) (by rw[hEV];exact hb2));have hZ3:=hij;refine qV ?_;change Awp _ _ _ _ _ _ _;refine QI ?_;change Awp _ _ _ _ _ _ _;refine Bt [0,4,5,6,9] ?_;exact hrest _ _ _ _ _ _ _ _ _ _ _ _ hZ1 hZ3 hZ2
  ·try simp only[decide_eq_true_eq,VK]at hb2
   have hEn:qai l j=[]:=by rw[hEV];exact hb2
   refine qV ?_;change Awp _ _ _ _ _ _ _;refine qF ?_;refine awp_rseq [0,1,4,5,6,7,8,9,10,12,13] (by rfl) fun K hK=>?_;simp+decide only[ev,putD,VG,VH,Ka,Kb,↓qg,qd];refine QS (V:= .tuple [.str S.1, .int .i64 S.2]) (by rfl) (by rfl) (by rw[hSS];exact qdM wz ha _ (.own kp) 0 v l j bd (Qj wz eb_p 0) (Qj wz eb_p 1) (hv.mono zqB) (by omega) hjl hbd1 hbd2) ?_;simp+decide only[qa,ev,putD,VG,VH,VI,Ka,Kb,↓qg,qd,↓Xu,Xk,XA,KY,JN,VJ,Kn,↓qf,qc,VJ,Kn,Jq,Nat.reduceAdd];apply hK;clear hK K;refine awp_rseq [0,1,4,5,6,7,8,9,10,12,13,125] (by rfl) fun K hK=>?_;simp+decide only[qa,ev,qK,qG,putD,VG,VH,VI,Ka,Kb,↓qg,qd,↓qo,qh,qE,cond_false,qz,Yk];apply hK;clear hK K;refine qM (b:=_) rfl (fun hb4=>?_) (fun hb4=>?_)
   ·try simp only[decide_eq_true_eq]at hb4
    have hdj:[B,one k4 b4].Pairwise disj:=(hS1.pick [0,8] (by decide) (by simp)).2;have hcall:=hbk H11 (WB [B,one k4 b4]) kp ks v ov bv pv op pp tp bp E O c (S.1) S.2 j (Sep.fold (ps:=[B,one k4 b4]) (hS1.pick [0,8,1,2,3,4,5,6,7] (by decide) (by simp))) ⟨hv.mono (XI hdj B (by simp)),hP.open_,hP.isG,hjl⟩ hC hF hO (by omega) (.inl (by omega)) hfew;by_cases hbad:∃f,BodyRO l dd O c (S.1) S.2 j (.bad f)
    ·skip
     refine qF ?_;refine Yd 4 (by rfl) (by rfl) ?_;simp only[Ki,V4];simp+decide only[qa,ev,putD,VG,VH,Ka,Kb,↓qg,qd];refine⟨⟨_,_,by rfl,?_⟩,by intro i;first|trivial|exact .inr trivial|exact .inr rfl⟩;obtain⟨f,hf⟩:=hbad;refine(hcall.bad fun x h' ⟨_,c',j',_,_,_,_,_,y,_⟩=>by cases y.one hf).mono (fun _ _ q=>q) fun x h' ⟨f',q1,q2,q3⟩=>⟨f',hbad0 _ (hgo _ (LoopR.bodyBad hE0 hEn (by rw[hSO];omega) (by rw[hSO];exact q1))),q2,(XI hdj B (by simp)).trans q3⟩
    refine awp_rseq [0,1,4,5,6,7,8,9] (by rfl) fun K hK=>?_;simp+decide only[ev,putD,VG,VH,Ka,Kb,↓qg,qd];refine qY (by rfl) (by rfl) (hcall.ok fun x h' ⟨f,q,_⟩=>hbad ⟨f,q⟩) fun x18q4 h18q4 hx18q4=>?_;obtain⟨rfl,c',j',ov',op',bv',bp',E',hR,hjj,hp1,hp2,hp3,hp4,hbn,hC',hP',hS'⟩:=hx18q4;have hS':=(hS'.unfold hdj).pick [0,2,3,4,5,6,7,8,1] (by decide) (by simp);have hLoop:∃(c2:Cur) (j2:Nat) (ov2 pv2 bv2:AVal) (op2 pp2 tp2 bp2 E2:AHeap),StI wz l B kp ks k4 b4 v ov2 pv2 bv2 op2 pp2 tp2 bp2 E2 O (32-dd) c2 j2 h18q4/\j<j2/\∀r,LoopRO l dd O ph c2 j2 r->LoopRO l dd O ph (qdL l i) (i+1) r:=⟨c',j',ov',pv,bv',op',pp,tp,bp',E',⟨hS',⟨hv,hP'.open_,hP'.isG,hP'.at_⟩,hC',qny hfew hp1 hbn hjj⟩,hjj,fun r hr=>hgo r (LoopR.body hE0 hEn (by rw[hSO];omega) (by rw[hSO];exact hR) hr)⟩
    simp+decide only[qa,putD,VG,VI,Ka];apply hK;clear hK K;refine QI ?_;obtain⟨c2,j2,ov2,pv2,bv2,op2,pp2,tp2,bp2,E2,g1,g2,g3⟩:=hLoop;exact⟨⟨c2,j2,ov2,pv2,bv2,op2,pp2,tp2,bp2,E2,_⟩,rfl,Vh _,⟨g1,by simp only;omega,g3⟩,by have:=g1.par.at_;simp only;omega⟩
   ·try simp only[decide_eq_false_iff_not]at hb4
    have hS0:(QZ l j (O.getLastD [])).2=0:=by rw[hSO];omega
    refine qV ?_;change Awp _ _ _ _ _ _ _;refine qF ?_;refine awp_rseq [0,1,4,5,6,7,8,9,10,14,15] (by rfl) fun K hK=>?_;simp+decide only[ev,putD,VG,VH,Ka,Kb,↓qI,Qc,Qz qeJ Yv,Qj wz eb_s,Qd,VJ,Kn,Jq,Nat.reduceAdd,QL,Qw,allLive,J4,hpl,hbl];refine qY (by rfl) (by rfl) (qpp wz ha _ c pv bv (32-dd) (qmh hC (hS1.in_ (i:=4) rfl) (hS1.in_ (i:=5) rfl) (hS1.in_ (i:=7) rfl)) (qmi hC (hS1.in_ (i:=6) rfl) (hS1.in_ (i:=7) rfl)) (by have:=hfew.2.2;omega) (qpf hC hfew (by omega))) fun x19q1 h19q1 hx19q1=>?_;obtain⟨rfl,hs19⟩:=hx19q1;rw[impV_eq];obtain⟨m,hmm⟩:∃m,m=Yc QV c:=⟨_,rfl⟩
    rw[<-hmm];have hS19:=hS1.forget hs19;have hs_h19q1:Sub B h19q1:=Ba zqC hs19;have hr_h19q1:Sub H11 h19q1:=Ba zqC hs19;have eb_p:=hs19 kp _ zqA;have eb_s:=hs19 ks _ zqA;have eb_10q10:=hs19 k10q10 _ zqA;simp+decide only[qa,ev,putD,VG,VH,VI,Ka,Kb,↓qg,qd,↓Xu,Xk,XA,KY,JN,VJ,Kn,↓qf,qc,VJ,Kn,Jq,Nat.reduceAdd];apply hK;clear hK K;refine awp_rseq [0,1,4,5,6,7,8,9,10,14,140] (by rfl) fun K hK=>?_;simp+decide only[ev,putD,VG,VH,Ka,Kb,↓qg,qd,↓XJ,Xp,ZL,agP,qW,qP,qH,implies_true,J4,Qz qhZ Yl,Qj wz eb_10q10,Qd,VJ,Kn,Jq,Nat.reduceAdd,YP,QL,Qw,allLive,J4]
    (refine Yh (V:= .bool (Ug t)) (f:=_) (cap:=_) (xs:=_) (by first|rfl|(simp+decide only[gv,qW,VH,Ka,Xm,qP])) (fun hg=>⟨rfl,?_⟩) (fun hg=>qgi wz hm _ t htx) ?_;· (simp+decide only[gv,qW,VH,Ka,qH]at hg;simp+decide only[evs,ev,VH,Ka,hg,Qf,Jz,Ke,Vj]<;>try rfl))
    simp+decide only[qa,ev,qK,qG,putD,VG,VH,VI,Ka,Kb,gv,qW,qH,↓QC,Qr,Qe,QT,QH];apply hK;clear hK K;refine qM (b:=_) rfl (fun hb5=>?_) (fun hb5=>?_)
    ·try simp only[Ky]at hb5
     have hVb:isV l j=true:=by rw[hVV];exact hb5.2
     obtain⟨w',hw'⟩:=Option.isSome_iff_exists.1 hb5.1;have hwg:m.getD []=w':=by rw[hw'];rfl
     have himp:Yc QV c=some (m.getD []):=by rw[hwg,<-hw',hmm]
     have hdj:[B,one k4 b4].Pairwise disj:=(hS19.pick [0,8] (by decide) (by simp)).2;have hcall:=hbk h19q1 (WB [B,one k4 b4]) kp ks v ov bv pv op pp tp bp E O c (m.getD []) 0 j (Sep.fold (ps:=[B,one k4 b4]) (hS19.pick [0,8,1,2,3,4,5,6,7] (by decide) (by simp))) ⟨hv.mono (XI hdj B (by simp)),hP.open_,hP.isG,hjl⟩ hC hF hO (by omega) (.inr hVb) hfew;by_cases hbad:∃f,BodyRO l dd O c (m.getD []) 0 j (.bad f)
     ·skip
      refine qF ?_;refine Yd 3 (by rfl) (by rfl) ?_;simp only[Ki,V4];simp+decide only[qa,ev,putD,VG,VH,Ka,Kb,↓qg,qd];refine⟨⟨_,_,by rfl,?_⟩,by intro i;first|trivial|exact .inr trivial|exact .inr rfl⟩;obtain⟨f,hf⟩:=hbad;refine(hcall.bad fun x h' ⟨_,c',j',_,_,_,_,_,y,_⟩=>by cases y.one hf).mono (fun _ _ q=>q) fun x h' ⟨f',q1,q2,q3⟩=>⟨f',hbad0 _ (hgo _ (LoopR.implBad hE0 hEn hS0 hVb himp q1)),q2,(XI hdj B (by simp)).trans q3⟩
     refine awp_rseq [0,1,4,5,6,7,8,9] (by rfl) fun K hK=>?_;simp+decide only[ev,putD,VG,VH,Ka,Kb,↓qg,qd];refine qY (by rfl) (by rfl) (hcall.ok fun x h' ⟨f,q,_⟩=>hbad ⟨f,q⟩) fun x21q3 h21q3 hx21q3=>?_;obtain⟨rfl,c',j',ov',op',bv',bp',E',hR,hjj,hp1,hp2,hp3,hp4,hbn,hC',hP',hS'⟩:=hx21q3;have hS':=(hS'.unfold hdj).pick [0,2,3,4,5,6,7,8,1] (by decide) (by simp);have hLoop:∃(c2:Cur) (j2:Nat) (ov2 pv2 bv2:AVal) (op2 pp2 tp2 bp2 E2:AHeap),StI wz l B kp ks k4 b4 v ov2 pv2 bv2 op2 pp2 tp2 bp2 E2 O (32-dd) c2 j2 h21q3/\j<j2/\∀r,LoopRO l dd O ph c2 j2 r->LoopRO l dd O ph (qdL l i) (i+1) r:=⟨c',j',ov',pv,bv',op',pp,tp,bp',E',⟨hS',⟨hv,hP'.open_,hP'.isG,hP'.at_⟩,hC',qny hfew hp1 hbn hjj⟩,hjj,fun r hr=>hgo r (LoopR.impl hE0 hEn hS0 hVb himp hR hr)⟩
     simp+decide only[qa,putD,VG,VI,Ka];apply hK;clear hK K;refine QI ?_;obtain⟨c2,j2,ov2,pv2,bv2,op2,pp2,tp2,bp2,E2,g1,g2,g3⟩:=hLoop;exact⟨⟨c2,j2,ov2,pv2,bv2,op2,pp2,tp2,bp2,E2,_⟩,rfl,Vh _,⟨g1,by simp only;omega,g3⟩,by have:=g1.par.at_;simp only;omega⟩
    ·try simp only[VO]at hb5
     have hnI:isV l j=true->Yc QV c=none:=fun z=>by
      rw[<-hmm];cases hm0:m with
      |none=>rfl
      |some w'=>
       exfalso;rw[hVV]at z;rcases hb5 with y|y
       ·rw[hm0]at y;cases y
       ·rw[z]at y;cases y
     refine qV ?_;change Awp _ _ _ _ _ _ _;refine qF ?_;refine awp_rseq [0,1,4,5,6,7,8,9,150] (by rfl) fun K hK=>?_;simp+decide only[ev,putD,VG,VH,Ka,Kb,↓qI,Qc,Qz qhZ Yl,Qj wz eb_10q10,Qd,VJ,Kn,Jq,Nat.reduceAdd,YP,QL,Qw,allLive,J4];refine QS (V:= .bool (Ug t)) (by rfl) (by rfl) (qgi wz hm _ t htx) ?_;simp+decide only[ev,putD,VG,VH,Ka,Kb,↓qg,qd,↓Xc,agP,Qs,qW,qP,qU,implies_true]
     (refine Yh (V:= .bool (qdF l O j)) (f:=_) (cap:=_) (xs:=_) (by first|rfl|(simp+decide only[gv,qW,VH,Ka,Xm,qP])) (fun hg=>⟨rfl,?_⟩) (fun hg=>c_outer wz ha _ kp v ov l j O eb_p (hv.mono zqB) (hP.open_.isL (hS19.in_ (i:=2) rfl)) hF (by omega) (by omega) (by omega) hjl) ?_;· (simp+decide only[gv,qW,VH,Ka,qU]at hg;simp+decide only[evs,ev,VH,Ka,hg,Qf,Jz,Ke,Vj]<;>try rfl))
     simp+decide only[qa,ev,qK,qG,putD,VG,VH,VI,Ka,Kb,gv,qW,qU,↓QC,Qr,Qe,XZ,XO];apply hK;clear hK K;refine qM (b:=_) rfl (fun hb6=>?_) (fun hb6=>?_)
     ·try simp only[JF]at hb6
      have hZ1:StI wz l B kp ks k4 b4 v ov pv bv op pp tp bp E O (32-dd) c j h19q1:=⟨hS19.pick [0,1,2,3,4,5,6,7,8] (by decide) (by simp),hP,hC,hfew⟩
      have hZ2:=hgo _ (LoopR.leave hE0 hEn hS0 hnI (by rw[hVV];exact hb6));have hZ3:=hij;refine QI ?_;change Awp _ _ _ _ _ _ _;refine Bt [0,4,5,6,9] ?_;exact hrest _ _ _ _ _ _ _ _ _ _ _ _ hZ1 hZ3 hZ2
     ·try simp only[VL]at hb6
      have hnV:isV l j=false:=by rw[hVV];exact hb6.1
      have hdj:[B,one k4 b4].Pairwise disj:=(hS19.pick [0,8] (by decide) (by simp)).2;have hu:=XI hdj;have hS20:=Sep.fold (ps:=[B,one k4 b4]) (hS19.pick [0,8,1,2,3,4,5,6,7] (by decide) (by simp));refine qV ?_;change Awp _ _ _ _ _ _ _;by_cases hbb:c.bodies≠[]
      ·skip
       refine Yd 2 (by rfl) (by rfl) ?_;simp only[Ki,V4];simp+decide only[qa,ev,putD,VG,VH,Ka,Kb,↓qg,qd];refine⟨⟨_,_,by rfl,?_⟩,by intro i;first|trivial|exact .inr trivial|exact .inr rfl⟩;refine(c_tokBad wz _ (WB [B,one k4 b4]) kp ks v ov bv pv op pp tp bp E c (32-dd) j l ph hS20 (hv.mono (hu B (by simp))) hC (by omega) hjl hbb).mono (fun _ _ q=>q) fun x h' ⟨q1,q2⟩=>⟨_,hbad0 _ (hgo _ (LoopR.tokBad hE0 hEn hS0 hnV hb6.2 (by unfold WT;rw[if_pos hbb]))),q1,Ba (hS19.in_ (i:=0) rfl) q2⟩
      refine Xa [0,1,4,5,6,7,8,9] (by rfl) ?_;simp+decide only[ev,putD,VG,VH,Ka,Kb,↓qg,qd];refine qY (by rfl) (by rfl) (c_tokOk wz ha _ (WB [B,one k4 b4]) kp ks v ov bv pv op pp tp bp E c _ (32-dd) j _ l ph hS20 (hv.mono (hu B (by simp))) hC (by omega) hjlt (Decidable.not_not.1 hbb) hph1 hph2 (qtp (Decidable.not_not.1 hbb)).choose_spec.choose_spec hfew hlo) fun x23q2 h23q2 hx23q2=>?_;obtain⟨rfl,pv',pp',tp',E',hC',hS'⟩:=hx23q2;have hS':=(hS'.unfold hdj).pick [0,2,3,4,5,6,7,8,1] (by decide) (by simp);have hok:=(qtp (l:=l) (ph:=ph) (j:=j) (Decidable.not_not.1 hbb)).choose_spec.choose_spec;obtain⟨hfw,hjj⟩:=qlV hfew (qpf hC hfew (by omega)).1 (Decidable.not_not.1 hbb) hok;have hLoop:∃(c2:Cur) (j2:Nat) (ov2 pv2 bv2:AVal) (op2 pp2 tp2 bp2 E2:AHeap),StI wz l B kp ks k4 b4 v ov2 pv2 bv2 op2 pp2 tp2 bp2 E2 O (32-dd) c2 j2 h23q2/\j<j2/\∀r,LoopRO l dd O ph c2 j2 r->LoopRO l dd O ph (qdL l i) (i+1) r:=⟨_,_,ov,pv',bv,op,pp',tp',bp,E',⟨hS',⟨hv,hP.open_,hP.isG,tok_le (Decidable.not_not.1 hbb) hjlt hok⟩,hC',hfw⟩,hjj,fun r hr=>hgo r (LoopR.tok hE0 hEn hS0 hnV hb6.2 hok hr)⟩
      simp+decide only[qa,putD,VG,VI,Ka];try simp only[qR,Zg]
      obtain⟨c2,j2,ov2,pv2,bv2,op2,pp2,tp2,bp2,E2,g1,g2,g3⟩:=hLoop;exact⟨⟨c2,j2,ov2,pv2,bv2,op2,pp2,tp2,bp2,E2,_⟩,rfl,Vh _,⟨g1,by simp only;omega,g3⟩,by have:=g1.par.at_;simp only;omega⟩
 ·skip
  have hE0:isE l j=true:=by
   have z:(!isE l j)=false:=by rw[<-hb_9];exact hb1
   simpa using z
  have hZ1:StI wz l B kp ks k4 b4 v ov pv bv op pp tp bp E O (32-dd) c j H:=⟨hS,hP,hC,hfew⟩
  have hZ2:=hgo _ (LoopR.stop hE0);have hZ3:=hij;refine QI ?_;change Awp _ _ _ _ _ _ _;refine Bt [0,4,5,6,9] ?_;exact hrest _ _ _ _ _ _ _ _ _ _ _ _ hZ1 hZ3 hZ2
end Go.Proofs.YtgiadjbiimkbiaaGreatDoor
