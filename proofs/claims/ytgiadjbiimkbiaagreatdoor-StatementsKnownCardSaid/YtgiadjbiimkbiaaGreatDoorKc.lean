/-
  Texts of this proof, joined: SnH, SnI, BmJ, SnJ, SnK, SmE, SnL, SnM, SnN, SoA, SoB, SoC, SoD, SoE, SoF, SoG, SoH, SoI, SoJ, SoK, SoL, SoM, SoN, SoO, SoP.
  Conditions: none.
-/
import Derived.Test.YtgiadjbiimkbiaaGreatDoorKb
import Derived.Laws.EntriesVeiled
import Derived.WalkSmall
import Derived.Recover
set_option linter.unusedSimpArgs false
set_option linter.unnecessarySimpa false
set_option linter.unusedVariables false
open Array renaming getD_eq_getD_getElem?->Ku,getElem?_push->V5,getElem?_eq_some_iff->V6,replicate->Ju,getElem?_append->Jv,getElem?_replicate->V8
open List renaming size_toArray->KC,length_cons->KX,mem_cons_self->Je,mem_cons_of_mem->Jf,eq_nil_of_length_eq_zero->Kg,mem_map->JK,mem_cons->KW,getD->Ko,getElem?_eq_none->Kr,cons_append->Kh,range_eq_range'->V9,range'_append_1->Ba,getElem?_append_left->Bb,range'_succ->Bc,getElem?_cons_zero->Kz,getElem?_cons_succ->KM,take_succ_cons->Ki,drop_succ_cons->Vr,take_zero->Bh,map_eq_nil_iff->Vz,length_map->Jn,drop_zero->Vn,drop_eq_getElem_cons->Vb,any_cons->Bj,length_take->K4,getElem?_eq_getElem->JB,getElem_mem->Vw,drop_of_length_le->Bl,take_add_one->Bn,zipIdx_append->Bo,map_append->JI,flatten_append->Bp,map_cons->Ke,find?_cons->Bq,append_assoc->K9,length_append->Jb,append_nil->JE,length_pos_iff->Bu,mem_append->JV,length_nil->JD,getElem?_eq_some_iff->Jw,pairwise_iff_getElem->BF,mem_singleton->V4,pairwise_append->BG,length_set->BH,getElem_set->BI,getElem?_set->K3,pairwise_cons->BJ,mem_append_left->Vd,flatten_cons->Vp,mem_map_of_mem->BK,drop_length->Va,set_append_right->BM,length_singleton->JF,getElem?_append_right->BN,getLastD_eq_getLast?->BQ,set_cons_zero->VE,set_cons_succ->Kj,mem_or_eq_of_mem_set->BU,map_set->BV,getD_cons_zero->VX,getD_cons_succ->Kn
open Nat renaming le_refl->KL,add_assoc->Kw,eq_zero_or_pos->V7,le_trans->Ve,add_zero->K6,zero_le->Jq,le_of_not_lt->Kt,zero_add->Jp,le_of_ble_eq_true->VY,mul_one->Bi,lt_or_ge->KT,zero_mul->K7,mul_div_cancel->Vm,pos_of_ne_zero->Vl,mul_mod_left->BC,mul_eq_zero->BD,le_of_lt->BS,succ_mul->Vq
open Bool renaming false_eq_true->KV,and_eq_true->Ky,false_or->VS,not_not->VH,true_and->VN,false_and->VO,not_eq_true'->Jh,or_eq_false_iff->VI,and_eq_false_imp->Bt,and_true->J6,not_eq_true->BP,or_eq_true->JH,not_eq_false'->VJ
open Go.AM.PMap renaming le_trans->JP
open Go.AM.AHeap renaming set_none->Bd,ne_some->Bf,set_set->Bg,set_ne->Vg,set_same->Vh,del->BA
open Go.AM.Sub renaming none->Be,set->Vj,refl->Vi,trans->Br
open Int renaming toNat_natCast->VD,toNat_zero->Bv
open Go.AM.Slots renaming get->VZ
open Go.AM.IsL renaming own->Bz
open Go.AM.AVal renaming cells->BL
open Go.AM.Awp renaming forget->BO,keep->JR
open Go.Stm.BodyR renaming bare->BR
namespace Go.Proofs.YtgiadjbiimkbiaaGreatDoor
open Go.AM
open Go.Proofs
open Go.Col (Str FaultC okF)
open Go.Tok (TokC)
open Go.Stm
open Go.RowKit
open Go.Shelf
set_option maxRecDepth 100000
attribute [local go_sem] Oper.semAt_some
structure SpJ(W0:World)(bS:Nat)(rec:LoopState->Option Code->Loop)(r:Str)(W:World):Prop where
 os:W.os=W0.os
 tape:W.tape=W0.tape
 output:W.output=W0.output
 size:W0.heap.size+2<=W.heap.size
 block:∀k,k<W0.heap.size->k≠bS->W.heap[k]?=W0.heap[k]?
 cell:W.heap[bS]?=some (.cells #[.string ⟨⟨r⟩⟩] 9 (0,0))
 recd:W.heap[W0.heap.size+1]?=some (.loop (rec .ready none))
 dfr:W.heap[W0.heap.size]?=some (.deferred (some []))
theorem heap_setCell_same(W:World)(b:Nat)(c v:Value)(t:TypeId)(h:W.heap[b]?=some (.cells #[c] t (0,0))):(W.setCell ⟨b,0,none⟩ v).heap[b]?=some (.cells #[v] t (0,0)):=by
 simp only[if_true,World.setCell,Array.getElem?_modify,h];rfl
theorem cell_of_one{W:World}{b:Nat}{c:Value}{t:TypeId}(h:W.heap[b]?=some (.cells #[c] t (0,0))):W.cell? ⟨b,0,none⟩=some c/\W.frozen? ⟨b,0,none⟩=false:=by
 constructor
 ·simp[World.cell?,h]
 ·simp[World.frozen?,h]
theorem qki{w V:World}{B:Nat}{s:Str}{n:Nat}{T:Array Value}(HB:Hid (B=w.heap.size))(h1:V.heap[B+1]?=some (.cells #[.string ⟨⟨s⟩⟩] 9 (0,0)))(h2:V.heap[B+2]?=some (.cells #[.int .i64 n] 3 (0,0)))
 (hD:V.heap[B+7]?=some (.deferred (some []))) (hB:Below B w V) (t4:T.getD 4 undef= .pointer (some ⟨B+1,0,none⟩):=by rfl) (t5:T.getD 5 undef= .pointer (some ⟨B+2,0,none⟩):=by rfl):
 bodyPostM Fence.wide 0 Tryz.prog Tryz.f72 (fun e w'=>e= .returned (.tuple #[.string ⟨⟨s⟩⟩, .int .i64 n])/\Below w.heap.size w w') .ret {tmps:=T,defers:=[{target:= .collected (B+7),args:= #[]}]} V:=by
 refine⟨by simp, .inl ⟨_,_,rfl,run_takeDeferred hD,?_⟩⟩;obtain⟨c1,-⟩:=cell_of_one ((World.putObj_heap_other (o:= .deferred none) (show B+1≠B+7 by omega)).trans h1);obtain⟨c2,-⟩:=cell_of_one ((World.putObj_heap_other (o:= .deferred none) (show B+2≠B+7 by omega)).trans h2);have hB':=HB.out;refine⟨.tuple #[.string ⟨⟨s⟩⟩, .int .i64 n],?_,rfl,?_⟩
 ·rw[Ku]at t4 t5
  simp[results,Tryz.f72,go_sem,c1,c2,t4,t5]
 ·rw[<-hB']
  exact⟨hB.os,hB.tape,hB.output,by rw[World.putObj_size];exact hB.size,fun k hk=>(World.putObj_heap_other (by omega)).trans (hB.block k hk)⟩
theorem k_stands(w:World)(ha:Asp w)(bp op:Nat)(vl:Value)(at_:Nat)(l:List TokC)(hP:PAt w bp op vl at_ l)(forms:Str)(hl:l.length<=1000000)(hat:at_<=l.length)(hf:forms.length<=1000000)(hfa:asciiB forms=true):
 Calls Tryz.prog 72 #[.pointer (some ⟨bp,op,none⟩), .string ⟨⟨forms⟩⟩] w fun e w'=>e= .returned (.tuple #[.string ⟨⟨(Qr l at_ forms).1⟩⟩, .int .i64 (Qr l at_ forms).2])/\Below w.heap.size w w':=by
 refine(callsIn_wide (n:=0)).1 ?_;refine callsIn_of_wp_marks Tryz.func72 rfl trivial ?_ rfl;simp only[QF,Xf,Tryz.ntmps72,KC,Nat.reduceAdd,Nat.reduceSub,Array.replicate_succ,Array.replicate_zero,List.push_toArray,List.append_toArray];have hsp:=qst ⟨⟨forms⟩⟩
 gi_wp2_with (refine⟨trivial,rfl,?_⟩;gi_at_call 98;refine(callsIn_wide.2 (hsp _)).mono ?_;rintro e' w' ⟨rfl,hw'⟩;subst hw')
 obtain⟨W0,hW0⟩:∃W0,(((((((w.alloc (Obj.cells #[Value.pointer (some ⟨bp,op,none⟩)] 94)).alloc (Obj.cells #[Value.string ⟨#[]⟩] 9)).alloc (Obj.cells #[Value.int IntKind.i64 0] 3)).alloc
  (Obj.cells #[Value.func (Fn.func 97) #[] #[Value.pointer (some ⟨w.heap.size,0,none⟩)]] 185)).alloc (Obj.cells #[Value.string ⟨⟨forms⟩⟩] 9)).alloc (Obj.cells #[Value.string ⟨#[59]⟩] 9)).alloc (Obj.cells #[Value.int IntKind.i64 0] 3))=W0:=⟨_,rfl⟩
 obtain⟨B,hB⟩:∃B,B=w.heap.size:=⟨_,rfl⟩
 have z:W0.heap.size=B+7/\Below B w W0/\W0.heap[B]?=some (.cells #[.pointer (some ⟨bp,op,none⟩)] 94 (0,0))/\W0.heap[B+1]?=some (.cells #[.string ⟨#[]⟩] 9 (0,0))/\W0.heap[B+2]?=some (.cells #[.int .i64 0] 3 (0,0))/\
  W0.heap[B+3]?=some (.cells #[.func (.func 97) #[] #[.pointer (some ⟨B,0,none⟩)]] 185 (0,0))/\W0.heap[B+4]?=some (.cells #[.string ⟨⟨forms⟩⟩] 9 (0,0))/\W0.heap[B+5]?=some (.cells #[.string ⟨#[59]⟩] 9 (0,0))/\W0.heap[B+6]?=some (.cells #[.int .i64 0] 3 (0,0)):=by
  subst hW0 hB;have hp:∀(A:World) (o:Obj) (k:Nat),(A.alloc o).heap[k]?=if k=A.heap.size then some o else A.heap[k]?:=fun A o k=>by
   show(A.heap.push o)[k]?=_
   rw[V5]
  refine⟨by simp,?_,?_,?_,?_,?_,?_,?_,?_⟩
  ·repeat (first|exact Below.refl _ _|refine Below.alloc ?_ (by first|exact KL _|(simp only[World.size_alloc];omega)) _)
  all_goals (simp only[hp,World.size_alloc];repeat (first|rfl|rw[if_pos (by omega)]|rw[if_neg (by omega)]))
 rw[hW0];clear hW0 hsp;obtain⟨z0,zb,z1,z2,z3,z4,z5,z6,z7⟩:=z;simp only[<-hB,Kw,Nat.reduceAdd];have HB:Hid (B=w.heap.size):=hB;clear hB;refine wpIn_rangeFunc ?_;intro fn hfn;have eg:∀args w,(callFunc 122 args).run Tryz.prog w= .ok (.enter 122 args) w:=enters_of Tryz.func122 (by kernel_rfl) rfl;generalize hT:(#[Value.pointer (some ⟨bp,op,none⟩),Value.string ⟨⟨forms⟩⟩,Value.pointer (some ⟨B,0,none⟩),undef,Value.pointer (some ⟨B+1,0,none⟩),Value.pointer (some ⟨B+2,0,none⟩),Value.pointer (some ⟨B+3,0,none⟩),undef,undef,
  Value.func (Fn.func 97) #[] #[Value.pointer (some ⟨B,0,none⟩)],Value.string ⟨⟨forms⟩⟩,Value.func (Fn.func 122) #[] #[Value.pointer (some ⟨B+5,0,none⟩),Value.pointer (some ⟨B+4,0,none⟩),Value.pointer (some ⟨B+6,0,none⟩)],
  undef,undef,undef,undef,undef,undef,undef,undef,undef]:Array Value)=T
 generalize hA:Code.region 3 _ false=assign;generalize hC:Code.block 1 _=body;obtain⟨rec,hrec⟩:∃rec:LoopState->Option Code->Loop,rec=fun st pe=>{state:=st,pending:=pe,fn,tmps:=T,params:= #[12],assign,body,defers:=W0.heap.size}:=⟨_,rfl⟩
 obtain⟨W1,hW1⟩:∃W1,(W0.alloc (.deferred (some []))).alloc (.loop (rec .ready none))=W1:=⟨_,rfl⟩
 refine⟨W0.heap.size+1,[{target:= .collected W0.heap.size,args:= #[]}],W1,{target:= .fn (.func 122) #[Value.pointer (some ⟨B+5,0,none⟩),Value.pointer (some ⟨B+4,0,none⟩),Value.pointer (some ⟨B+6,0,none⟩)],args:= #[.func (.yield (W0.heap.size+1)) #[] #[]]},W1,122,
  #[.func (.yield (W0.heap.size+1)) #[] #[],Value.pointer (some ⟨B+5,0,none⟩),Value.pointer (some ⟨B+4,0,none⟩),Value.pointer (some ⟨B+6,0,none⟩)],W1,?_,?_,?_,?_,(fun h=>by simp[Fence.wide]at h),?_⟩
 ·rw[<-hW1,hrec];exact run_enterLoop_outer _ _ _ _ _
 ·subst hT
  simp only[resolve];simp[go_sem]
 ·intro f' hf';trivial
 ·simp[invoke,go_sem,eg]
 have hJ0:SpJ W0 (B+4) rec forms W1:=by
  have hp:∀(A:World) (o:Obj) (k:Nat),(A.alloc o).heap[k]?=if k=A.heap.size then some o else A.heap[k]?:=fun A o k=>by
   show(A.heap.push o)[k]?=_
   rw[V5]
  subst hW1;refine⟨rfl,rfl,rfl,by simp,fun k hk _=>?_,?_,?_,?_⟩
  ·rw[hp,hp,if_neg (by simp only[World.size_alloc];omega),if_neg (by omega)]
  ·rw[hp,hp,if_neg (by simp only[World.size_alloc];omega),if_neg (by omega)];exact z5
  ·rw[hp,if_pos (by simp only[World.size_alloc])]
  ·rw[hp,hp,if_neg (by simp only[World.size_alloc];omega),if_pos rfl]
 refine(split_in (W0.heap.size+1) (B+4) (B+5) (B+6) (SpJ W0 (B+4) rec) (fun p W=>Below B w W/\W.heap[B+1]?=some (.cells #[.string ⟨⟨qdn p⟩⟩] 9 (0,0))/\W.heap[B+2]?=some (.cells #[.int .i64 (qbc l at_ p)] 3 (0,0))/\
  W.heap[W0.heap.size+1]?=some (.loop (rec .done (some .ret)))/\W.heap[W0.heap.size]?=some (.deferred (some []))) (fun p=>decide (0<qbc l at_ p)) ?_ ?_ forms hf ?_ W1 hJ0).mono ?_
 ·intro r W hJ
  have g5:=hJ.block (B+5) (by omega) (by omega);have g6:=hJ.block (B+6) (by omega) (by omega);rw[z6]at g5;rw[z7]at g6;exact⟨(cell_of_one hJ.cell).1,(cell_of_one hJ.cell).2,(cell_of_one g5).1,(cell_of_one g6).1⟩
 ·intro r r' W hJ
  refine⟨hJ.os,hJ.tape,hJ.output,by rw[World.size_setCell];exact hJ.size,fun k hk hne=>?_,heap_setCell_same W (B+4) _ _ _ hJ.cell,?_,?_⟩
  ·rw[Below.heap_setCell _ _ _ _ hne];exact hJ.block k hk hne
  ·rw[Below.heap_setCell _ _ _ _ (show W0.heap.size+1≠B+4 by omega)];exact hJ.recd
  ·rw[Below.heap_setCell _ _ _ _ (show W0.heap.size≠B+4 by omega)];exact hJ.dfr
 ·intro r p W hJ hp
  have hpl:=(qkn p hp).1;have hpa:=qoF hfa p hp;have hy:=run_yield (P:=Tryz.prog) (args:= #[.string ⟨⟨p⟩⟩]) hJ.recd (by rw[hrec];rfl);have hyf:(rec .ready none).fn=fn/\(rec .ready none).assign=assign/\(rec .ready none).body=body/\(rec .ready none).state= .ready/\(rec .ready none).tmps=T/\(rec .ready none).params= #[12]:=by rw[hrec];exact⟨rfl,rfl,rfl,rfl,rfl,rfl⟩
  obtain⟨y1,y2,y3,y4,y5,y6⟩:=hyf;rw[y1,y2,y3,y5,y6]at hy;refine⟨fn,_,assign,body,hy,roundIn_of_wpIn trivial ?_⟩;clear hy;subst hA;subst hT
  gi_wp2
  refine⟨_,run_beginRound hJ.recd y4,?_⟩;obtain⟨Wb,hWb⟩:∃Wb,W.putObj (W0.heap.size+1) (.loop {rec .ready none with state:= .busy})=Wb:=⟨_,rfl⟩
  rw[hWb];have hlt:W0.heap.size+1<W.heap.size:=(V6.1 hJ.recd).1;have u1:Wb.heap[W0.heap.size+1]?=some (.loop {rec .ready none with state:= .busy}):=by rw[<-hWb];exact World.putObj_heap_same hlt
  have u2:∀k,k≠W0.heap.size+1->Wb.heap[k]?=W.heap[k]?:=fun k hk=>by rw[<-hWb];exact World.putObj_heap_other hk
  have u3:∀k,k<B+7->k≠B+4->Wb.heap[k]?=W0.heap[k]?:=fun k hk hne=>by rw[u2 k (by omega)];exact hJ.block k (by omega) hne
  have u4:Wb.heap.size=W.heap.size:=by rw[<-hWb];simp
  have u5:Below B w Wb:=⟨by rw[<-hWb];exact hJ.os.trans zb.os,by rw[<-hWb];exact hJ.tape.trans zb.tape,by rw[<-hWb];exact hJ.output.trans zb.output,by have:=zb.size;have:=hJ.size;omega,fun k hk=>by rw[u3 k (by omega) (by omega)];exact zb.block k hk⟩
  have haW:Asp Wb:=by have hB:=HB.out;subst hB;exact ha.later u5
  have hPW:PAt Wb bp op vl at_ l:=by have hB:=HB.out;subst hB;exact hP.below u5
  have v0:=cell_of_one ((u3 B (by omega) (by omega)).trans z1);have v3:=cell_of_one ((u3 (B+3) (by omega) (by omega)).trans z4);have hft:=k_fits Wb haW B bp op vl at_ l hPW v0.1 p hl hat (by omega) hpa;have HC:Hid (∀A,Asp A->Calls Tryz.prog 99 #[.string ⟨⟨p⟩⟩] A fun e w'=>e= .returned (.string ⟨⟨qdn p⟩⟩)/\Below A.heap.size A w'):=fun A hA=>k_canon A hA p (by omega) hpa;obtain⟨c3,-⟩:=v3;subst hC;have fin:∀(jump:Option Code) (V:World),Below Wb.heap.size Wb V\/(V.heap[W0.heap.size+1]?=Wb.heap[W0.heap.size+1]?/\V.heap[W0.heap.size]?=Wb.heap[W0.heap.size]?)->
   (Instr.endRound (W0.heap.size+1) jump).run Tryz.prog V= .ok (.bool jump.isNone) (V.putObj (W0.heap.size+1) (.loop (rec (if jump.isNone then .ready else .done) jump)))/\
   (V.putObj (W0.heap.size+1) (.loop (rec (if jump.isNone then .ready else .done) jump))).heap[W0.heap.size+1]?=some (.loop (rec (if jump.isNone then .ready else .done) jump))/\
   (V.putObj (W0.heap.size+1) (.loop (rec (if jump.isNone then .ready else .done) jump))).heap[W0.heap.size]?=some (.deferred (some [])):=fun jump V hV=>by
   have hv1:V.heap[W0.heap.size+1]?=some (.loop {rec .ready none with state:= .busy}):=by
    rcases hV with hV|⟨hV,-⟩
    ·rw[hV.block _ (by omega)];exact u1
    ·rw[hV];exact u1
   have hv2:V.heap[W0.heap.size]?=some (.deferred (some [])):=by
    rcases hV with hV|⟨-,hV⟩
    ·rw[hV.block _ (by omega),u2 _ (by omega)];exact hJ.dfr
    ·rw[hV,u2 _ (by omega)];exact hJ.dfr
   have:=run_endRound (P:=Tryz.prog) jump hv1;refine⟨?_,World.putObj_heap_same (V6.1 hv1).1,(World.putObj_heap_other (by omega)).trans hv2⟩;rw[this,hrec]
  have HF:Hid _:=fin;clear fin;rcases V7 (qbc l at_ p)with hz|hz
  ·gi_wp2_with (refine⟨trivial,rfl,?_⟩;gi_at_call 97;refine(CallsIn.inRound _ (callsIn_wide.2 hft)).mono ?_;rintro e' V ⟨rfl,hV⟩)
   obtain⟨f1,f2,f3⟩:=HF.out none V (.inl hV);refine⟨_,_,f1, .inl ⟨by simp[hz],rfl,?_⟩⟩;have g0:∀k,k<Wb.heap.size->k≠W0.heap.size+1->(V.putObj (W0.heap.size+1) (.loop (rec (if (none:Option Code).isNone then .ready else .done) none))).heap[k]?=Wb.heap[k]?:=fun k hk hne=>by
    rw[World.putObj_heap_other hne,hV.block k hk]
   refine⟨?_,?_,?_,?_,fun k hk hne=>?_,?_,f2,f3⟩
   ·show V.os=W0.os;rw[hV.os,<-hWb];exact hJ.os
   ·show V.tape=W0.tape;rw[hV.tape,<-hWb];exact hJ.tape
   ·show V.output=W0.output;rw[hV.output,<-hWb];exact hJ.output
   ·rw[World.putObj_size];have:=hV.size;have:=hJ.size;omega
   ·rw[g0 k (by omega) (by omega)];exact u3 k (by omega) hne
   ·rw[g0 _ (by omega) (by omega),u2 _ (by omega)];exact hJ.cell
  ·have hz':decide (0<qbc l at_ p)=true:=by simp[hz]
   have m1:=(u3 (B+1) (by omega) (by omega)).trans z2;have m2:=(u3 (B+2) (by omega) (by omega)).trans z3;have HA:Hid (Asp Wb):=haW;have HZ:Hid (B+7+2<=Wb.heap.size):=by have:=hJ.size;unfold Hid;omega
   clear haW hPW
   gi_wp2_with (refine⟨trivial,rfl,?_⟩;gi_at_call 97;refine(CallsIn.inRound _ (callsIn_wide.2 hft)).mono ?_;rintro e' V ⟨rfl,hV⟩)
   refine⟨trivial,rfl,(CallsIn.inRound _ (callsIn_wide.2 (HC.out V (HA.out.later hV)))).mono ?_⟩;rintro e' V2 ⟨rfl,hV2⟩;have hVV:Below Wb.heap.size Wb V2:=hV.trans (hV2.mono hV.size);have hz2:=HZ.out;have n1:=(hVV.block (B+1) (by omega)).trans m1;have n2:=(hVV.block (B+2) (by omega)).trans m2;obtain⟨n1c,n1f⟩:=cell_of_one n1;obtain⟨n2c,n2f⟩:=cell_of_one n2;clear hz2
   gi_wp2
   obtain⟨V3,hV3⟩:∃V3,(V2.setCell ⟨B+1,0,none⟩ (Value.string ⟨⟨qdn p⟩⟩)).setCell ⟨B+2,0,none⟩ (Value.int .i64 (qbc l at_ p))=V3:=⟨_,rfl⟩
   rw[hV3];have hz2:=HZ.out;have q0:∀k,k≠B+1->k≠B+2->k<Wb.heap.size->V3.heap[k]?=Wb.heap[k]?:=fun k k1 k2 k3=>by
    rw[<-hV3,Below.heap_setCell _ _ _ _ k2,Below.heap_setCell _ _ _ _ k1,hVV.block k k3]
   obtain⟨f1,f2,f3⟩:=HF.out (some .ret) V3 (.inr ⟨q0 _ (by omega) (by omega) (by omega),q0 _ (by omega) (by omega) (by omega)⟩);refine⟨_,_,f1, .inr ⟨hz',rfl,?_,?_,?_,f2,f3⟩⟩
   ·refine⟨?_,?_,?_,?_,fun k hk=>?_⟩
    ·show V3.os=w.os;rw[<-hV3];exact hVV.os.trans u5.os
    ·show V3.tape=w.tape;rw[<-hV3];exact hVV.tape.trans u5.tape
    ·show V3.output=w.output;rw[<-hV3];exact hVV.output.trans u5.output
    ·rw[World.putObj_size,<-hV3,World.size_setCell,World.size_setCell];exact Ve u5.size hVV.size
    ·rw[World.putObj_heap_other (by omega),q0 k (by omega) (by omega) (by omega)];exact u5.block k hk
   ·rw[World.putObj_heap_other (by omega),<-hV3,Below.heap_setCell _ _ _ _ (show B+1≠B+2 by omega)]
    exact heap_setCell_same V2 _ _ _ _ n1
   ·rw[World.putObj_heap_other (by omega),<-hV3]
    refine heap_setCell_same _ _ (.int .i64 0) _ _ ?_;rw[Below.heap_setCell _ _ _ _ (show B+2≠B+1 by omega)];exact n2
 ·rintro e W2 ⟨⟨v,rfl⟩,h⟩
  have pend:∀st j,(rec st j).pending=j:=fun st j=>by rw[hrec]
  have stat:∀st j,(rec st j).state=st:=fun st j=>by rw[hrec]
  have out:∀(st:LoopState) (j:Option Code),st≠ .busy->W2.heap[W0.heap.size+1]?=some (.loop (rec st j))->∃V,(Instr.endLoop (W0.heap.size+1)).run Tryz.prog W2= .ok j V/\(∀k,k≠W0.heap.size+1->V.heap[k]?=W2.heap[k]?)/\V.os=W2.os/\V.tape=W2.tape/\V.output=W2.output/\V.heap.size=W2.heap.size:=fun st j hst hl=>by
   refine⟨_,(run_endLoop (P:=Tryz.prog) hl (by rw[stat];exact hst)).trans (by rw[pend]),fun k hk=>World.putObj_heap_other hk,rfl,rfl,rfl,by simp⟩
  clear hrec pend stat hJ0 hW1;subst hT;rcases h with⟨r,hJ,hfd⟩|⟨p,⟨j1,j2,j3,j4,j5⟩,hfd⟩
  ·have hst:Qr l at_ forms=([],0):=by unfold Qr;rw[hfd]
   obtain⟨V,e1,e2,e3,e4,e5,e6⟩:=out .ready none (by simp) hJ.recd;refine⟨none,V,e1,?_⟩;have i1:V.heap[B+1]?=some (.cells #[.string ⟨#[]⟩] 9 (0,0)):=by rw[e2 _ (by omega),hJ.block _ (by omega) (by omega)];exact z2
   have i2:V.heap[B+2]?=some (.cells #[.int .i64 0] 3 (0,0)):=by rw[e2 _ (by omega),hJ.block _ (by omega) (by omega)];exact z3
   have iD:V.heap[W0.heap.size]?=some (.deferred (some [])):=by rw[e2 _ (by omega)];exact hJ.dfr
   have iB:Below B w V:=⟨by rw[e3,hJ.os];exact zb.os,by rw[e4,hJ.tape];exact zb.tape,by rw[e5,hJ.output];exact zb.output,by have:=zb.size;have:=hJ.size;omega,fun k hk=>by rw[e2 k (by omega),hJ.block k (by omega) (by omega)];exact zb.block k hk⟩
   obtain⟨i1c,i1f⟩:=cell_of_one i1;obtain⟨i2c,i2f⟩:=cell_of_one i2;clear out hJ e1 e2 e3 e4 e5 e6
   gi_wp2
   obtain⟨V2,hV2⟩:∃V2,(V.setCell ⟨B+1,0,none⟩ (Value.string ⟨#[]⟩)).setCell ⟨B+2,0,none⟩ (Value.int .i64 0)=V2:=⟨_,rfl⟩
   rw[hV2];have q1:V2.heap[B+1]?=some (.cells #[.string ⟨#[]⟩] 9 (0,0)):=by
    rw[<-hV2,Below.heap_setCell _ _ _ _ (show B+1≠B+2 by omega)];exact heap_setCell_same V _ _ _ _ i1
   have q2:V2.heap[B+2]?=some (.cells #[.int .i64 0] 3 (0,0)):=by
    rw[<-hV2];refine heap_setCell_same _ _ (.int .i64 0) _ _ ?_;rw[Below.heap_setCell _ _ _ _ (show B+2≠B+1 by omega)];exact i2
   have qD:V2.heap[B+7]?=some (.deferred (some [])):=by
    rw[<-hV2,Below.heap_setCell _ _ _ _ (show B+7≠B+2 by omega),Below.heap_setCell _ _ _ _ (show B+7≠B+1 by omega),<-z0];exact iD
   have qB:Below B w V2:=by rw[<-hV2];exact(iB.setCell (p:=⟨B+1,0,none⟩) (by simp) _).setCell (p:=⟨B+2,0,none⟩) (by simp) _
   rw[hst];exact qki HB q1 q2 qD qB
  ·have hst:Qr l at_ forms=(qdn p,qbc l at_ p):=by unfold Qr;rw[hfd]
   obtain⟨V,e1,e2,e3,e4,e5,e6⟩:=out .done (some .ret) (by simp) j4;refine⟨some .ret,V,e1,?_⟩;have iD:V.heap[W0.heap.size]?=some (.deferred (some [])):=by rw[e2 _ (by omega)];exact j5
   have iB:Below B w V:=⟨by rw[e3];exact j1.os,by rw[e4];exact j1.tape,by rw[e5];exact j1.output,by rw[e6];exact j1.size,fun k hk=>by rw[e2 k (by omega)];exact j1.block k hk⟩
   have i1:V.heap[B+1]?=some (.cells #[.string ⟨⟨qdn p⟩⟩] 9 (0,0)):=by rw[e2 _ (by omega)];exact j2
   have i2:V.heap[B+2]?=some (.cells #[.int .i64 (qbc l at_ p)] 3 (0,0)):=by rw[e2 _ (by omega)];exact j3
   clear out e1 e2 e3 e4 e5 e6
   gi_wp2
   rw[hst];exact qki HB i1 i2 (by rw[<-z0];exact iD) iB
end Go.Proofs.YtgiadjbiimkbiaaGreatDoor
namespace Go.Proofs.YtgiadjbiimkbiaaGreatDoor
open Go.AM
open Go.Proofs
open Go.Col (Str FaultC okF)
open Go.Tok (TokC)
open Go.Stm
open Go.RowKit (Below)
set_option maxRecDepth 100000
def qoH:AVal->Bool
 | .bool _=>true
 | .int _ _=>true
 | .str _=>true
 |_=>false
theorem rigid_abs{fi:PMap}{x:AVal}{u:Value}(hr:qoH x=true)(h:VR fi x u):absS u=x:=by
 cases x<;>simp only[qoH,KV]at hr<;>simp only[VR]at h<;>subst h<;>rfl
theorem qiP{w:World}{fi:PMap}{b:Nat}:∀{xs:List AVal} {vs:List Value} {o:Nat},VRs fi xs vs->(∀x∈xs,qoH x=true)->(∀j v,vs[j]?=some v->w.cell? ⟨b,o+j,none⟩=some v)->cellsAt w (fun _=>none) (.base b) o xs.length=xs
 |[],_,_,_,_,_=>rfl
 |x::xs,vs,o,h,hr,hc=>by
  simp only[VRs]at h;obtain⟨v,vs',rfl,h1,h2⟩:=h;simp only[cellsAt,KX];have h0:=hc 0 v rfl;rw[K6]at h0;rw[qjG h0,rigid_abs (hr x Je) h1,qiP h2 (fun y hy=>hr y (Jf _ hy)) fun j u hj=>by
   have:=hc (j+1) u (by simpa using hj)
   rwa [show o+1+j=o+(j+1) by omega]]
theorem qsv{w0 w:World}{fi:PMap}{h:AHeap}{es:Nat}{v:AVal}{vl:Value}{xs:List (List AVal)}(hr:HRel w0 fi h w)(hv:IsL w0 h es v xs)(hx:VR fi v vl)(hg:∀x∈xs.flatten,qoH x=true):IsL w (fun _=>none) es (absS vl) xs:=by
 cases hv with
 |nil=>simp only[VR]at hx;subst hx;exact .nil
 |mk l o n c xs hn hw hc hl hcap=>
  obtain⟨ad,cap,rfl,had⟩:=Yr hx;have hcp:n<=cap:=by
   cases c with
   |exact c=>
    simp only[VR]at hx;obtain⟨a',e1,_⟩:=hx;cases e1;exact hcap
   |grow es=>
    simp only[VR]at hx;obtain⟨k,p,c',a',_,_,e1,hle,_⟩:=hx;cases e1;exact hle
  by_cases h0:n=0
  ·subst h0
   have hxs:xs=[]:=Kg hn.symm;subst hxs;have hsp:cap≠0->ad.spot=none:=fun hc0=>by
    cases c with
    |exact c=>
     simp only[VR]at hx;obtain⟨a',e1,e2⟩:=hx;cases e1;rw[qcd (e2 (.inl hc0))]
    |grow es=>
     simp only[VR]at hx;obtain⟨k,p,c',a',_,_,e1,_,e2⟩:=hx;cases e1;rw[(e2 hc0).1]
   obtain⟨b,of,sp⟩:=ad;have e:absS (.slice (some ⟨b,of,sp⟩) 0 cap)= .slice (.base b) of 0 (.exact cap):=by
    cases sp with
    |none=>rfl
    |some s=>
     by_cases hc0:cap=0
     ·subst hc0;rfl
     ·exact absurd (hsp hc0) (by simp)
   rw[e];exact .mk _ _ _ _ _ rfl (fun x hx=>by cases hx) (by simp[cellsAt]) rfl (Jq _)
  ·have ha:=had h0
   obtain⟨vs,e1,e2,e3⟩:=qeu hr l (n*es) o ad ha (by rw[hc];exact hl);rw[hc]at e2;have hsp:=qcd ha;have hlen:xs.flatten.length=n*es:=by rw[Xu hw,hn]
   have:=qiP (w:=w) (b:=ad.block) (o:=ad.off) e2 hg fun j u hj=>by
    have:=e3 j u hj;rw[hsp]at this;by_cases hj0:j=0
    ·subst hj0;simpa[Addr.add]using this
    ·simpa[Addr.add,hj0]using this
   rw[hlen]at this;obtain⟨b,of,sp⟩:=ad;simp only[true_and,Addr.mk.injEq]at hsp;subst hsp;exact .mk _ _ _ _ _ hn hw this hl hcp
theorem tok_rigid(l:List TokC):∀x∈(l.map Xg).flatten,qoH x=true:=by
 intro x hx;obtain⟨y,hy,hm⟩:=List.mem_flatten.1 hx;obtain⟨t,_,rfl⟩:=JK.1 hy;simp only[Xg,KW,List.not_mem_nil,or_false]at hm;rcases hm with rfl|rfl|rfl|rfl|rfl<;>rfl
theorem qfn(w0:World)(ha:Asp w0)(h:AHeap)(lp:AM.Loc)(op:Nat)(v:AVal)(l:List TokC)(at_:Nat)(forms:Str)(h0:rd w0 h lp op=v)(h1:rd w0 h lp (op+1)= .int .i64 at_)(hv:IsL w0 h 5 v (l.map Xg))
 (hl:l.length<=1000000) (hat:at_<=l.length) (hf:forms.length<=1000000) (hfa:asciiB forms=true):
 ACall Tryz.prog w0 72 [.ptr lp op, .str forms] h (fun r h'=>r= .tuple [.str (Qr l at_ forms).1, .int .i64 (Qr l at_ forms).2]/\h'=h):=by
 intro fi vals w hr hvs;simp only[VRs,VR]at hvs;obtain⟨u,vs',rfl,⟨a,ea,rfl⟩,u2,vs2,rfl,rfl,rfl⟩:=hvs;have hsp:=qcd ea;obtain⟨a0,vl,q1,q2,q3,-⟩:=hr.rd lp op (by rw[h0];exact hv.live);rw[ea]at q1;cases q1;rw[h0]at q3;obtain⟨a1,vl1,r1,r2,r3,-⟩:=hr.rd lp (op+1) (by rw[h1];rfl);rw[Yu ea]at r1;cases r1;rw[h1]at r3;simp only[VR]at r3;subst r3;obtain⟨b,o,sp⟩:=a;simp only[true_and,Addr.mk.injEq]at hsp;subst hsp;have hP:PAt w b o vl at_ l:=⟨q2,by simpa[Addr.add]using r2,qsv hr hv q3 (tok_rigid l)⟩
 exact .inl ⟨_,Tryz.func72,rfl,rfl,(k_stands w (ha.later hr.below) b o vl at_ l hP forms hl hat hf hfa).mono fun e w' ⟨e1,e2⟩=>⟨_,e1,fi,_,h,fi.le_refl,hr.later e2,by simp only[VR,VRs];exact⟨_,rfl,_,_,rfl,rfl,_,_,rfl,rfl,rfl⟩,rfl,rfl⟩⟩
end Go.Proofs.YtgiadjbiimkbiaaGreatDoor
namespace Go.AM
open Go.RowKit (Below)
def ACallE(P:Program)(w0:World)(f:FuncId)(args:List AVal)(h:AHeap)(R Rp:AVal->AHeap->Prop):Prop:=
 ∀(fi:PMap) (vals:List Value) (w:World),HRel w0 fi h w->VRs fi args vals->
  ∃fn,P.funcs[f]?=some fn/\(fn.name== "runtime.NumGoroutine")=false/\fn.body.isSome=true/\Calls P f vals.toArray w fun e w'=>
   (∃v,e= .returned v/\∃Ps x h',fi.le Ps/\HRel w0 Ps h' w'/\VR Ps x v/\R x h')\/(∃v,e= .panicked [{v,recovered:=false}]/\∃Ps x h',fi.le Ps/\HRel w0 Ps h' w'/\VR Ps x v/\Rp x h')
abbrev APanic(P:Program)(w0:World)(f:FuncId)(args:List AVal)(h:AHeap)(Rp:AVal->AHeap->Prop):Prop:=ACallE P w0 f args h (fun _ _=>False) Rp
section
variable {P:Program} {w0:World} {f:FuncId} {args:List AVal} {h:AHeap} {R R' Rp Rp':AVal->AHeap->Prop}
theorem ACallE.mono(hc:ACallE P w0 f args h R Rp)(hr:∀x h',R x h'->R' x h')(hp:∀x h',Rp x h'->Rp' x h'):ACallE P w0 f args h R' Rp':=fun fi vals w h1 h2=>by
 obtain⟨fn,a,b,c,d⟩:=hc fi vals w h1 h2;refine⟨fn,a,b,c,d.mono fun e w' q=>?_⟩;rcases q with⟨v,e1,Ps,x,h',e2,e3,e4,e5⟩|⟨v,e1,Ps,x,h',e2,e3,e4,e5⟩
 ·exact .inl ⟨v,e1,Ps,x,h',e2,e3,e4,hr _ _ e5⟩
 ·exact .inr ⟨v,e1,Ps,x,h',e2,e3,e4,hp _ _ e5⟩
theorem ACallE.ok(hc:ACallE P w0 f args h R Rp)(hp:∀x h',¬Rp x h'):ACall P w0 f args h R:=fun fi vals w h1 h2=>by
 obtain⟨fn,a,b,c,d⟩:=hc fi vals w h1 h2;refine .inl ⟨fn,a,b,c,d.mono fun e w' q=>?_⟩;rcases q with q|⟨v,e1,Ps,x,h',e2,e3,e4,e5⟩
 ·exact q
 ·exact(hp _ _ e5).elim
theorem ACallE.bad(hc:ACallE P w0 f args h R Rp)(hr:∀x h',¬R x h'):APanic P w0 f args h Rp:=hc.mono (fun x h' q=>hr x h' q) fun _ _ q=>q
end
def GP(w0:World)(k:Nat)(ds:List Deferred)(s₀:Slots)(Rp:AVal->AHeap->Prop):Exit->PMap->Act->World->Prop:=fun e Ps a w=>
 ∃v,e= .panic [{v,recovered:=false}]/\∃χ x h',Ps.le χ/\HRel w0 χ h' w/\VR χ x v/\Rp x h'/\SRel χ ⟨k,ds,fun _ _ _ _=>False⟩ s₀ a
theorem qaU{P:Program}{w0:World}{f:FuncId}{args:List AVal}{h:AHeap}{R Rp:AVal->AHeap->Prop}{fn:Func}{c:Code}{rs:List ResultVar}{k:Nat}(hf:P.funcs[f]?=some fn)
 (hname:(fn.name== "runtime.NumGoroutine")=false) (hb:fn.body=some c) (hn:fn.ntmps=k) (hrs:fn.results=rs.toArray) (hargs:args.length<=k)
 (hc:Awp P w0 ⟨k,[],GP w0 k [] [] Rp⟩ c (qcU P w0 rs R) (qU 0 args) h):ACallE P w0 f args h R Rp:=by
 intro fi vals w hr hv;refine⟨fn,hf,hname,by rw[hb];rfl,?_⟩;have hl:=Xw hv;refine calls_of_wp hf hb (wp_mono (hc fi _ w hr ⟨?_,rfl,fun i=>?_⟩) fun e a' w' q=>?_)
 ·simp[hn]
  omega
 ·have:=(qbw fi args vals 0 i hv).2 undef (Jq i)
  by_cases hi:i<vals.length
  ·have e:(vals.toArray++Ju (fn.ntmps-vals.toArray.size) undef).getD i undef=vals.getD i undef:=by
    simp[Ku,Jv,hi,Ko]
   rw[e];simpa using this
  ·have e:(vals.toArray++Ju (fn.ntmps-vals.toArray.size) undef).getD i undef=undef:=by
    simp[Ku,Jv,hi,V8];split<;>simp
   rw[e];have e2:vals.getD (i-0) undef=undef:=by simp[Ko,Kr (Kt hi)]
   rw[e2]at this;exact this
 ·rcases q with⟨Ps,s',h',e1,e2,e3,e4⟩|⟨_,Ps,hl1,v,rfl,χ,x,h',g1,g2,g3,g4,g5⟩
  ·cases e<;>simp only[qcU]at e4<;>first
    |exact e4.elim
    |skip
   all_goals
    obtain⟨hp,h'',hsub,hR⟩:=e4;have hrs':rs=fn.results.toList:=by rw[hrs]
    rw[hrs']at hp hR;obtain⟨v,f1,f2⟩:=qec e2 e3 fn hp;exact⟨e3.defers,v,f1, .inl ⟨v,rfl,Ps,_,h'',e1,e2.forget hsub,f2,hR⟩⟩
  ·exact⟨g5.defers, .inr ⟨v,rfl,χ,x,h',JP hl1 g1,g2,g3,g4⟩⟩
section
variable {P:Program} {w0:World} {k:Nat} {ds:List Deferred} {s₀:Slots} {s:Slots} {h:AHeap} {Rp:AVal->AHeap->Prop} {Q:Exit->Slots->AHeap->Prop} {dst:Option Tmp} {ty:TypeId} {pos:String} {af:Array Edge}
theorem dsts_pre:∀(p q:List Oper),Qo k (p++q)=true->Qo k p=true:=by
 intro p q hp;induction p with
 |nil=>rfl
 |cons o p ih=>
  simp only[Ky,Kh,Qo]at hp|-
  exact⟨hp.1,ih hp.2⟩
theorem qmU{n:FrameK}{id:Nat}{l pre post:List Oper}{o:Oper}(hl:l=pre++o::post)(hg:o.guard=none)(hd:Qo n l=true)
 (hc:Ql P w0 l pre s h (fun s' h'=>∀(fi:PMap) (a:Act) (w:World) (nx:Act->World->Prop) (Q':Exit->Act->World->Prop),HRel w0 fi h' w->SRel fi n s' a->(∀e a' w',abrupt e->(∃Ps,fi.le Ps/\n.G e Ps a' w')->Q' e a' w')->o.wp P a w nx Q')):
 Awp P w0 n (.region id l.toArray false) Q s h:=by
 have hdp:Qo n pre=true:=dsts_pre pre _ (hl ▸ hd);intro fi a w hr hs;refine wp_region ?_;rw[KC,V9];have hlen:l.length=pre.length+(post.length+1):=by rw[hl];simp
 rw[hlen,<-Ba];refine qdS (P:=P) (w0:=w0) l n _ hd pre 0 fi s h a w _ _ (fun j hj=>by rw[hl,Jp,Bb hj]) hdp hc hr hs ?_;intro Ps s' h' a' w' hle hr' hs' hk;have hat:l.toArray[0+pre.length]?=some o:=by
  rw[Jp,hl];simp
 rw[Bc];simp only[wpOps,hat];rw[if_pos (by simp[Region.wanted,hg])];refine .inl ?_;exact hk Ps a' w' _ _ hr' hs' fun e a'' w'' he ⟨χ,h1,h2⟩=> .inr ⟨he,χ,JP hle h1,h2⟩
theorem qtg{id:Nat}{l pre post:List Oper}{fo:Operand}{args:Array Operand}{ts:Array TypeId}(hl:l=pre++⟨dst, .call ⟨.value fo,args,ts⟩,ty,pos,af,none⟩::post)(hd:Qo k l=true)
 (hc:Ql P w0 l pre s h (fun s' h'=>(∃f cap,ev s' fo= .func f cap/\APanic P w0 f (evs s' args.toList++cap) h' Rp)/\∀i,s₀.get i=s'.get i\/s₀.get i= .dead)):
 Awp P w0 ⟨k,ds,GP w0 k ds s₀ Rp⟩ (.region id l.toArray false) Q s h:=by
 refine qmU (n:=⟨k,ds,GP w0 k ds s₀ Rp⟩) hl rfl hd (awp_rseq.aOps_mono (fun s' h' hk fi a w nx Q' hr hs hq=>?_) hc);obtain⟨⟨f,cap,hf,hcall⟩,hs0⟩:=hk;have hv:=hs.evs args.toList;have hfv:=hs.ev fo;rw[hf]at hfv;simp only[VR]at hfv;obtain⟨vs,hfe,hcap⟩:=hfv;obtain⟨fn,g1,g2,g3,g4⟩:=hcall fi (args.toList.map a.eval++vs) w hr (qah hv hcap);have hx:(execOp a.eval ⟨dst, .call ⟨.value fo,args,ts⟩,ty,pos,af,none⟩).run P w= .ok (.enter f (args.toList.map a.eval++vs).toArray) w:=by
  have hb:¬fn.body=none:=fun e=>by rw[e]at g3;cases g3
  have hn':¬fn.name= "runtime.NumGoroutine":=by simpa using g2
  have ea:args.map a.eval=(args.toList.map a.eval).toArray:=map_toArray _ _;simp only[execOp,resolve,hfe,Deferred.ofValue,Sem.run_bind,Sem.run_pure,Result.andThen_ok,invoke];rw[ea];simp[callFunc,g1,hn',hb]
 unfold Oper.wp;rw[hx,Oper.upon_enter];refine g4.mono fun e w' q=>?_;rcases q with⟨v,_,Ps,x,h'',_,_,_,q⟩|⟨v,rfl,Ps,x,h'',q1,q2,q3,q4⟩
 ·exact q.elim
 ·refine hq _ _ _ trivial ⟨Ps,q1,v,rfl,Ps,x,h'',Ps.le_refl,q2,q3,q4,⟨hs.size,hs.defers,fun i=>?_⟩⟩
  rcases hs0 i with e|e
  ·rw[e];exact Ww q1 _ _ (hs.val i)
  ·rw[e];simp[VR]
theorem qrc{id:Nat}{l pre post:List Oper}{x:Operand}(hl:l=pre++⟨dst, .panic x,ty,pos,af,none⟩::post)(hd:Qo k l=true)
 (hc:Ql P w0 l pre s h (fun s' h'=>(∃t y,ev s' x= .iface t y/\Rp (.iface t y) h')/\∀i,s₀.get i=s'.get i\/s₀.get i= .dead)):
 Awp P w0 ⟨k,ds,GP w0 k ds s₀ Rp⟩ (.region id l.toArray false) Q s h:=by
 refine qmU (n:=⟨k,ds,GP w0 k ds s₀ Rp⟩) hl rfl hd (awp_rseq.aOps_mono (fun s' h' hk fi a w nx Q' hr hs hq=>?_) hc);obtain⟨⟨t,y,hx,hR⟩,hs0⟩:=hk;have hxv:=hs.ev x;rw[hx]at hxv;have hxv':=hxv;simp only[VR]at hxv';obtain⟨v,hv,_⟩:=hxv';unfold Oper.wp;have he:(execOp a.eval ⟨dst, .panic x,ty,pos,af,none⟩).run P w= .halt (.panic (.iface t v)) w:=by
  simp only[execOp,hv,Sem.run_bind,run_panic_iface];rfl
 rw[he,Oper.upon_panic];refine hq _ _ _ trivial ⟨fi,fi.le_refl,_,rfl,fi, .iface t y,h',fi.le_refl,hr,by rw[<-hv];exact hxv,hR,⟨hs.size,hs.defers,fun i=>?_⟩⟩;rcases hs0 i with e|e
 ·rw[e];exact hs.val i
 ·rw[e];simp[VR]
theorem qhH{α:Type}{x:α}:∀{l:List α} {i:Nat},l[i]?=some x->l=l.take i++x::l.drop (i+1)
 |[],i,h=>by simp at h
 |y::l,0,h=>by
  simp only[Kz,Option.some.injEq]at h;subst h;rfl
 |y::l,i+1,h=>by
  rw[KM]at h;rw[Ki,Vr,Kh,<-qhH h]
theorem YE{id:Nat}{l:List Oper}{fo:Operand}{args:Array Operand}{ts:Array TypeId}(i:Nat)(hl:l[i]?=some ⟨dst, .call ⟨.value fo,args,ts⟩,ty,pos,af,none⟩)(hd:Qo k l=true)
 (hc:Ql P w0 l (l.take i) s h (fun s' h'=>(∃f cap,ev s' fo= .func f cap/\APanic P w0 f (evs s' args.toList++cap) h' Rp)/\∀i,s₀.get i=s'.get i\/s₀.get i= .dead)):
 Awp P w0 ⟨k,ds,GP w0 k ds s₀ Rp⟩ (.region id l.toArray false) Q s h:=qtg (qhH hl) hd hc
theorem qlh{id:Nat}{l:List Oper}{x:Operand}(i:Nat)(hl:l[i]?=some ⟨dst, .panic x,ty,pos,af,none⟩)(hd:Qo k l=true)
 (hc:Ql P w0 l (l.take i) s h (fun s' h'=>(∃t y,ev s' x= .iface t y/\Rp (.iface t y) h')/\∀i,s₀.get i=s'.get i\/s₀.get i= .dead)):
 Awp P w0 ⟨k,ds,GP w0 k ds s₀ Rp⟩ (.region id l.toArray false) Q s h:=qrc (qhH hl) hd hc
end
end Go.AM
namespace Go.Proofs.YtgiadjbiimkbiaaGreatDoor
open Go.AM
open Go.Proofs
open Go.Col (Str FaultC okF)
open Go.Tok (TokC)
open Go.Stm
open Go.RowKit (Below)
set_option maxRecDepth 100000
abbrev faultV(f:FaultC):AVal:= .agg [.int .i64 f.e, .int .i64 f.line, .int .i64 f.col]
def FaultP(H:AHeap)(f:FaultC):AVal->AHeap->Prop:=fun x h'=>x= .iface 48 (faultV f)/\Sub H h'
theorem qev(w0:World)(H B:AHeap)(kp:Nat)(v ov:AVal)(l:List TokC)(i:Int)(e:Int)(at_:Nat)(eb_p:H kp=some ⟨[v, .int .i64 i,ov],0⟩)(hs_H:Sub B H)(hv:IsL w0 B 5 v (l.map Xg))(hl:l.length<=1000000)(hat:at_<=1000000):
 APanic Tryz.prog w0 29 [.ptr (.own kp) 0, .int .i64 e, .int .i64 at_] H (FaultP H (WS l e at_)):=by
 have hlv:=hv.live;have nv:=ZN hv;have hE:WS l e at_=if l=[]then⟨e,0,0⟩else⟨e,(l.getD (min at_ (l.length-1)) noT).line,(l.getD (min at_ (l.length-1)) noT).col⟩:=rfl
 obtain⟨F,hF⟩:∃F,F=WS l e at_:=⟨_,rfl⟩
 rw[<-hF]at hE|-
 refine qaU (k:=33) (rs:=[]) Tryz.func29 rfl rfl rfl rfl (VY rfl) ?_;simp only[qU];refine awp_rseq [0,2,6] (by rfl) fun K hK=>?_;simp+decide only[Qe,QW,Zo,↓qc,↓XO,↓QN,bld48_0,Nat.reduceAdd];refine Qp qgl (cs:=[.int .i64 0, .int .i64 0, .int .i64 0]) (by rfl) fun k0q2 hk0q2=>?_;have hn_0q2:H k0q2=none:=by first|assumption|(simp only[Bd]at hk0q2;simp only[hk0q2])
 have hf_0q2:B k0q2=none:=Be hs_H hn_0q2;have ne_0q2_p:k0q2≠kp:=Bf hn_0q2 eb_p;refine qN (by rfl) (by rfl) zqA qaZ (by rfl) (by rfl) zqD (Jq _) (by rfl) ?_;simp only[QT,Bg];simp+decide only[qV,Nat.reduceAdd];apply hK;clear hK K;refine qi ?_;refine awp_rseq [0,2,6,14] (by rfl) fun K hK=>?_;simp+decide only[QK,XI,Qh,Xh,YG,qcN,↓qc,↓Qf,↓qh,↓qo,qf qbK,↓Qi,↓qd,ne_0q2_p.symm,Qm eb_p,hlv,nv];apply hK;clear hK K;refine qz (b:=_) rfl (fun hb1=>?_) (fun hb1=>?_)
 ·try simp only[qG]at hb1
  have hn:0<l.length:=by omega
  have hne:l≠[]:=fun q=>by rw[q]at hn;cases hn
  rw[if_neg hne]at hE;obtain⟨lc,o,c,rfl⟩:=Ye hv hn;obtain⟨m,hm⟩:∃m,m=min at_ (l.length-1):=⟨_,rfl⟩
  rw[<-hm]at hE;have hml:m<l.length:=by omega
  have hmi:min (at_:Int) ((l.length:Int)-1)=(m:Int):=by omega
  have hs2:Sub B (H.set k0q2 ⟨[.int .i64 e, .int .i64 0, .int .i64 0],0⟩):=hs_H.trans (Vj hn_0q2);obtain⟨-,-,e2,e3,-⟩:=WU (hv.mono hs2) hml;obtain⟨t,ht⟩:∃t,t=l.getD m noT:=⟨_,rfl⟩
  rw[<-ht]at e2 e3 hE;have e3':rd w0 (H.set k0q2 ⟨[.int .i64 e, .int .i64 0, .int .i64 0],0⟩) lc (o+m*5+2+1)= .int .i64 t.col:=e3;refine qgj 16 mixed (by kernel_rfl) (by rfl) (by rfl) ?_;simp+decide only[QK,XI,VD,Qh,QW,Xh,evs,WW,qcN,↓qc,↓Qf,↓qh,↓qo,qf qbK,↓Qi,QV Tryz.underlying39,↓qd,↓ap_min,pop_min,pMin_int,ne_0q2_p.symm,Qm eb_p,hlv];try simp(disch:=omega)only[wrap_i64,wrap_u8]
  try simp+decide only[qV,QU,VD,↓qJ,qg Tryz.underlying39 Yo,↓qh,fa44_2,↓qo,Qa ag42 sz42,fa48_1,e2,e3',hmi]
  repeat (with_reducible refine zqP ?_)
  refine qN (by rfl) (by rfl) zqA sz42 (by rfl) (by rfl) zqD (Jq _) (by rfl) ?_;simp only[QT,Bg];simp+decide only[qV,VD,Nat.reduceAdd];change Awp _ _ _ _ _ _ _;refine qlh 2 (by rfl) (by rfl) ?_;simp only[Ki,Bh];simp+decide only[qV,QJ,↓qo,Qa qjy qaZ,↓qdR,qcZ,Nat.reduceAdd];refine⟨⟨_,_,by rfl,?_⟩,by intro i;first|trivial|exact .inr trivial|exact .inr rfl⟩;rw[hE];exact⟨rfl,zqB⟩
 ·try simp only[qG]at hb1
  rw[if_pos (Kg (by omega))]at hE;refine qF ?_;change Awp _ _ _ _ _ _ _;refine qlh 2 (by rfl) (by rfl) ?_;simp only[Ki,Bh];simp+decide only[qV,QJ,↓qo,Qa qjy qaZ,↓qdR,qcZ,Nat.reduceAdd];refine⟨⟨_,_,by rfl,?_⟩,by intro i;first|trivial|exact .inr trivial|exact .inr rfl⟩;rw[hE];exact⟨rfl,zqB⟩
def Fair(O:List Str):Prop:=∀f∈O,f.length<=1000000/\asciiB f=true
theorem qke{w0:World}{h:AHeap}{v:AVal}{l:List Str}(ht:IsStrs w0 h v l)(hn:0<l.length):∃lc o c,v= .slice lc o l.length c:=by
 obtain⟨lc,o,c,e⟩:=ht.open (fun e=>by rw[Vz]at e;subst e;simp at hn);rw[Jn]at e;exact⟨lc,o,c,e⟩
theorem qkf{w0:World}{h:AHeap}{lc:AM.Loc}{o:Nat}{c:Cap}{l:List Str}(ht:IsStrs w0 h (.slice lc o l.length c) l){i:Nat}(hi:i<l.length):rd w0 h lc (o+i)= .str (l.getD i []):=by
 have he:=ht.at0 (i:=i) (by rw[Jn];exact hi) (by decide);rw[Bi,getD_map [] hi]at he;exact he
theorem str_sub{w0:World}{h:AHeap}{v:AVal}{l:List Str}(ht:IsStrs w0 h v l){n:Nat}(hn:n<=l.length):IsStrs w0 h (qgL 1 v 0 n) (l.take n):=by
 have:=IsL.sub ht (i:=0) (j:=n) (Jq _) (by rw[Jn];exact hn);rw[Vn,Nat.sub_zero,<-List.map_take]at this;exact this
theorem qmg{w0:World}{h:AHeap}{v:AVal}{l:List Str}(ht:IsStrs w0 h v l){k:IntKind}{n:Nat}(hn:n<=l.length):Wm Tryz.prog 22 v none (some (.int k n)) none=⟨True,qgL 1 v 0 n⟩:=by
 have:=IsL.slice ht Tryz.underlying22 sz9 none (some (.int k n)) (l:=0) (r:=n) rfl (by rw[qbI]) (by omega) (by omega) (by rw[Jn];omega);exact this
theorem any_drop{α:Type}{p:α->Bool}{l:List α}{i:Nat}(hi:i<l.length)(d:α):(l.drop i).any p=(p (l.getD i d)||(l.drop (i+1)).any p):=by
 rw[Vb hi,Bj];simp[Ko,hi]
theorem c_outer(w0:World)(ha:Asp w0)(H:AHeap)(kp:Nat)(v ov:AVal)(l:List TokC)(i:Nat)(O:List Str)(eb_p:H kp=some ⟨[v, .int .i64 i,ov],0⟩)(hv:IsL w0 H 5 v (l.map Xg))(hov:IsStrs w0 H ov O)(hO:Fair O)(hn:0<O.length)(hO2:O.length<=1000000)(hl:l.length<=1000000)(hi:i<=l.length):
 ACall Tryz.prog w0 75 [.ptr (.own kp) 0] H (fun r h'=>r= .bool (qdi l O i)/\h'=H):=by
 have hlv:=hov.live;have nv:=WC hov;have hs_H:Sub H H:=Vi _;obtain⟨n,hnO⟩:∃n,O.length=n+1:=⟨O.length-1,by omega⟩
 have hdl:O.dropLast=O.take n:=by rw[List.dropLast_eq_take,hnO];rfl
 have hwn:IntKind.i64.wrap ((O.length:Int)-1)=(n:Int):=by rw[wrap_i64 (by omega) (by omega)];omega
 have hsl:=fun(k:IntKind)=>qmg (k:=k) hov (n:=n) (by omega);have hov2:=str_sub hov (n:=n) (by omega);have nv2:=WC hov2;have htl:(O.take n).length=n:=by rw[K4];omega
 rw[htl]at nv2;obtain⟨sv,hsv⟩:∃sv,sv=qgL 1 ov 0 n:=⟨_,rfl⟩
 rw[<-hsv]at hsl hov2 nv2;have hslv:=hov2.live;obtain⟨X,hX⟩:∃X,X=O.take n:=⟨_,rfl⟩
 rw[<-hX]at hov2 htl hdl;have hOX:∀f∈X,f.length<=1000000/\asciiB f=true:=fun f hf=>hO f (by rw[hX]at hf;exact List.mem_of_mem_take hf);have hR:qdi l O i=X.any fun f=>decide (0<(Qr l i f).2):=by unfold qdi;rw[hdl]
 refine qR (n:=32) (rs:=[.tmp 2]) Tryz.func75 rfl rfl rfl rfl (VY rfl) ?_;simp only[qU];refine awp_rseq [0] (by rfl) fun K hK=>?_;simp+decide only[qP,↓qa];apply hK;clear hK K;refine qi ?_;refine UD [0,17,18,19] mixed (by kernel_rfl) (by rfl) (by rfl) fun K hK=>?_;simp+decide only[QK,XI,Qh,Xh,WW,↓qc,↓Qf,↓qh,qiw,↓qo,qf ag22,↓Qi,↓qd,Qm eb_p,hlv,nv,hwn];try simp+decide only[Qe,Qh,qal,↓qbJ,evO,↓Qi,↓qc,hsl,nv2]
 apply hK;clear hK K;refine qI ?_;refine Qj [0,17,18,19] (fun j:Nat=>[(0, .ptr (.own kp) 0),(17,sv),(18, .int .i64 n),(19, .int .i64 j)]) (fun j:Nat=>H) (fun j:Nat=>j<=n/\(X.any fun f=>decide (0<(Qr l i f).2))=(X.drop j).any fun f=>decide (0<(Qr l i f).2)) (fun j:Nat=>n-j) 0 (by rfl) (Vi _) ⟨Jq _,rfl⟩ ?_;rintro j ⟨hj,hq⟩;refine awp_rseq [0,17,18,19,20] (by rfl) fun K hK=>?_;simp+decide only[XP,QH,qj,QY,↓qd];apply hK;clear hK K;refine qi (qz (b:=_) rfl (fun hb1=>?_) (fun hb1=>?_))
 ·try simp only[qG]at hb1
  have hj':j<X.length:=by omega
  obtain⟨f,hf⟩:∃f,f=X.getD j []:=⟨_,rfl⟩
  obtain⟨hf1,hf2⟩:=hOX f (by rw[hf,Ko,JB hj'];exact Vw hj');have hst:=any_drop (p:=fun f=>decide (0<(Qr l i f).2)) hj' [];rw[<-hf]at hst;obtain⟨lc,o,c,hse⟩:=qke hov2 (by omega);have hov3:=hov2;rw[hse]at hov3;have ef:=qkf hov3 hj';rw[<-hf]at ef;rw[htl]at hse;have hwj:IntKind.i64.wrap ((j:Int)+1)=((j+1:Nat):Int):=by rw[wrap_i64 (by omega) (by omega)];omega
  refine qF ?_;change Awp _ _ _ _ _ _ _;refine qi ?_;refine qI ?_;refine awp_rseq [0,4,17,18,19] (by rfl) fun K hK=>?_;simp+decide only[qP,QJ,VD,Bi,↓qJ,qg Tryz.underlying22 sz9,↓qo,qf ag9,↓qa,hse,ef];repeat (with_reducible refine zqP ?_)
  apply hK;clear hK K;refine awp_rseq [0,6,17,18,19] (by rfl) fun K hK=>?_;simp+decide only[Qe,↓qc];refine QC (V:= .tuple [.str (Qr l i f).1, .int .i64 (Qr l i f).2]) (by rfl) (by rfl) (qfn w0 ha _ (.own kp) 0 v l i f (Yc w0 eb_p 0) (Yc w0 eb_p 1) hv hl hi hf1 hf2) ?_;simp+decide only[Xp,QF,QR,Xe,↓qc,↓Xa,↓qa,Nat.reduceAdd];apply hK;clear hK K;refine awp_rseq [0,17,18,19,30] (by rfl) fun K hK=>?_;simp+decide only[QK,qK,YG,↓qc,↓qd];apply hK;clear hK K;refine qz (b:=_) rfl (fun hb2=>?_) (fun hb2=>?_)
  ·try simp only[qG]at hb2
   refine awp_rseq [2] (by rfl) fun K hK=>?_;simp+decide only[qP,↓qa];apply hK;clear hK K;refine qW ?_;try simp only[XB]
   refine QG H zqC (qA (qC)) ?_;simp+decide only[QE];rw[hR,hq,hst];have h0:0<(Qr l i f).2:=by omega
   rw[decide_eq_true h0,Bool.true_or]
  ·try simp only[qG]at hb2
   refine qF ?_;change Awp _ _ _ _ _ _ _;refine Qv [0,17,18,19] (by rfl) ?_;simp+decide only[QK,Xi,↓qd,↓qc,hwj];try simp only[QL]
   refine⟨j+1,by rw[hse];rfl,Vi _,⟨by omega,?_⟩,by omega⟩;have h0:¬0<(Qr l i f).2:=by omega
   rw[hq,hst,decide_eq_false h0,VS]
 ·try simp only[qG]at hb1
  refine Qk ?_;change Awp _ _ _ _ _ _ _;refine awp_rseq [2] (by rfl) fun K hK=>?_;simp+decide only[qP,↓qa];apply hK;clear hK K;refine qW ?_;refine QG H zqC (qA (qC)) ?_;simp+decide only[QE];rw[hR,hq,Bl (by omega)];rfl
end Go.Proofs.YtgiadjbiimkbiaaGreatDoor
namespace Go.Stm
open Go.Col (Str)
set_option maxRecDepth 100000
def keysW:Str:=[65,67,67,69,83,83,32,65,68,86,65,78,67,73,78,71,32,65,70,84,69,82,32,65,76,76,32,65,76,80,72,65,66,69,84,73,67,32,65,76,83,79,32,65,76,84,69,82,78,65,84,69,32,65,78,68,32,65,78,89,32,65,82,69,32,65,82,69,65,32,65,82,69,65,83,32,65,83,67,69,78,68,73,78,71,32,65,83,83,73,71,78,32,65,84,32,65,87,65,89,45,70,82,79,77,45,90,69,82,79,32,66,69,70,79,82,69,32,66,73,78,65,82,89,32,66,76,65,78,75,32,66,76,79,67,75,32,66,89,32,67,70,32,67,72,32,67,72,65,82,65,67,84,69,82,32,67,72,65,82,65,67,84,69,82,83,32,67,76,65,83,83,32,67,79,76,85,77,78,32,67,79,77,80,32,67,79,77,80,45,51,32,67,79,77,80,85,84,65,84,73,79,78,65,76,32,67,79,77,80,85,84,65,84,73,79,78,65,76,45,51,32,67,79,78,70,73,71,85,82,65,84,73,79,78,32,67,79,78,84,65,73,78,83,32,67,79,78,84,69,78,84,32,67,79,78,84,82,79,76,32,67,79,78,84,82,79,76,83,32,67,79,78,86,69,82,84,73,78,71,32,67,79,80,89,32,67,79,82,82,32,67,79,82,82,69,83,80,79,78,68,73,78,71,32,67,79,85,78,84,32,68,65,84,65,32,68,69,32,68,69,67,76,65,82,65,84,73,86,69,83,32,68,69,76,73,77,73,84,69,68,32,68,69,76,73,77,73,84,69,82,32,68,69,80,69,78,68,73,78,71,32,68,69,83,67,69,78,68,73,78,71,32,68,69,84,65,73,76,32,68,73,86,73,83,73,79,78,32,68,79,87,78,32,68,85,80,76,73,67,65,84,69,83,32,68,89,78,65,77,73,67,32,69,76,83,69,32,69,78,68,32,69,78,68,45,65,68,68,32,69,78,68,45,67,65,76,76,32,69,78,68,45,67,79,77,80,85,84,69,32,69,78,68,45,68,69,76,69,84,69,32,69,78,68,45,68,73,86,73,68,69,32,69,78,68,45,69,86,65,76,85,65,84,69,32,69,78,68,45,73,70,32,69,78,68,45,77,85,76,84,73,80,76,89,32,69,78,68,45,80,69,82,70,79,82,77,32,69,78,68,45,82,69,65,68,32,69,78,68,45,82,69,84,85,82,78,32,69,78,68,45,82,69,87,82,73,84,69,32,69,78,68,45,83,69,65,82,67,72,32,69,78,68,45,83,84,65,82,84,32,69,78,68,45,83,84,82,73,78,71,32,69,78,68,45,83,85,66,84,82,65,67,84,32,69,78,68,45,85,78,83,84,82,73,78,71,32,69,78,68,45,87,82,73,84,69,32,69,78,86,73,82,79,78,77,69,78,84,32,69,81,85,65,76,32,69,82,82,79,82,32,69,88,67,69,80,84,73,79,78,32,69,88,84,69,78,68,32,70,65,76,83,69,32,70,68,32,70,73,76,69,32,70,73,76,69,45,67,79,78,84,82,79,76,32,70,73,76,76,69,82,32,70,73,78,65,76,32,70,73,82,83,84,32,70,79,79,84,73,78,71,32,70,79,82,32,70,82,79,77,32,71,73,86,73,78,71,32,71,82,69,65,84,69,82,32,71,82,79,85,80,32,72,69,65,68,73,78,71,32,73,45,79,32,73,45,79,45,67,79,78,84,82,79,76,32,73,68,69,78,84,73,70,73,67,65,84,73,79,78,32,73,78,32,73,78,68,69,88,69,68,32,73,78,68,73,67,65,84,69,32,73,78,73,84,73,65,76,32,73,78,80,85,84,32,73,78,80,85,84,45,79,85,84,80,85,84,32,73,78,84,79,32,73,78,86,65,76,73,68,32,73,83,32,74,85,83,84,32,74,85,83,84,73,70,73,69,68,32,75,69,89,32,76,65,66,69,76,32,76,65,83,84,32,76,69,65,68,73,78,71,32,76,69,70,84,32,76,69,83,83,32,76,73,77,73,84,32,76,73,77,73,84,83,32,76,73,78,69,32,76,73,78,69,83,32,76,73,78,75,65,71,69,32,77,79,68,69,32,78,69,65,82,69,83,84,45,65,87,65,89,45,70,82,79,77,45,90,69,82,79,32,78,69,65,82,69,83,84,45,69,86,69,78,32,78,69,65,82,69,83,84,45,84,79,87,65,82,68,45,90,69,82,79,32,78,69,71,65,84,73,86,69,32,78,69,88,84,32,78,79,32,78,79,84,32,78,85,77,66,69,82,32,78,85,77,69,82,73,67,32,79,67,67,85,82,83,32,79,70,32,79,70,70,32,79,77,73,84,84,69,68,32,79,78,32,79,80,84,73,79,78,65,76,32,79,82,32,79,82,68,69,82,32,79,82,71,65,78,73,90,65,84,73,79,78,32,79,84,72,69,82,32,79,85,84,80,85,84,32,79,86,69,82,70,76,79,87,32,80,65,67,75,69,68,45,68,69,67,73,77,65,76,32,80,65,71,69,32,80,70,32,80,72,32,80,73,67,32,80,73,67,84,85,82,69,32,80,76,85,83,32,80,79,73,78,84,69,82,32,80,79,83,73,84,73,86,69,32,80,82,79,67,69,68,85,82,69,32,80,82,79,67,69,69,68,32,80,82,79,71,82,65,77,32,80,82,79,71,82,65,77,45,73,68,32,80,82,79,72,73,66,73,84,69,68,32,82,65,78,68,79,77,32,82,68,32,82,69,67,79,82,68,32,82,69,67,79,82,68,83,32,82,69,68,69,70,73,78,69,83,32,82,69,70,69,82,69,78,67,69,32,82,69,76,65,84,73,86,69,32,82,69,77,65,73,78,68,69,82,32,82,69,78,65,77,69,83,32,82,69,80,76,65,67,73,78,71,32,82,69,80,79,82,84,32,82,69,80,79,82,84,73,78,71,32,82,69,80,79,82,84,83,32,82,69,83,69,84,32,82,70,32,82,72,32,82,73,71,72,84,32,82,79,85,78,68,69,68,32,82,85,78,32,83,67,82,69,69,78,32,83,68,32,83,69,67,84,73,79,78,32,83,69,76,69,67,84,32,83,69,78,84,69,78,67,69,32,83,69,80,65,82,65,84,69,32,83,69,81,85,69,78,67,69,32,83,69,81,85,69,78,84,73,65,76,32,83,73,71,78,32,83,73,90,69,32,83,79,85,82,67,69,32,83,84,65,78,68,65,82,68,32,83,84,65,84,85,83,32,83,85,77,32,84,65,76,76,89,73,78,71,32,84,69,83,84,32,84,72,65,78,32,84,72,69,78,32,84,72,82,79,85,71,72,32,84,72,82,85,32,84,73,77,69,83,32,84,79,32,84,79,87,65,82,68,45,71,82,69,65,84,69,82,32,84,79,87,65,82,68,45,76,69,83,83,69,82,32,84,82,65,73,76,73,78,71,32,84,82,85,69,32,84,82,85,78,67,65,84,73,79,78,32,84,89,80,69,32,85,78,84,73,76,32,85,80,32,85,80,79,78,32,85,83,65,71,69,32,85,83,73,78,71,32,86,65,76,85,69,32,86,65,76,85,69,83,32,86,65,82,89,73,78,71,32,87,72,69,78,32,87,73,84,72,32,87,79,82,75,73,78,71,45,83,84,79,82,65,71,69]
def verbsW:Str:=[65,67,67,69,80,84,32,65,68,68,32,65,76,84,69,82,32,67,65,76,76,32,67,65,78,67,69,76,32,67,76,79,83,69,32,67,79,77,80,85,84,69,32,67,79,78,84,73,78,85,69,32,68,69,76,69,84,69,32,68,73,83,80,76,65,89,32,68,73,86,73,68,69,32,69,86,65,76,85,65,84,69,32,69,88,73,84,32,71,69,78,69,82,65,84,69,32,71,79,32,73,70,32,73,78,73,84,73,65,76,73,90,69,32,73,78,73,84,73,65,84,69,32,73,78,83,80,69,67,84,32,77,69,82,71,69,32,77,79,86,69,32,77,85,76,84,73,80,76,89,32,79,80,69,78,32,80,69,82,70,79,82,77,32,82,69,65,68,32,82,69,76,69,65,83,69,32,82,69,84,85,82,78,32,82,69,87,82,73,84,69,32,83,69,65,82,67,72,32,83,69,84,32,83,79,82,84,32,83,84,65,82,84,32,83,84,79,80,32,83,84,82,73,78,71,32,83,85,66,84,82,65,67,84,32,83,85,80,80,82,69,83,83,32,84,69,82,77,73,78,65,84,69,32,85,78,83,84,82,73,78,71,32,85,83,69,32,87,82,73,84,69]
def qsL:Str:=[90,69,82,79,32,90,69,82,79,83,32,90,69,82,79,69,83,32,83,80,65,67,69,32,83,80,65,67,69,83,32,72,73,71,72,45,86,65,76,85,69,32,72,73,71,72,45,86,65,76,85,69,83,32,76,79,87,45,86,65,76,85,69,32,76,79,87,45,86,65,76,85,69,83,32,81,85,79,84,69,32,81,85,79,84,69,83]
def wordTs:List Str:=[keysW,verbsW,qsL]
def WZ(i:Nat):List (Str×Nat):=((wordTs.take i).zipIdx.map fun p=>(Lib.fields p.1).map fun w=>(w,p.2+1)).flatten
def qbM(s:Str):Nat:=((WZ 3).find? fun p=>decide (p.1=s)).elim 0 (·.2)
theorem qdV{i:Nat}(hi:i<3):WZ (i+1)=WZ i++(Lib.fields (wordTs.getD i [])).map fun w=>(w,i+1):=by
 unfold WZ;rw[Bn,JB (l:=wordTs) (i:=i) (by simpa[wordTs]using hi),Bo,JI,Bp];have e:(wordTs.take i).length=i:=by rw[K4];simp only[QF,wordTs];omega
 rw[e];simp[Ko,JB (l:=wordTs) (i:=i) (by simpa[wordTs]using hi)]
theorem qru:((WZ 3).map (·.1)).Nodup:=by decide+kernel
def qZ:Words:=⟨fun s=>decide (qbM s=0),fun s=>decide (qbM s=3)⟩
end Go.Stm
namespace Go.Proofs.YtgiadjbiimkbiaaGreatDoor
open Go.AM
open Go.Proofs
open Go.Col (Str FaultC okF)
open Go.Tok (TokC)
open Go.Stm
open Go.RowKit (Below)
set_option maxRecDepth 100000
theorem sub_off{B H:AHeap}(hs:Sub B H){k:Nat}(hk:B k=Option.none)(X:Blk):Sub B (H.set k X):=fun j d hj=>by
 have e:j≠k:=fun e=>by subst e;rw[hk]at hj;cases hj
 rw[Vg _ _ e];exact hs _ _ hj
def entW(p:(Str×Nat)×Nat):AVal:= .mapE p.2 (.str p.1.1) (.int .u8 p.1.2)
def qnf(l:List (Str×Nat)):List AVal:=l.zipIdx.map entW
theorem tabW_snoc(l:List (Str×Nat))(x:Str×Nat):qnf (l++[x])=qnf l++[.mapE l.length (.str x.1) (.int .u8 x.2)]:=by
 unfold qnf;rw[Bo,JI];simp[entW]
theorem qik(s:Str):∀(l:List (Str×Nat)) (b k:Nat),qdb (.str s) ((l.zipIdx b).map entW) k=some (none)/\(l.find? fun p=>decide (p.1=s))=none\/∃j p,qdb (.str s) ((l.zipIdx b).map entW) k=some (some (j, .int .u8 p.2))/\(l.find? fun p=>decide (p.1=s))=some p
 |[],_,_=> .inl ⟨rfl,rfl⟩
 |x::l,b,k=>by
  rw[List.zipIdx_cons,Ke,entW,qdb,Bq];simp only[kEq];by_cases h:x.1=s
  ·right
   refine⟨k,x,?_,?_⟩
   ·simp[h]
   ·simp[h]
  ·have h':¬s=x.1:=fun e=>h e.symm
   simp only[decide_false,h,h'];exact qik s l (b+1) (k+1)
theorem mFind_new{s:Str}{l:List (Str×Nat)}(h:s∉l.map (·.1)):qdb (.str s) (qnf l) 0=some none:=by
 rcases qik s l 0 0 with q|⟨j,p,-,q⟩
 ·exact q.1
 ·exfalso
  apply h;have h1:=List.find?_some q;have h2:=List.mem_of_find?_eq_some q;exact JK.2 ⟨p,h2,by simpa using h1⟩
theorem word_new{i j:Nat}(hi:i<3){ws:List Str}(hw:ws=Lib.fields (wordTs.getD i []))(hj:j<ws.length):ws.getD j []∉(WZ i++(ws.take j).map fun w=>(w,i+1)).map (·.1):=by
 have hs:=qdV hi;rw[<-hw]at hs;have hp:∀a b:Nat,a<=b->b<=3->∃t,WZ b=WZ a++t:=by
  intro a b hab hb;induction b with
  |zero=>rw[Nat.le_zero.1 hab];exact⟨[],by simp⟩
  |succ b ih=>
   rcases KT a (b+1)with h|h
   ·obtain⟨t,e⟩:=ih (by omega) (by omega)
    rw[qdV (by omega),e];exact⟨t++(Lib.fields (wordTs.getD b [])).map fun w=>(w,b+1),by rw[K9]⟩
   ·rw[show a=b+1 by omega];exact⟨[],by simp⟩
 obtain⟨t,e⟩:=hp (i+1) 3 hi (KL _);have hn:=qru;rw[e,hs]at hn;have hd:ws=ws.take j++ws.getD j []::ws.drop (j+1):=by
  rw[show ws.getD j []=ws[j] by simp[Ko,hj],<-Vb hj,List.take_append_drop]
 intro hm;generalize ws.getD j []=x at hd hm;rw[hd]at hn;simp only[Ke,JI,List.map_map]at hn hm;rw[K9,K9,<-K9,List.nodup_append]at hn;exact hn.2.2 x hm x (by simp) rfl
structure TbG where
 i:Nat
 H:AHeap
structure TcG where
 j:Nat
 H:AHeap
theorem qrt:∀t∈wordTs,t.length<=10000/\asciiB t=true:=by decide+kernel
theorem word_at{i:Nat}(hi:i<3):(wordTs.getD i []).length<=10000/\asciiB (wordTs.getD i [])=true:=qrt _ (by
 rw[Ko,JB (by simpa[wordTs]using hi)];exact Vw _)
set_option maxHeartbeats 4000000 in
theorem c_table(w0:World)(ha:Asp w0)(h:AHeap):
 ACall Tryz.prog w0 129 [] h (fun r h'=>∃k c,r= .map k/\h' k=some (Yj c (qnf (WZ 3)))/\h k=none/\Sub h h'):=by
 refine qR (n:=29) (rs:=[.tmp 0]) Tryz.func129 rfl rfl rfl rfl (VY rfl) ?_;simp only[qU];refine awp_rseq [] (by rfl) fun K hK=>?_;simp+decide only[qP,↓qa];apply hK;clear hK K;refine awp_rseq [1] (by rfl) fun K hK=>?_;refine qol fun k1q0 hk1q0=>?_;try have hf_1q0:h k1q0=none:=by first|assumption|(simp only[Bd]at hk1q0;simp only[hk1q0])
 simp+decide only[qP,↓qa];apply hK;clear hK K;refine qi ?_;refine awp_rseq [1,7,8,9] (by rfl) fun K hK=>?_;refine qO (cs:=(wordTs.map AVal.str)) (by kernel_rfl) fun k2q0 hk2q0=>?_;have ne_2q0_1q0:k2q0≠k1q0:=by simp only[Bd]at hk2q0;simp only[Yv,hk2q0]
 try have hf_2q0:h k2q0=none:=by first|assumption|(simp only[Bd]at hk2q0;simp only[hk2q0])
 simp+decide only[Qe,Qh,↓Qi,QV Tryz.underlying22,↓qc];apply hK;clear hK K;refine qI ?_;refine Qj [1,7,8,9] (fun g:TbG=>[(1, .map k1q0),(7, .slice (.own k2q0) 0 3 (.exact 3)),(8, .int .i64 3),(9, .int .i64 g.i)]) (fun g:TbG=>g.H) (fun g:TbG=>g.i<=3/\Sub h g.H/\g.H k1q0=some (Yj (WZ g.i).length (qnf (WZ g.i)))/\g.H k2q0=some ⟨wordTs.map AVal.str,0⟩) (fun g:TbG=>3-g.i) ⟨0,_⟩ (by rfl) (Vi _) ⟨Jq _,zqB,zqA,zqA⟩ ?_;rintro⟨i,H⟩ ⟨hi,hs_H,eb_1q0,eb_2q0⟩;simp only at hi hs_H eb_1q0 eb_2q0|-
 refine awp_rseq [1,7,8,9,10] (by rfl) fun K hK=>?_;simp+decide only[XP,QH,qj,QY,↓qd];apply hK;clear hK K;refine qi (qz (b:=_) rfl (fun hb1=>?_) (fun hb1=>?_))
 ·try simp only[qG]at hb1
  have hi3:i<3:=by omega
  obtain⟨t,ht⟩:∃t,t=wordTs.getD i []:=⟨_,rfl⟩
  have et:=qaw (w0:=w0) eb_2q0 (i:=i) hi3;rw[<-ht,Yc w0 eb_2q0]at et;obtain⟨hw1,hw2⟩:=word_at hi3;have hstp:=qdV hi3;rw[<-ht]at hw1 hw2 hstp;obtain⟨ws,hws⟩:∃ws,ws=Lib.fields t:=⟨_,rfl⟩
  rw[<-hws]at hstp;have hnew:=fun j hj=>word_new (j:=j) hi3 (ws:=ws) (by rw[hws,ht]) hj;have hwl:ws.length<=10001:=by rw[hws];exact Ve (fields_few t) (by omega)
  refine qF ?_;change Awp _ _ _ _ _ _ _;refine qi ?_;refine qI ?_;refine awp_rseq [1,2,3,7,8,9] (by rfl) fun K hK=>?_;simp+decide only[Xp,QJ,VD,Bi,↓qc,↓qJ,qg Tryz.underlying22 sz9,↓qo,qf ag9,↓qa,Qm eb_2q0,et];repeat (with_reducible refine zqP ?_)
  apply hK;clear hK K;refine awp_rseq [1,2,7,8,9,15,16,17] (by rfl) fun K hK=>?_;simp+decide only[Qe,↓qc];refine qE (by rfl) (by rfl) (qbG w0 ha _ t (by omega) hw2) fun x5q1 h5q1 hx5q1=>?_;obtain⟨kw,hkw,rfl,e5⟩:=hx5q1;rw[<-hws]at e5|-
  have hsw:Sub H h5q1:=by rw[e5];exact Vj hkw
  have hw5:h5q1 kw=some ⟨ws.map AVal.str,0⟩:=by rw[e5];exact Vh _ _ _
  have lw:=WC (Uv (w0:=w0) hw5);have ne_w:kw≠k1q0:=fun e=>by rw[e,eb_1q0]at hkw;cases hkw
  have hs_h5q1:Sub h h5q1:=Br zqC hsw;have hr_h5q1:Sub H h5q1:=Br zqC hsw;have eb_1q0:=hsw k1q0 _ zqA;have eb_2q0:=hsw k2q0 _ zqA;simp+decide only[Qe,Qh,↓Qi,QV Tryz.underlying22,↓qc];apply hK;clear hK K;refine qI ?_;refine Qj [1,2,7,8,9,15,16,17] (fun g:TcG=>[(1, .map k1q0),(2, .int .i64 i),(7, .slice (.own k2q0) 0 3 (.exact 3)),(8, .int .i64 3),(9, .int .i64 i),(15, .slice (.own kw) 0 ws.length (.exact ws.length)),(16, .int .i64 ws.length),(17, .int .i64 g.j)]) (fun g:TcG=>g.H) (fun g:TcG=>g.j<=ws.length/\Sub h g.H/\g.H k1q0=some (Yj (WZ i++(ws.take g.j).map fun w=>(w,i+1)).length (qnf (WZ i++(ws.take g.j).map fun w=>(w,i+1))))/\g.H k2q0=some ⟨wordTs.map AVal.str,0⟩/\g.H kw=some ⟨ws.map AVal.str,0⟩) (fun g:TcG=>ws.length-g.j) ⟨0,_⟩ (by rfl) (Vi _) ⟨Jq _,hs_h5q1,by simpa using eb_1q0,eb_2q0,hw5⟩ ?_;rintro⟨j,H2⟩ ⟨hj,hs_H2,eb_1q0',eb_2q0',eb_w⟩;simp only at hj hs_H2 eb_1q0' eb_2q0' eb_w|-
  refine awp_rseq [1,2,7,8,9,15,16,17,18] (by rfl) fun K hK=>?_;simp+decide only[XP,QH,qj,QY,↓qd];apply hK;clear hK K;refine qi (qz (b:=_) rfl (fun hb2=>?_) (fun hb2=>?_))
  ·try simp only[qG]at hb2
   have hj':j<ws.length:=by omega
   have nw:=hnew j hj';obtain⟨w,hw⟩:∃w,w=ws.getD j []:=⟨_,rfl⟩
   have ew:=qaw (w0:=w0) eb_w hj';rw[<-hw,Yc w0 eb_w]at ew;rw[<-hw]at nw;have htk:ws.take (j+1)=ws.take j++[w]:=by rw[Bn,JB hj',hw];simp[Ko,hj']
   obtain⟨pl,hpl⟩:∃pl,pl=WZ i++(ws.take j).map fun w=>(w,i+1):=⟨_,rfl⟩
   rw[<-hpl]at eb_1q0' nw;have hsn:=tabW_snoc pl (w,i+1);have hwr:IntKind.u8.wrap (i:Int)=i:=wrap_u8 (by omega) (by omega);have hwr2:IntKind.u8.wrap (1+(i:Int))=((i+1:Nat):Int):=by rw[wrap_u8 (by omega) (by omega)];omega
   have hwj:IntKind.i64.wrap ((j:Int)+1)=((j+1:Nat):Int):=by rw[wrap_i64 (by omega) (by omega)];omega
   refine qF ?_;change Awp _ _ _ _ _ _ _;refine qi ?_;refine qI ?_;refine awp_rseq [1,2,5,7,8,9,15,16,17] (by rfl) fun K hK=>?_;simp+decide only[qP,QJ,VD,Bi,↓qJ,qg Tryz.underlying22 sz9,↓qo,qf ag9,↓qa,Qm eb_w,ew];repeat (with_reducible refine zqP ?_)
   apply hK;clear hK K;refine Qv [1,2,7,8,9,15,16,17] (by rfl) ?_;simp+decide only[QK,qj,XJ,XM,↓qc,↓ZZ _ _ _ (Uo Tryz.underlying3 Tryz.underlying208),ZA Tryz.underlying3 Tryz.underlying208,↓qd,hwr,hwr2];refine qrh Tryz.underlying214 (by rfl) eb_1q0' (by rfl) (mFind_new nw) ?_;simp+decide only[qV];change Awp _ _ _ _ _ _ _;refine Qv [1,2,7,8,9,15,16,17] (by rfl) ?_;simp+decide only[QK,Xi,↓qd,↓qc,hwj];try simp only[QL]
   refine⟨⟨j+1,H2.set k1q0 (Yj (pl.length+1) (qnf (pl++[(w,i+1)])))⟩,rfl,by rw[hsn];exact Vi _,⟨hj',sub_off hs_H2 hf_1q0 _,?_,(Vg _ _ ne_2q0_1q0).trans eb_2q0',(Vg _ _ ne_w).trans eb_w⟩,by simp only;omega⟩;simp only;rw[Vh,htk,JI,<-K9,<-hpl,Jb];rfl
  ·try simp only[qG]at hb2
   have hj':j=ws.length:=by omega
   rw[hj',List.take_length,<-hstp]at eb_1q0';have hwi:IntKind.i64.wrap ((i:Int)+1)=((i+1:Nat):Int):=by rw[wrap_i64 (by omega) (by omega)];omega
   refine Qk ?_;change Awp _ _ _ _ _ _ _;refine Qv [1,7,8,9] (by rfl) ?_;simp+decide only[QK,Xi,↓qd,↓qc,hwi];try simp only[QL]
   exact⟨⟨i+1,H2⟩,rfl,Vi _,⟨hi3,hs_H2,eb_1q0',eb_2q0'⟩,by simp only;omega⟩
 ·try simp only[qG]at hb1
  have hi3:i=3:=by omega
  rw[hi3]at eb_1q0;refine Qk ?_;change Awp _ _ _ _ _ _ _;refine awp_rseq [0] (by rfl) fun K hK=>?_;simp+decide only[Xp,↓qc,↓qa];apply hK;clear hK K;refine qW ?_;refine Qb (qA (qC)) ?_;simp+decide only[QE];exact⟨H,Vi _,_,_,rfl,eb_1q0,hf_1q0,hs_H⟩
theorem look_tab{h:AHeap}{km c:Nat}{l:List (Str×Nat)}{s:Str}(hm:h km=some (Yj c (qnf l))):qaF Tryz.prog h 214 (.map km) (.str s) false=⟨True, .int .u8 ((l.find? fun p=>decide (p.1=s)).elim 0 (·.2):Nat)⟩:=by
 rcases qik s l 0 0 with⟨q1,q2⟩|⟨j,p,q1,q2⟩
 ·rw[qoT Tryz.underlying214 ze208 hm (by rfl) q1,qiU,q2]
  rfl
 ·rw[qrU Tryz.underlying214 ze208 hm (by rfl) q1,qiU,q2]
  rfl
theorem qpK(w0:World)(ha:Asp w0)(h:AHeap)(s:Str):ACall Tryz.prog w0 124 [.str s] h (fun r h'=>r= .int .u8 (qbM s:Nat)/\Sub h h'):=by
 refine qR (n:=6) (rs:=[.tmp 2]) Tryz.func124 rfl rfl rfl rfl (VY rfl) ?_;simp only[qU];refine awp_rseq [0] (by rfl) fun K hK=>?_;simp+decide only[qP,↓qa];apply hK;clear hK K;refine awp_rseq [2] (by rfl) fun K hK=>?_;refine qE (by rfl) (by rfl) (c_table w0 ha _) fun x1q0 h1q0 hx1q0=>?_;obtain⟨k,c,rfl,eb_t,hkt,hs1⟩:=hx1q0;have hlk:=look_tab (s:=s) eb_t;simp+decide only[Xp,↓qc,↓ap_lookup,qrP,↓qa,hlk];apply hK;clear hK K;refine qW ?_;refine Qb (qA (qC)) ?_;simp+decide only[QE];exact⟨h,by first|exact hs1|exact Vi _,rfl,Vi _⟩
end Go.Proofs.YtgiadjbiimkbiaaGreatDoor
namespace Go.AM
section
variable {P:Program} {w0:World} {ops rest:List Oper} {s:Slots} {h:AHeap} {K:Slots->AHeap->Prop} {dst:Option Tmp} {ty:TypeId} {pos:String} {af:Array Edge}
theorem qar{fo:Operand}{args:Array Operand}{ts:Array TypeId}{j:Nat}{want:Bool}{g:AVal}{f:FuncId}{cap xs:List AVal}{V:AVal}(hg:gv s ops j=g)(hk:Wn g=true)
 (hf:QD g want=true->ev s fo= .func f cap/\evs s args.toList++cap=xs) (hc:QD g want=true->ACall P w0 f xs h (fun x h'=>x=V/\Sub h h'))
 (hr:∀H,Sub h H->Ql P w0 ops rest (putD s dst (Qc (QD g want) V)) H K):
 Ql P w0 ops (⟨dst, .call ⟨.value fo,args,ts⟩,ty,pos,af,some (j,want)⟩::rest) s h K:=by
 subst hg;unfold gv at hk hf hc hr;cases hj:nthDst ops j with
 |none=>rw[hj]at hk;cases hk
 |some d=>
  simp only[hj]at hk hf hc hr;refine qjM hj rfl hk (fun hb=>?_) (fun hb=>?_)
  ·refine qE (hf hb).1 (hf hb).2 (hc hb) fun x h' ⟨e1,e2⟩=>?_
   subst e1;have:=hr h' e2;simpa[hb,Qc]using this
  ·have:=hr h (Vi _)
   simpa[hb,Qc]using this
end
end Go.AM
namespace Go.Proofs.YtgiadjbiimkbiaaGreatDoor
open Go.AM
open Go.Proofs
open Go.Col (Str FaultC okF)
open Go.Tok (TokC)
open Go.Stm
open Go.RowKit (Below)
set_option maxRecDepth 100000
def qlN(s:Str):List Str->Nat->Int
 |[],_=> -1
 |t::ts,i=>if t=s then i else qlN s ts (i+1)
theorem idxS_in(s:Str):∀(ts:List Str) (i:Nat),decide (0<=qlN s ts i)=ts.contains s
 |[],i=>rfl
 |t::ts,i=>by
  rw[qlN,List.contains_cons];by_cases h:t=s
  ·subst h
   simp
  ·have h':(s==t)=false:=by simpa using fun e=>h e.symm
   rw[if_neg h,h',VS];exact idxS_in s ts (i+1)
theorem c_indexS(w0:World)(h:AHeap)(v:AVal)(ts:List Str)(s:Str)(hv:IsStrs w0 h v ts)(hl:ts.length<=1000000):
 ACall Tryz.prog w0 132 [v, .str s] h (fun r h'=>r= .int .i64 (qlN s ts 0)/\h'=h):=by
 have hlv:=hv.live;have nv:=WC hv;refine qR (n:=19) (rs:=[.tmp 4]) Tryz.func132 rfl rfl rfl rfl (VY rfl) ?_;simp only[qU];refine awp_rseq [0,1] (by rfl) fun K hK=>?_;simp+decide only[qP,↓qa];apply hK;clear hK K;refine qi ?_;refine awp_rseq [0,1,7,8] (by rfl) fun K hK=>?_;simp+decide only[Qe,Qh,↓qc,↓Qi,nv];apply hK;clear hK K;refine qI ?_;refine Qj [0,1,7,8] (fun j:Nat=>[(0,v),(1, .str s),(7, .int .i64 ts.length),(8, .int .i64 j)]) (fun j:Nat=>h) (fun j:Nat=>j<=ts.length/\qlN s ts 0=qlN s (ts.drop j) j) (fun j:Nat=>ts.length-j) 0 (by rfl) (Vi _) ⟨Jq _,rfl⟩ ?_;rintro j ⟨hj,hq⟩;refine awp_rseq [0,1,7,8,9] (by rfl) fun K hK=>?_;simp+decide only[XP,QH,qj,QY,↓qd];apply hK;clear hK K;refine qi (qz (b:=_) rfl (fun hb1=>?_) (fun hb1=>?_))
 ·try simp only[qG]at hb1
  have hj':j<ts.length:=by omega
  obtain⟨lc,o,c,hse⟩:=qke hv (by omega);have hv3:=hv;rw[hse]at hv3;have ef:=qkf hv3 hj';have hst:qlN s (ts.drop j) j=if ts.getD j []=s then(j:Int)else qlN s (ts.drop (j+1)) (j+1):=by
   rw[Vb hj',qlN];simp[Ko,hj']
  obtain⟨f,hf⟩:∃f,f=ts.getD j []:=⟨_,rfl⟩
  rw[<-hf]at ef hst;have hwj:IntKind.i64.wrap ((j:Int)+1)=((j+1:Nat):Int):=by rw[wrap_i64 (by omega) (by omega)];omega
  refine qF ?_;change Awp _ _ _ _ _ _ _;refine qi ?_;refine qI ?_;refine awp_rseq [0,1,5,7,8] (by rfl) fun K hK=>?_;simp+decide only[Xp,↓qc,↓qa];apply hK;clear hK K;refine awp_rseq [0,1,5,7,8,16] (by rfl) fun K hK=>?_;simp+decide only[Xj,QJ,VD,qj,Qs,Zd,Bi,↓qc,↓qJ,qg Tryz.underlying22 sz9,↓qo,qf ag9,↓qd,hse,ef];repeat (with_reducible refine zqP ?_)
  apply hK;clear hK K;refine qz (b:=_) rfl (fun hb2=>?_) (fun hb2=>?_)
  ·try simp only[qG]at hb2
   refine awp_rseq [4] (by rfl) fun K hK=>?_;simp+decide only[Xp,↓qc,↓qa];apply hK;clear hK K;refine qW ?_;try simp only[XB]
   refine QG h zqC (qA (qC)) ?_;simp+decide only[QE];rw[hq,hst,if_pos hb2.symm]
  ·try simp only[qG]at hb2
   refine qF ?_;change Awp _ _ _ _ _ _ _;refine Qv [0,1,7,8] (by rfl) ?_;simp+decide only[QK,Xi,↓qd,↓qc,hwj];try simp only[QL]
   refine⟨j+1,by rw[hse];rfl,Vi _,⟨by omega,?_⟩,by omega⟩;rw[hq,hst,if_neg (fun e=>hb2 e.symm)]
 ·try simp only[qG]at hb1
  refine Qk ?_;change Awp _ _ _ _ _ _ _;refine awp_rseq [4] (by rfl) fun K hK=>?_;simp+decide only[qP,↓qa];apply hK;clear hK K;refine qW ?_;refine QG h zqC (qA (qC)) ?_;simp+decide only[QE];rw[hq,Bl (by omega)];rfl
theorem qpT(w0:World)(h:AHeap)(v:AVal)(ts:List Str)(s:Str)(hv:IsStrs w0 h v ts)(hl:ts.length<=1000000):
 ACall Tryz.prog w0 130 [v, .str s] h (fun r h'=>r= .bool (ts.contains s)/\h'=h):=by
 have hlv:=hv.live;have e:=idxS_in s ts 0;refine qR (n:=9) (rs:=[.tmp 4]) Tryz.func130 rfl rfl rfl rfl (VY rfl) ?_;simp only[qU];refine awp_rseq [0,1] (by rfl) fun K hK=>?_;simp+decide only[qP,↓qa];apply hK;clear hK K;refine awp_rseq [4] (by rfl) fun K hK=>?_;simp+decide only[Qe,↓qc];refine QC (V:= .int .i64 (qlN s ts 0)) (by rfl) (by rfl) (c_indexS w0 _ v ts s hv hl) ?_;simp+decide only[XK,QO,Za,QH,qK,↓qd,qrY,↓qa,e];apply hK;clear hK K;refine qW ?_;refine QG h zqC (qA (qC)) ?_;simp+decide only[QE];all_goals first|rfl|exact⟨rfl,rfl⟩|(simp+decide only[QI, *];done)|(trace_state;fail)
theorem c_isS1(w0:World)(h:AHeap)(v vt:AVal)(l:List TokC)(ts:List Str)(i:Nat)(k:UInt8)(hv:IsL w0 h 5 v (l.map Xg))(hl:l.length<=1000000)(ht:IsStrs w0 h vt ts)(hts:ts.length<=100)(hi:i<l.length):
 ACall Tryz.prog w0 125 [v, .int .i64 i, .int .u8 k.toNat,vt] h (fun r h'=>r= .bool (isK l i k ts)/\h'=h):=by
 have hlv:=hv.live;have nv:=ZN hv;have htl:=ht.live;have hR:isK l i k ts=(decide ((l.getD i noT).kind=k) && ts.contains (l.getD i noT).text):=by unfold isK;rw[if_pos hi]
 obtain⟨lc,o,c,hwe⟩:=Ye hv (by omega);have hv2:=hv;rw[hwe]at hv2;obtain⟨e0,e1,-⟩:=WU hv2 hi;have hkd:decide ((i:Int)<(l.length:Int))=true:=by simpa using hi
 obtain⟨t,htt⟩:∃t,t=l.getD i noT:=⟨_,rfl⟩
 rw[<-htt]at e0 e1 hR;have hk:=Yg t.kind k;rw[hR];refine qR (n:=31) (rs:=[.tmp 8]) Tryz.func125 rfl rfl rfl rfl (VY rfl) ?_;simp only[qU];refine awp_rseq [0,1,2,3] (by rfl) fun K hK=>?_;simp+decide only[qP,↓qa,Nat.reduceAdd];apply hK;clear hK K;refine awp_rseq [8] (by rfl) fun K hK=>?_;simp+decide only[Xk,QU,VD,qj,K6,ZH,Yl,QS,QY,XA,Ze,Zt,ZF,Um,qbU,↓qc,↓Qi,QV Tryz.underlying39,↓qd,↓Qy,↓Zb,qjL,qjK,qg Tryz.underlying39 Yo,↓QM,↓Xv,qf qjA,↓Qn,↓Qd,qf ag9,hwe,hkd,e0,e1,hk];repeat (with_reducible refine zqP ?_)
 (refine We (V:= .bool (ts.contains t.text)) (f:=_) (cap:=_) (xs:=_) (by first|rfl|(simp+decide only[QI,VZ,gv,nthDst,Zy,Zw])) (fun hg=>⟨rfl,?_⟩) (fun hg=>qpT w0 _ vt ts t.text ht (by omega)) ?_;· (simp+decide only[QI,qaT,Xt,VH]at hg;simp+decide only[QI,Zr,absS,absV,XH,QW,evs,JE,hg]<;>try rfl))
 simp+decide only[qP,VN,XH,VO,Ur,Xc,Xt,YS,↓Qd,↓qa];apply hK;clear hK K;refine qW ?_;refine QG h zqC (qA (qC)) ?_;simp+decide only[QE];all_goals first|rfl|exact⟨rfl,rfl⟩|(simp+decide only[QI, *];done)|(trace_state;fail)
theorem c_isS0(w0:World)(h:AHeap)(v vt:AVal)(l:List TokC)(ts:List Str)(i:Nat)(k:UInt8)(hv:IsL w0 h 5 v (l.map Xg))(hl:l.length<=1000000)(ht:IsStrs w0 h vt ts)(hi:¬i<l.length):
 ACall Tryz.prog w0 125 [v, .int .i64 i, .int .u8 k.toNat,vt] h (fun r h'=>r= .bool (isK l i k ts)/\h'=h):=by
 have hlv:=hv.live;have nv:=ZN hv;have htl:=ht.live;have hR:isK l i k ts=false:=by unfold isK;rw[if_neg hi]
 have hkd:decide ((i:Int)<(l.length:Int))=false:=by simpa using hi
 rw[hR];refine qR (n:=31) (rs:=[.tmp 8]) Tryz.func125 rfl rfl rfl rfl (VY rfl) ?_;simp only[qU];refine awp_rseq [0,1,2,3] (by rfl) fun K hK=>?_;simp+decide only[qP,↓qa,Nat.reduceAdd];apply hK;clear hK K;refine awp_rseq [8] (by rfl) fun K hK=>?_;simp+decide only[Xk,QU,qj,ZH,Yl,QS,QY,Ze,Zt,ZF,↓qc,↓Qi,↓qd,↓Qy,↓Zb,↓QM,↓Xv,↓Qn,↓Qd,nv,hkd]
 (refine qcm (by rfl) (by rfl) ?_)
 simp+decide only[qP,VN,XH,VO,Ur,Xt,YS,↓Qd,↓qa];apply hK;clear hK K;refine qW ?_;refine QG h zqC (qA (qC)) ?_;simp+decide only[QE];all_goals first|rfl|exact⟨rfl,rfl⟩|(simp+decide only[QI, *];done)|(trace_state;fail)
theorem qpP(w0:World)(h:AHeap)(v vt:AVal)(l:List TokC)(ts:List Str)(i:Nat)(k:UInt8)(hv:IsL w0 h 5 v (l.map Xg))(hl:l.length<=1000000)(ht:IsStrs w0 h vt ts)(hts:ts.length<=100):
 ACall Tryz.prog w0 125 [v, .int .i64 i, .int .u8 k.toNat,vt] h (fun r h'=>r= .bool (isK l i k ts)/\h'=h):=by
 by_cases hi:i<l.length
 ·exact c_isS1 w0 h v vt l ts i k hv hl ht hts hi
 ·exact c_isS0 w0 h v vt l ts i k hv hl ht hi
theorem c_nameS1(w0:World)(ha:Asp w0)(h:AHeap)(v:AVal)(l:List TokC)(i:Nat)(hv:IsL w0 h 5 v (l.map Xg))(hl:l.length<=1000000)(hi:i<l.length):
 ACall Tryz.prog w0 123 [v, .int .i64 i] h (fun r h'=>r= .bool (qio qZ l i)/\Sub h h'):=by
 have hlv:=hv.live;have nv:=ZN hv;have hR:qio qZ l i=(decide ((l.getD i noT).kind=1) && decide (qbM (l.getD i noT).text=0)):=by unfold qio;rw[if_pos hi];rfl
 obtain⟨lc,o,c,hwe⟩:=Ye hv (by omega);have hv2:=hv;rw[hwe]at hv2;obtain⟨e0,e1,-⟩:=WU hv2 hi;have hkd:decide ((i:Int)<(l.length:Int))=true:=by simpa using hi
 obtain⟨t,htt⟩:∃t,t=l.getD i noT:=⟨_,rfl⟩
 rw[<-htt]at e0 e1 hR;have hk:decide ((t.kind.toNat:Int)=1)=decide (t.kind=1):=Yg t.kind 1;have hw:∀n:Nat,decide ((n:Int)=0)=decide (n=0):=fun n=>by
  by_cases h:n=0
  ·subst h;rfl
  ·have:(n:Int)≠0:=by omega
   simp[h]
 rw[hR];refine qR (n:=26) (rs:=[.tmp 4]) Tryz.func123 rfl rfl rfl rfl (VY rfl) ?_;simp only[qU];refine awp_rseq [0,1] (by rfl) fun K hK=>?_;simp+decide only[qP,↓qa];apply hK;clear hK K;refine awp_rseq [4] (by rfl) fun K hK=>?_;simp+decide only[Xk,XI,VD,qj,K6,ZH,Yl,QS,QY,XA,Ze,Zt,ZF,Um,qbU,↓qc,↓Qi,QV Tryz.underlying39,↓qd,↓Qy,↓Zb,qjL,qjK,qg Tryz.underlying39 Yo,↓QM,↓Xv,qf qjA,↓Qn,↓Qd,qf ag9,hwe,hkd,e0,e1,hk];repeat (with_reducible refine zqP ?_)
 refine qar (g:= .bool (decide (t.kind=1))) (V:= .int .u8 (qbM t.text:Nat)) (f:=124) (cap:=[]) (xs:=[.str t.text]) (by rfl) (by rfl) (fun hg=>⟨rfl,by
  have hg':decide (t.kind=1)=true:=by rwa [WH]at hg
  simp+decide only[QI,Zr,XH,QW,evs,JE,hg']⟩) (fun hg=>qpK w0 ha _ t.text) fun h1q18 hs18=>?_
 have hs_h1q18:Sub h h1q18:=Br zqC hs18;have hr_h1q18:=hs_h1q18;simp+decide only[XK,QO,Za,Yw,qK,Xc,XL,QS,XA,↓Qn,↓Qd,↓qa,hw];apply hK;clear hK K;refine qW ?_;refine Qb (qA (qC)) ?_;simp+decide only[QE];exact⟨h,hs18,Vi _⟩
theorem c_nameS0(w0:World)(h:AHeap)(v:AVal)(l:List TokC)(i:Nat)(hv:IsL w0 h 5 v (l.map Xg))(hl:l.length<=1000000)(hi:¬i<l.length):
 ACall Tryz.prog w0 123 [v, .int .i64 i] h (fun r h'=>r= .bool (qio qZ l i)/\h'=h):=by
 have hlv:=hv.live;have nv:=ZN hv;have hR:qio qZ l i=false:=by unfold qio;rw[if_neg hi]
 have hkd:decide ((i:Int)<(l.length:Int))=false:=by simpa using hi
 rw[hR];refine qR (n:=26) (rs:=[.tmp 4]) Tryz.func123 rfl rfl rfl rfl (VY rfl) ?_;simp only[qU];refine awp_rseq [0,1] (by rfl) fun K hK=>?_;simp+decide only[qP,↓qa];apply hK;clear hK K;refine awp_rseq [4] (by rfl) fun K hK=>?_;simp+decide only[Xk,XI,qj,ZH,Yl,QS,QY,Ze,Zt,ZF,↓qc,↓Qi,↓qd,↓Qy,↓Zb,↓QM,↓Xv,↓Qn,↓Qd,nv,hkd]
 (refine qcm (by rfl) (by rfl) ?_)
 simp+decide only[XK,QO,Za,Yw,qK,XL,QS,↓Qn,↓Qd,↓qa];apply hK;clear hK K;refine qW ?_;refine QG h zqC (qA (qC)) ?_;simp+decide only[QE];all_goals first|rfl|exact⟨rfl,rfl⟩|(simp+decide only[QI, *];done)|(trace_state;fail)
theorem c_nameS(w0:World)(ha:Asp w0)(h:AHeap)(v:AVal)(l:List TokC)(i:Nat)(hv:IsL w0 h 5 v (l.map Xg))(hl:l.length<=1000000):
 ACall Tryz.prog w0 123 [v, .int .i64 i] h (fun r h'=>r= .bool (qio qZ l i)/\Sub h h'):=by
 by_cases hi:i<l.length
 ·exact c_nameS1 w0 ha h v l i hv hl hi
 ·exact(c_nameS0 w0 h v l i hv hl hi).mono fun r h' ⟨e1,e2⟩=>⟨e1,by rw[e2];exact Vi _⟩
theorem isK_some{l:List TokC}{i:Nat}{k:UInt8}{ts:List Str}(h:isK l i k ts=true):i<l.length:=by
 unfold isK at h;by_cases hi:i<l.length
 ·exact hi
 ·rw[if_neg hi]at h;cases h
structure GrG where
 k:Nat
 d:Int
 p:Bool
 H:AHeap
theorem qjE{w0:World}{h:AHeap}{k:Nat}{s:Str}(hk:h k=some ⟨[.str s],0⟩):IsStrs w0 h (.slice (.own k) 0 1 (.exact 1)) [s]:=Uv (l:=[s]) hk
theorem qnE{l:List TokC}{i k f:Nat}{d:Int}{p:Bool}(hk:k<l.length)(hf:f=l.length+1-k):
 qaM l i f k d p=if (if isK l k 5 [[40]]=true then d+1 else if isK l k 5 [[41]]=true then d-1 else d)=0 then(k+1-i,if isK l k 5 [[40]]=true then p else if isK l k 5 [[41]]=true then p else if isK l k 5 [[58]]=true/\d=1 then true else p)else qaM l i (l.length+1-(k+1)) (k+1) (if isK l k 5 [[40]]=true then d+1 else if isK l k 5 [[41]]=true then d-1 else d) (if isK l k 5 [[40]]=true then p else if isK l k 5 [[41]]=true then p else if isK l k 5 [[58]]=true/\d=1 then true else p):=by
 obtain⟨g,hg⟩:∃g,f=g+1:=⟨l.length-k,by omega⟩
 rw[hg,qaM,if_pos hk,show l.length+1-(k+1)=g by omega]
set_option maxHeartbeats 2000000 in
theorem c_group(w0:World)(h:AHeap)(v:AVal)(l:List TokC)(i:Nat)(hv:IsL w0 h 5 v (l.map Xg))(hl:l.length<=1000000):
 ACall Tryz.prog w0 126 [v, .int .i64 i] h (fun r h'=>r= .tuple [.int .i64 (WI l i).1, .bool (WI l i).2]/\Sub h h'):=by
 have hlv:=hv.live;have nv:=ZN hv;have hR:WI l i=if isK l i 5 [[40]]=true then qaM l i (l.length+1-i) i 0 false else(0,false):=rfl
 obtain⟨R,hR'⟩:∃R,R=WI l i:=⟨_,rfl⟩
 rw[<-hR']at hR|-
 refine qR (n:=51) (rs:=[.tmp 4, .tmp 5]) Tryz.func126 rfl rfl rfl rfl (VY rfl) ?_;simp only[qU];refine awp_rseq [0,1] (by rfl) fun K hK=>?_;simp+decide only[qP,↓qa];apply hK;clear hK K;refine qi ?_;refine awp_rseq [0,1,13] (by rfl) fun K hK=>?_;simp+decide only[Qe,↓qc];refine qO (cs:=[.str [40]]) (by kernel_rfl) fun k1q2 hk1q2=>?_;try have hf_1q2:h k1q2=none:=by first|assumption|(simp only[Bd]at hk1q2;simp only[hk1q2])
 refine QC (V:= .bool (isK l i 5 [[40]])) (by rfl) (by rfl) (qpP w0 _ v _ l [[40]] i 5 (hv.mono zqB) hl (qjE zqA) (by decide)) ?_;simp+decide only[qV,YF,Zf,↓qdf];apply hK;clear hK K;refine qz (b:=_) rfl (fun hb1=>?_) (fun hb1=>?_)
 ·try simp only[qG]at hb1
  rw[if_neg (by rw[hb1];decide)]at hR;refine awp_rseq [4,5] (by rfl) fun K hK=>?_;simp+decide only[qP,↓qa];apply hK;clear hK K;refine qW ?_;try simp only[XB]
  refine Qb (qA (qA (qC))) ?_;simp+decide only[qV,Zz];rw[hR];exact⟨h,zqB,rfl,Vi _⟩
 ·try simp only[qG]at hb1
  rw[if_pos hb1]at hR;have hil:=isK_some hb1;refine qF ?_;change Awp _ _ _ _ _ _ _;refine awp_rseq [0,1,6,7] (by rfl) fun K hK=>?_;simp+decide only[qP,↓qa];apply hK;clear hK K;refine qi ?_;refine awp_rseq [0,1,6,7,8] (by rfl) fun K hK=>?_;simp+decide only[Xp,↓qc,↓qa];apply hK;clear hK K;refine qI ?_;refine Qj [0,1,6,7,8] (fun g:GrG=>[(0,v),(1, .int .i64 i),(6, .int .i64 g.d),(7, .bool g.p),(8, .int .i64 g.k)]) (fun g:GrG=>g.H) (fun g:GrG=>i<=g.k/\g.k<=l.length/\ -1<=g.d+g.k/\g.d<=g.k/\Sub h g.H/\R=qaM l i (l.length+1-g.k) g.k g.d g.p) (fun g:GrG=>l.length-g.k) ⟨i,0,false,_⟩ (by rfl) (Vi _) ⟨KL _,by simp only;omega,by simp only;omega,by simp only;omega,zqB,hR⟩ ?_;rintro⟨k,d,p,H⟩ ⟨g1,g2,g3,g4,hs_H,g5⟩;simp only at g1 g2 g3 g4 hs_H g5|-
  refine qi ?_;refine awp_rseq [0,1,6,7,8,18] (by rfl) fun K hK=>?_;simp+decide only[QK,qj,Qh,QY,↓qc,↓Qi,↓qd,nv];apply hK;clear hK K;refine qz (b:=_) rfl (fun hb2=>?_) (fun hb2=>?_)
  ·try simp only[qG]at hb2
   have hk:k<l.length:=by omega
   have hst:=qnE (i:=i) (d:=d) (p:=p) hk rfl;rw[<-g5]at hst;refine qF ?_;change Awp _ _ _ _ _ _ _;refine qi ?_;refine qI ?_;refine qi ?_;refine qI ?_;refine awp_rseq [0,1,6,7,8,21] (by rfl) fun K hK=>?_;simp+decide only[Qe,↓qc];refine qO (cs:=[.str [40]]) (by kernel_rfl) fun k7q2 hk7q2=>?_;have hn_7q2:H k7q2=none:=by first|assumption|(simp only[Bd]at hk7q2;simp only[hk7q2])
   have hf_7q2:h k7q2=none:=Be hs_H hn_7q2;refine QC (V:= .bool (isK l k 5 [[40]])) (by rfl) (by rfl) (qpP w0 _ v _ l [[40]] k 5 (hv.mono zqB) hl (qjE zqA) (by decide)) ?_;simp+decide only[qP,↓qa];apply hK;clear hK K;refine qz (b:=_) rfl (fun hb3=>?_) (fun hb3=>?_)
   ·skip
    simp only[if_pos hb3]at hst;have hwd:IntKind.i64.wrap (d+1)=d+1:=wrap_i64 (by omega) (by omega);refine Qv [0,1,6,7,8] (by rfl) ?_;simp+decide only[XD,Xi,↓qc,↓qd,↓qa,hwd];change Awp _ _ _ _ _ _ _;refine awp_rseq [0,1,6,7,8,45] (by rfl) fun K hK=>?_;simp+decide only[QK,qK,XA,↓qc,↓qd];apply hK;clear hK K;refine qz (b:=_) rfl (fun hb4=>?_) (fun hb4=>?_)
    ·try simp only[qG]at hb4
     rw[if_pos hb4]at hst;have hw1:IntKind.i64.wrap ((k:Int)+1)=(k:Int)+1:=wrap_i64 (by omega) (by omega);have hw2:((k+1-i:Nat):Int)=(k:Int)+1-i:=by omega
     refine awp_rseq [4,5] (by rfl) fun K hK=>?_;simp+decide only[XD,qK,qj,XJ,WW,↓qc,↓qd,↓qa];try simp(disch:=omega)only[wrap_i64,wrap_u8]
     apply hK;clear hK K;refine qW ?_;try simp only[XB]
     refine Qb (qA (qA (qC))) ?_;simp+decide only[qV,Zz];rw[hst];exact⟨_,Vi _,by rw[hw2],zqB⟩
    ·try simp only[qG]at hb4
     rw[if_neg hb4]at hst;have hw1:IntKind.i64.wrap ((k:Int)+1)=((k+1:Nat):Int):=by rw[wrap_i64 (by omega) (by omega)];omega
     refine qF ?_;change Awp _ _ _ _ _ _ _;refine Qv [0,1,6,7,8] (by rfl) ?_;simp+decide only[XD,Xi,↓qc,↓qd,↓qa];try simp(disch:=omega)only[wrap_i64,wrap_u8]
     try simp only[QL]
     all_goals first
     |exact⟨⟨k+1,d+1,p,_⟩,rfl,Vi _,⟨by simp only;omega,by simp only;omega,by simp only;omega,by simp only;omega,zqB,hst⟩,by simp only;omega⟩
     |exact⟨⟨k+1,d-1,p,_⟩,rfl,Vi _,⟨by simp only;omega,by simp only;omega,by simp only;omega,by simp only;omega,zqB,hst⟩,by simp only;omega⟩
     |exact⟨⟨k+1,d,true,_⟩,rfl,Vi _,⟨by simp only;omega,by simp only;omega,by simp only;omega,by simp only;omega,zqB,hst⟩,by simp only;omega⟩
     |exact⟨⟨k+1,d,p,_⟩,rfl,Vi _,⟨by simp only;omega,by simp only;omega,by simp only;omega,by simp only;omega,zqB,hst⟩,by simp only;omega⟩
     |(trace_state;fail)
   ·skip
    simp only[if_neg (show ¬isK l k 5 [[40]]=true by rw[hb3];decide)]at hst;refine awp_rseq [0,1,6,7,8,28] (by rfl) fun K hK=>?_;simp+decide only[Qe,↓qc];refine qO (cs:=[.str [41]]) (by kernel_rfl) fun k9q2 hk9q2=>?_;have ne_9q2_7q2:k9q2≠k7q2:=by simp only[Bd]at hk9q2;simp only[Yv,hk9q2]
    have hn_9q2:H k9q2=none:=by first|assumption|(simp only[Bd]at hk9q2;simp only[hk9q2])
    have hf_9q2:h k9q2=none:=Be hs_H hn_9q2;refine QC (V:= .bool (isK l k 5 [[41]])) (by rfl) (by rfl) (qpP w0 _ v _ l [[41]] k 5 (hv.mono zqB) hl (qjE zqA) (by decide)) ?_;simp+decide only[qP,↓qa];apply hK;clear hK K;refine qz (b:=_) rfl (fun hb5=>?_) (fun hb5=>?_)
    ·skip
     simp only[if_pos hb5]at hst;have hwd:IntKind.i64.wrap (d-1)=d-1:=wrap_i64 (by omega) (by omega);refine Qv [0,1,6,7,8] (by rfl) ?_;simp+decide only[XD,qK,WW,↓qc,↓qd,↓qa,hwd];change Awp _ _ _ _ _ _ _;refine awp_rseq [0,1,6,7,8,45] (by rfl) fun K hK=>?_;simp+decide only[QK,qK,XA,↓qc,↓qd];apply hK;clear hK K;refine qz (b:=_) rfl (fun hb6=>?_) (fun hb6=>?_)
     ·try simp only[qG]at hb6
      rw[if_pos hb6]at hst;have hw1:IntKind.i64.wrap ((k:Int)+1)=(k:Int)+1:=wrap_i64 (by omega) (by omega);have hw2:((k+1-i:Nat):Int)=(k:Int)+1-i:=by omega
      refine awp_rseq [4,5] (by rfl) fun K hK=>?_;simp+decide only[XD,qK,qj,XJ,WW,↓qc,↓qd,↓qa];try simp(disch:=omega)only[wrap_i64,wrap_u8]
      apply hK;clear hK K;refine qW ?_;try simp only[XB]
      refine Qb (qA (qA (qC))) ?_;simp+decide only[qV,Zz];rw[hst];exact⟨_,Vi _,by rw[hw2],zqB⟩
     ·try simp only[qG]at hb6
      rw[if_neg hb6]at hst;have hw1:IntKind.i64.wrap ((k:Int)+1)=((k+1:Nat):Int):=by rw[wrap_i64 (by omega) (by omega)];omega
      refine qF ?_;change Awp _ _ _ _ _ _ _;refine Qv [0,1,6,7,8] (by rfl) ?_;simp+decide only[XD,Xi,↓qc,↓qd,↓qa];try simp(disch:=omega)only[wrap_i64,wrap_u8]
      try simp only[QL]
      all_goals first
      |exact⟨⟨k+1,d+1,p,_⟩,rfl,Vi _,⟨by simp only;omega,by simp only;omega,by simp only;omega,by simp only;omega,zqB,hst⟩,by simp only;omega⟩
      |exact⟨⟨k+1,d-1,p,_⟩,rfl,Vi _,⟨by simp only;omega,by simp only;omega,by simp only;omega,by simp only;omega,zqB,hst⟩,by simp only;omega⟩
      |exact⟨⟨k+1,d,true,_⟩,rfl,Vi _,⟨by simp only;omega,by simp only;omega,by simp only;omega,by simp only;omega,zqB,hst⟩,by simp only;omega⟩
      |exact⟨⟨k+1,d,p,_⟩,rfl,Vi _,⟨by simp only;omega,by simp only;omega,by simp only;omega,by simp only;omega,zqB,hst⟩,by simp only;omega⟩
      |(trace_state;fail)
    ·skip
     simp only[if_neg (show ¬isK l k 5 [[41]]=true by rw[hb5];decide)]at hst;refine awp_rseq [0,1,6,7,8,35] (by rfl) fun K hK=>?_;simp+decide only[Qe,↓qc];refine qO (cs:=[.str [58]]) (by kernel_rfl) fun k11q2 hk11q2=>?_;have ne_11q2_7q2:k11q2≠k7q2:=by simp only[Bd]at hk11q2;simp only[Yv,hk11q2]
     have ne_11q2_9q2:k11q2≠k9q2:=by simp only[Bd]at hk11q2;simp only[Yv,hk11q2]
     have hn_11q2:H k11q2=none:=by first|assumption|(simp only[Bd]at hk11q2;simp only[hk11q2])
     have hf_11q2:h k11q2=none:=Be hs_H hn_11q2;refine QC (V:= .bool (isK l k 5 [[58]])) (by rfl) (by rfl) (qpP w0 _ v _ l [[58]] k 5 (hv.mono zqB) hl (qjE zqA) (by decide)) ?_;simp+decide only[ZR,Yw,qK,XL,QS,XA,↓qc,↓Qy,↓Qn,↓Qd,↓qa];apply hK;clear hK K;refine qz (b:=_) rfl (fun hb7=>?_) (fun hb7=>?_)
     ·try simp only[qG]at hb7
      simp only[if_pos hb7]at hst;refine Qv [0,1,6,7,8] (by rfl) ?_;simp+decide only[qP,↓qa];change Awp _ _ _ _ _ _ _;refine awp_rseq [0,1,6,7,8,45] (by rfl) fun K hK=>?_;simp+decide only[QK,qK,XA,↓qc,↓qd];apply hK;clear hK K;refine qz (b:=_) rfl (fun hb8=>?_) (fun hb8=>?_)
      ·try simp only[qG]at hb8
       rw[if_pos hb8]at hst;have hw1:IntKind.i64.wrap ((k:Int)+1)=(k:Int)+1:=wrap_i64 (by omega) (by omega);have hw2:((k+1-i:Nat):Int)=(k:Int)+1-i:=by omega
       refine awp_rseq [4,5] (by rfl) fun K hK=>?_;simp+decide only[XD,qK,qj,XJ,WW,↓qc,↓qd,↓qa];try simp(disch:=omega)only[wrap_i64,wrap_u8]
       apply hK;clear hK K;refine qW ?_;try simp only[XB]
       refine Qb (qA (qA (qC))) ?_;simp+decide only[qV,Zz];rw[hst];exact⟨_,Vi _,by rw[hw2],zqB⟩
      ·try simp only[qG]at hb8
       rw[if_neg hb8]at hst;have hw1:IntKind.i64.wrap ((k:Int)+1)=((k+1:Nat):Int):=by rw[wrap_i64 (by omega) (by omega)];omega
       refine qF ?_;change Awp _ _ _ _ _ _ _;refine Qv [0,1,6,7,8] (by rfl) ?_;simp+decide only[XD,Xi,↓qc,↓qd,↓qa];try simp(disch:=omega)only[wrap_i64,wrap_u8]
       try simp only[QL]
       all_goals first
       |exact⟨⟨k+1,d+1,p,_⟩,rfl,Vi _,⟨by simp only;omega,by simp only;omega,by simp only;omega,by simp only;omega,zqB,hst⟩,by simp only;omega⟩
       |exact⟨⟨k+1,d-1,p,_⟩,rfl,Vi _,⟨by simp only;omega,by simp only;omega,by simp only;omega,by simp only;omega,zqB,hst⟩,by simp only;omega⟩
       |exact⟨⟨k+1,d,true,_⟩,rfl,Vi _,⟨by simp only;omega,by simp only;omega,by simp only;omega,by simp only;omega,zqB,hst⟩,by simp only;omega⟩
       |exact⟨⟨k+1,d,p,_⟩,rfl,Vi _,⟨by simp only;omega,by simp only;omega,by simp only;omega,by simp only;omega,zqB,hst⟩,by simp only;omega⟩
       |(trace_state;fail)
     ·try simp only[qG]at hb7
      simp only[if_neg (show ¬(isK l k 5 [[58]]=true/\d=1)from fun q=>by rcases hb7 with z|z;(· rw[q.1]at z;cases z);exact z q.2)]at hst;refine qF ?_;change Awp _ _ _ _ _ _ _;refine awp_rseq [0,1,6,7,8,45] (by rfl) fun K hK=>?_;simp+decide only[QK,qK,XA,↓qc,↓qd];apply hK;clear hK K;refine qz (b:=_) rfl (fun hb9=>?_) (fun hb9=>?_)
      ·try simp only[qG]at hb9
       rw[if_pos hb9]at hst;have hw1:IntKind.i64.wrap ((k:Int)+1)=(k:Int)+1:=wrap_i64 (by omega) (by omega);have hw2:((k+1-i:Nat):Int)=(k:Int)+1-i:=by omega
       refine awp_rseq [4,5] (by rfl) fun K hK=>?_;simp+decide only[XD,qK,qj,XJ,WW,↓qc,↓qd,↓qa];try simp(disch:=omega)only[wrap_i64,wrap_u8]
       apply hK;clear hK K;refine qW ?_;try simp only[XB]
       refine Qb (qA (qA (qC))) ?_;simp+decide only[qV,Zz];rw[hst];exact⟨_,Vi _,by rw[hw2],zqB⟩
      ·try simp only[qG]at hb9
       rw[if_neg hb9]at hst;have hw1:IntKind.i64.wrap ((k:Int)+1)=((k+1:Nat):Int):=by rw[wrap_i64 (by omega) (by omega)];omega
       refine qF ?_;change Awp _ _ _ _ _ _ _;refine Qv [0,1,6,7,8] (by rfl) ?_;simp+decide only[XD,Xi,↓qc,↓qd,↓qa];try simp(disch:=omega)only[wrap_i64,wrap_u8]
       try simp only[QL]
       all_goals first
       |exact⟨⟨k+1,d+1,p,_⟩,rfl,Vi _,⟨by simp only;omega,by simp only;omega,by simp only;omega,by simp only;omega,zqB,hst⟩,by simp only;omega⟩
       |exact⟨⟨k+1,d-1,p,_⟩,rfl,Vi _,⟨by simp only;omega,by simp only;omega,by simp only;omega,by simp only;omega,zqB,hst⟩,by simp only;omega⟩
       |exact⟨⟨k+1,d,true,_⟩,rfl,Vi _,⟨by simp only;omega,by simp only;omega,by simp only;omega,by simp only;omega,zqB,hst⟩,by simp only;omega⟩
       |exact⟨⟨k+1,d,p,_⟩,rfl,Vi _,⟨by simp only;omega,by simp only;omega,by simp only;omega,by simp only;omega,zqB,hst⟩,by simp only;omega⟩
       |(trace_state;fail)
  ·try simp only[qG]at hb2
   have hk:k=l.length:=by omega
   have hst:R=(0,false):=by
    rw[g5,hk,show l.length+1-l.length=0+1 by omega,qaM,if_neg (Nat.lt_irrefl _)]
   refine Qk ?_;change Awp _ _ _ _ _ _ _;refine awp_rseq [4,5] (by rfl) fun K hK=>?_;simp+decide only[qP,↓qa];apply hK;clear hK K;refine qW ?_;refine Qb (qA (qA (qC))) ?_;simp+decide only[qV,Zz];rw[hst];exact⟨H,Vi _,rfl,hs_H⟩
def operV:Option Nat->AVal
 |some n=> .tuple [.int .i64 n, .int .i64 0]
 |none=> .tuple [.int .i64 0, .int .i64 4]
structure QuG where
 n:Nat
 f:Nat
 H:AHeap
theorem qmE{W:Words}{l:List TokC}{i:Nat}(h:qio W l i=true):i<l.length:=by
 unfold qio at h;by_cases hi:i<l.length
 ·exact hi
 ·rw[if_neg hi]at h;cases h
theorem qkI(l:List TokC)(i:Nat):∀(f k:Nat) (d:Int) (p:Bool),i<=k->i<=l.length->i+(qaM l i f k d p).1<=l.length
 |0,k,d,p,hk,hi=>by simpa[qaM]using hi
 |f+1,k,d,p,hk,hi=>by
  rw[qaM];by_cases h:k<l.length
  ·rw[if_pos h]
   simp only;generalize (if isK l k 5 [[40]]=true then d+1 else if isK l k 5 [[41]]=true then d-1 else d)=d';generalize (if isK l k 5 [[40]]=true then p else if isK l k 5 [[41]]=true then p else if isK l k 5 [[58]]=true/\d=1 then true else p)=p';by_cases h2:d'=0
   ·rw[if_pos h2];simp only;omega
   ·rw[if_neg h2];exact qkI l i f (k+1) _ _ (by omega) hi
  ·rw[if_neg h];simpa using hi
theorem qmH{l:List TokC}{i:Nat}(hi:i<=l.length):i+(WI l i).1<=l.length:=by
 unfold WI;split
 ·exact qkI l i _ i 0 false (KL _) hi
 ·simpa using hi
def qhd(l:List TokC):Bool:=if l=[]then true else !(decide ((l.getD 0 noT).kind=2)||decide ((l.getD 0 noT).kind=3)||(decide ((l.getD 0 noT).kind=1) && decide (qbM (l.getD 0 noT).text=3)))
structure OpG where
 b:Bool
 H:AHeap
set_option maxHeartbeats 4000000 in
theorem c_operand(w0:World)(ha:Asp w0)(h:AHeap)(v:AVal)(l:List TokC)(hv:IsL w0 h 5 v (l.map Xg))(hl:l.length<=1000000):
 ACall Tryz.prog w0 113 [v] h (fun r h'=>r=operV (qdD qZ l)/\Sub h h'):=by
 have hlv:=hv.live;have nv:=ZN hv;have hR:qdD qZ l=if qio qZ l 0=true then some (if 0<(WI l (WN qZ l l.length 1)).1/\(WI l (WN qZ l l.length 1)).2=false then(if (WI l (WN qZ l l.length 1+(WI l (WN qZ l l.length 1)).1)).2=true then WN qZ l l.length 1+(WI l (WN qZ l l.length 1)).1+(WI l (WN qZ l l.length 1+(WI l (WN qZ l l.length 1)).1)).1 else WN qZ l l.length 1+(WI l (WN qZ l l.length 1)).1)else WN qZ l l.length 1+(WI l (WN qZ l l.length 1)).1)
  else if l=[]then none else if (l.getD 0 noT).kind=2\/(l.getD 0 noT).kind=3\/((l.getD 0 noT).kind=1/\decide (qbM (l.getD 0 noT).text=3)=true)then some 1 else none:=rfl
 obtain⟨R,hR'⟩:∃R,R=qdD qZ l:=⟨_,rfl⟩
 rw[<-hR']at hR|-
 refine qR (n:=82) (rs:=[.tmp 2, .tmp 3]) Tryz.func113 rfl rfl rfl rfl (VY rfl) ?_;simp only[qU];refine awp_rseq [0] (by rfl) fun K hK=>?_;simp+decide only[qP,↓qa];apply hK;clear hK K;refine qi ?_;refine awp_rseq [0,11] (by rfl) fun K hK=>?_;simp+decide only[Qe,↓qc];refine qE (by rfl) (by rfl) (c_nameS w0 ha _ v l 0 hv hl) fun x1q1 h1q1 hx1q1=>?_;obtain⟨rfl,hs1⟩:=hx1q1;have hs_h1q1:Sub h h1q1:=Br zqC hs1;have hr_h1q1:=hs_h1q1;simp+decide only[qV,YF,Zf,↓qdf];apply hK;clear hK K;refine qz (b:=_) rfl (fun hb1=>?_) (fun hb1=>?_)
 ·try simp only[qG]at hb1
  rw[if_neg (by rw[hb1];decide)]at hR;have hR2:R=if qhd l=true then none else some 1:=by
   rw[hR];unfold qhd;by_cases hl0:l=[]
   ·rw[if_pos hl0,if_pos hl0];rfl
   ·rw[if_neg hl0,if_neg hl0]
    by_cases q:(l.getD 0 noT).kind=2\/(l.getD 0 noT).kind=3\/((l.getD 0 noT).kind=1/\decide (qbM (l.getD 0 noT).text=3)=true)
    ·rw[if_pos q,if_neg]
     simp only[decide_eq_true_eq,Jh,decide_eq_false_iff_not,VI,Bt];rintro⟨⟨q1,q2⟩,q3⟩;rcases q with q|q|q
     ·exact q1 q
     ·exact q2 q
     ·exact q3 q.1 (of_decide_eq_true q.2)
    ·rw[if_neg q,if_pos]
     simp only[decide_eq_true_eq,Jh,decide_eq_false_iff_not,VI,Bt];exact⟨⟨fun z=>q (.inl z),fun z=>q (.inr (.inl z))⟩,fun z1 z2=>q (.inr (.inr ⟨z1,decide_eq_true z2⟩))⟩
  clear hR;refine qi ?_;have mcase:(∃(lc:AM.Loc) (o:Nat) (c:Cap),v=v/\decide ((l.length:Int)=0)=true/\True/\True/\True/\True/\True/\True/\qhd l=true)\/
   (∃(lc:AM.Loc) (o:Nat) (c:Cap),v= .slice lc o l.length c/\decide ((l.length:Int)=0)=false/\((0:Int)<l.length)=True/\decide (((l.getD 0 noT).kind.toNat:Int)=2)=true/\True/\True/\rd w0 h1q1 lc o= .int .u8 (l.getD 0 noT).kind.toNat/\True/\qhd l=false)\/
   (∃(lc:AM.Loc) (o:Nat) (c:Cap),v= .slice lc o l.length c/\decide ((l.length:Int)=0)=false/\((0:Int)<l.length)=True/\decide (((l.getD 0 noT).kind.toNat:Int)=2)=false/\decide (((l.getD 0 noT).kind.toNat:Int)=3)=true/\True/\rd w0 h1q1 lc o= .int .u8 (l.getD 0 noT).kind.toNat/\True/\qhd l=false)\/
   (∃(lc:AM.Loc) (o:Nat) (c:Cap),v= .slice lc o l.length c/\decide ((l.length:Int)=0)=false/\((0:Int)<l.length)=True/\decide (((l.getD 0 noT).kind.toNat:Int)=2)=false/\decide (((l.getD 0 noT).kind.toNat:Int)=3)=false/\decide (((l.getD 0 noT).kind.toNat:Int)=1)=false/\rd w0 h1q1 lc o= .int .u8 (l.getD 0 noT).kind.toNat/\True/\qhd l=true)\/
   (∃(lc:AM.Loc) (o:Nat) (c:Cap),v= .slice lc o l.length c/\decide ((l.length:Int)=0)=false/\((0:Int)<l.length)=True/\decide (((l.getD 0 noT).kind.toNat:Int)=2)=false/\decide (((l.getD 0 noT).kind.toNat:Int)=3)=false/\decide (((l.getD 0 noT).kind.toNat:Int)=1)=true/\rd w0 h1q1 lc o= .int .u8 (l.getD 0 noT).kind.toNat/\rd w0 h1q1 lc (o+1)= .str (l.getD 0 noT).text/\qhd l= !decide (((qbM (l.getD 0 noT).text:Nat):Int)=3)):=by
   have hb:qhd l=if l=[]then true else !(decide ((l.getD 0 noT).kind=2)||decide ((l.getD 0 noT).kind=3)||(decide ((l.getD 0 noT).kind=1) && decide (qbM (l.getD 0 noT).text=3))):=rfl
   by_cases hl0:l=[]
   ·rw[if_pos hl0]at hb
    exact .inl ⟨.base 0,0, .exact 0,rfl,by rw[hl0];rfl,trivial,trivial,trivial,trivial,trivial,trivial,hb⟩
   ·rw[if_neg hl0]at hb
    have hn:0<l.length:=Bu.2 hl0;obtain⟨lc,o,c,hwe⟩:=Ye hv hn;have hv2:=hv.mono hr_h1q1;rw[hwe]at hv2;obtain⟨e0,e1,-⟩:=WU hv2 hn;rw[K7,K6]at e0 e1;have hkd:decide ((l.length:Int)=0)=false:=by rw[decide_eq_false_iff_not];omega
    have hp:((0:Int)<l.length)=True:=eq_true (by omega);obtain⟨t,ht⟩:∃t,t=l.getD 0 noT:=⟨_,rfl⟩
    rw[<-ht]at e0 e1 hb|-
    have z2:decide ((t.kind.toNat:Int)=2)=decide (t.kind=2):=Yg t.kind 2;have z3:decide ((t.kind.toNat:Int)=3)=decide (t.kind=3):=Yg t.kind 3;have z1:decide ((t.kind.toNat:Int)=1)=decide (t.kind=1):=Yg t.kind 1;rw[z1,z2,z3];by_cases q2:t.kind=2
    ·exact .inr (.inl ⟨lc,o,c,hwe,hkd,hp,by simpa using q2,trivial,trivial,e0,trivial,by rw[hb,decide_eq_true q2];rfl⟩)
    ·rw[decide_eq_false q2]at hb
     by_cases q3:t.kind=3
     ·exact .inr (.inr (.inl ⟨lc,o,c,hwe,hkd,hp,by simpa using q2,by simpa using q3,trivial,e0,trivial,by rw[hb,decide_eq_true q3];rfl⟩))
     ·rw[decide_eq_false q3]at hb
      by_cases q1:t.kind=1
      ·rw[decide_eq_true q1]at hb
       refine .inr (.inr (.inr (.inr ⟨lc,o,c,hwe,hkd,hp,by simpa using q2,by simpa using q3,by simpa using q1,e0,e1,?_⟩)));rw[hb,VS,VS,VN];congr 1;by_cases q:qbM t.text=3
       ·rw[q];rfl
       ·rw[decide_eq_false q,decide_eq_false (by omega)]
      ·exact .inr (.inr (.inr (.inl ⟨lc,o,c,hwe,hkd,hp,by simpa using q2,by simpa using q3,by simpa using q1,e0,trivial,by rw[hb,decide_eq_false q1];rfl⟩)))
  refine awp_rseq [43] (by kernel_rfl) fun K hK=>?_;suffices hM:∀g:OpG,g.b=qhd l/\Sub h1q1 g.H->K [(43, .bool g.b)] (g.H) by
   rcases mcase with⟨lc,o,c,hwe,hkd,hp,hk2,hk3,hk1,e0,e1,hbad⟩|⟨lc,o,c,hwe,hkd,hp,hk2,hk3,hk1,e0,e1,hbad⟩|⟨lc,o,c,hwe,hkd,hp,hk2,hk3,hk1,e0,e1,hbad⟩|⟨lc,o,c,hwe,hkd,hp,hk2,hk3,hk1,e0,e1,hbad⟩|⟨lc,o,c,hwe,hkd,hp,hk2,hk3,hk1,e0,e1,hbad⟩<;>(
    simp+decide only[Xk,XI,Xc,ZH,Yl,QS,XA,Ze,Zt,ZF,WY,Um,K7,qbU,Bv,↓qc,↓Qi,QV Tryz.underlying39,↓qd,↓Qy,↓Zb,qg Tryz.underlying39 Yo,↓QM,↓Xv,qf qjA,↓Qn,↓UE,qf ag9,nv,hwe,hkd,hp,hk2,hk3,hk1,e0,e1,gb_no];have hs27r:Sub h1q1 h1q1:=Vi _;first
    |(refine qar (g:= .tuple []) (V:= .int .u8 0) (f:=0) (cap:=[]) (xs:=[]) (by rfl) (by rfl) (fun hg=>absurd hg (by decide)) (fun hg=>absurd hg (by decide)) fun h2q27 hs27=>?_)
    |(refine qar (g:= .bool true) (V:= .int .u8 0) (f:=0) (cap:=[]) (xs:=[]) (by rfl) (by rfl) (fun hg=>absurd hg (by decide)) (fun hg=>absurd hg (by decide)) fun h2q27 hs27=>?_)
    |(refine qar (g:= .bool false) (V:= .int .u8 (qbM (l.getD 0 noT).text:Nat)) (f:=124) (cap:=[]) (xs:=[.str (l.getD 0 noT).text]) (by rfl) (by rfl) (fun _=>⟨rfl,rfl⟩) (fun _=>qpK w0 ha _ _) fun h2q27 hs27=>?_)
    simp+decide only[XP,Yw,qK,Xc,XL,QS,WY,↓Qn,↓UE,↓Qd,gb_no];first
    |exact hM ⟨_,_⟩ ⟨hbad.symm,by assumption⟩
    |(trace_state;fail))
  intro g hb_2;apply hK;clear hK K;refine qz (b:=_) rfl (fun hb2=>?_) (fun hb2=>?_)
  ·skip
   refine awp_rseq [2,3] (by rfl) fun K hK=>?_;simp+decide only[qP,↓qa];apply hK;clear hK K;refine qW ?_;try simp only[XB]
   refine Qb (qA (qA (qC))) ?_;simp+decide only[qV,Zz];rw[hR2,if_pos (by rw[<-hb_2.1];exact hb2)];exact⟨g.H,Vi _,rfl,hs_h1q1.trans hb_2.2⟩
  ·skip
   refine qF ?_;change Awp _ _ _ _ _ _ _;refine awp_rseq [2,3] (by rfl) fun K hK=>?_;simp+decide only[qP,↓qa];apply hK;clear hK K;refine qW ?_;try simp only[XB]
   refine Qb (qA (qA (qC))) ?_;simp+decide only[qV,Zz];rw[hR2,if_neg (by rw[<-hb_2.1,hb2];decide)];exact⟨g.H,Vi _,rfl,hs_h1q1.trans hb_2.2⟩
 ·try simp only[qG]at hb1
  rw[if_pos hb1]at hR;have hn1:=qmE hb1;refine qF ?_;change Awp _ _ _ _ _ _ _;refine awp_rseq [0,4] (by rfl) fun K hK=>?_;simp+decide only[qP,↓qa];apply hK;clear hK K;refine qi ?_;refine qI ?_;refine Qj [0,4] (fun g:QuG=>[(0,v),(4, .int .i64 g.n)]) (fun g:QuG=>g.H) (fun g:QuG=>Sub h g.H/\g.n<=l.length/\l.length<=g.f+g.n/\WN qZ l l.length 1=WN qZ l g.f g.n) (fun g:QuG=>l.length-g.n) ⟨1,l.length,_⟩ (by rfl) (Vi _) ⟨zqB,by simp only;omega,by simp only;omega,rfl⟩ ?_;rintro⟨n,f,H⟩ ⟨hs_H,g1,g2,g3⟩;simp only at hs_H g1 g2 g3|-
  refine qi ?_;obtain⟨kb,hkb⟩:∃kb,kb=isK l n 1 [[79,70],[73,78]]:=⟨_,rfl⟩
  refine awp_rseq [0,4,53] (by rfl) fun K hK=>?_;simp+decide only[Qe,↓qc];refine qO (cs:=[.str [79,70], .str [73,78]]) (by kernel_rfl) fun k6q2 hk6q2=>?_;have hn_6q2:H k6q2=none:=by first|assumption|(simp only[Bd]at hk6q2;simp only[hk6q2])
  have hf_6q2:h k6q2=none:=Be hs_H hn_6q2;refine QC (V:= .bool kb) (by rfl) (by rfl) (by rw[hkb];exact qpP w0 _ v _ l _ n 1 (hv.mono zqB) hl (Uv (l:=[[79,70],[73,78]]) zqA) (by decide)) ?_;simp+decide only[Xk,qK,Xt,YJ,XJ,Yy,QS,↓qc,↓Qy,↓Qn];try simp(disch:=omega)only[wrap_i64,wrap_u8]
  refine qar (g:= .bool kb) (V:= .bool (qio qZ l (n+1))) (f:=123) (cap:=[]) (xs:=[v, .int .i64 ((n+1:Nat):Int)]) (by rfl) (by rfl) (fun hg=>⟨rfl,by
   have hg':kb=true:=by rwa [WH]at hg
   simp+decide only[QI,Zr,XH,QW,evs,JE,hg'];rfl⟩) (fun hg=>c_nameS w0 ha _ v l (n+1) (hv.mono zqB) hl) fun h6q8 hs68=>?_
  have hs_h6q8:Sub h h6q8:=Br zqC hs68;have hr_h6q8:Sub H h6q8:=Br zqC hs68;have eb_6q2:=hs68 k6q2 _ zqA;simp+decide only[qV,Xt,YS,↓Qd];apply hK;clear hK K;refine qz (b:=_) rfl (fun hb3=>?_) (fun hb3=>?_)
  ·try simp only[qG]at hb3
   obtain⟨q1,q2⟩:=hb3;have hn2:=qmE q2;obtain⟨f',hf'⟩:∃f',f=f'+1:=⟨f-1,by omega⟩
   rw[hf',WN,if_pos ⟨by rw[<-hkb];exact q1,q2⟩]at g3;refine qF ?_;change Awp _ _ _ _ _ _ _;refine qI ?_;refine Qv [0,4] (by rfl) ?_;simp+decide only[XD,Xi,↓qc,↓qd,↓qa];try simp(disch:=omega)only[wrap_i64,wrap_u8]
   try simp only[QL]
   exact⟨⟨n+2,f',_⟩,rfl,Vi _,⟨zqB,by simp only;omega,by simp only;omega,g3⟩,by simp only;omega⟩
  ·try simp only[qG]at hb3
   have g4:WN qZ l l.length 1=n:=by
    rw[g3];cases f with
    |zero=>rfl
    |succ f'=>
     rw[WN,if_neg];rw[<-hkb];rintro⟨q1,q2⟩;rcases hb3 with z|z
     ·rw[q1]at z;cases z
     ·rw[q2]at z;cases z
   rw[g4]at hR;obtain⟨g,hg⟩:∃g,g=WI l n:=⟨_,rfl⟩
   have hgl:=qmH (l:=l) g1;rw[<-hg]at hR hgl;refine Qk ?_;change Awp _ _ _ _ _ _ _;refine awp_rseq [0,4,5,6] (by rfl) fun K hK=>?_;simp+decide only[Qe,↓qc];refine qE (by rfl) (by rfl) (c_group w0 _ v l n (hv.mono zqB) hl) fun x8q2 h8q2 hx8q2=>?_;obtain⟨rfl,hs8⟩:=hx8q2;rw[<-hg];have hs_h8q2:Sub h h8q2:=Br zqC hs8;have hr_h8q2:Sub h6q8 h8q2:=Br zqC hs8;have eb_6q2:=hs8 k6q2 _ zqA;simp+decide only[Xp,QF,QR,Xe,↓qc,↓Xa,↓qa,Nat.reduceAdd];apply hK;clear hK K;refine awp_rseq [0,4,5,6] (by rfl) fun K hK=>?_;simp+decide only[XD,qj,XJ,↓qc,↓qd,↓qa];try simp(disch:=omega)only[wrap_i64,wrap_u8]
   apply hK;clear hK K;refine qi ?_;refine awp_rseq [0,4,70] (by rfl) fun K hK=>?_;simp+decide only[Xk,qK,XL,YG,YF,Zf,qjk,qjj,↓qc,↓qd,↓Qy,↓Uc,↓Qd];apply hK;clear hK K;refine qz (b:=_) rfl (fun hb4=>?_) (fun hb4=>?_)
   ·try simp only[qG]at hb4
    rw[if_pos ⟨by omega,hb4.2⟩]at hR;obtain⟨g',hg'⟩:∃g',g'=WI l (n+g.1):=⟨_,rfl⟩
    have hgl':=qmH (l:=l) (i:=n+g.1) (by omega);rw[<-hg']at hR hgl';refine awp_rseq [4,7,8] (by rfl) fun K hK=>?_;simp+decide only[Qe,↓qc];refine qE (by rfl) (by rfl) (c_group w0 _ v l (n+g.1) (hv.mono zqB) hl) fun x11q2 h11q2 hx11q2=>?_;obtain⟨rfl,hs11⟩:=hx11q2;rw[<-hg'];have hs_h11q2:Sub h h11q2:=Br zqC hs11;have hr_h11q2:Sub h8q2 h11q2:=Br zqC hs11;have eb_6q2:=hs11 k6q2 _ zqA;simp+decide only[Xp,QF,QR,Xe,↓qc,↓Xa,↓qa,Nat.reduceAdd];apply hK;clear hK K;refine awp_rseq [4,7,77] (by rfl) fun K hK=>?_;simp+decide only[Qe,↓qc];apply hK;clear hK K;refine qz (b:=_) rfl (fun hb5=>?_) (fun hb5=>?_)
    ·skip
     rw[if_pos hb5]at hR;refine Qv [4] (by rfl) ?_;simp+decide only[XD,qj,XJ,↓qc,↓qd,↓qa];try simp(disch:=omega)only[wrap_i64,wrap_u8]
     change Awp _ _ _ _ _ _ _;refine awp_rseq [2,3] (by rfl) fun K hK=>?_;simp+decide only[Xp,↓qc,↓qa];apply hK;clear hK K;refine qW ?_;refine QG h zqC (qA (qA (qC))) ?_;simp+decide only[qV,Zz];rw[hR];exact⟨rfl,zqB⟩
    ·skip
     rw[if_neg (by rw[hb5];decide)]at hR;refine qF ?_;change Awp _ _ _ _ _ _ _;refine awp_rseq [2,3] (by rfl) fun K hK=>?_;simp+decide only[Xp,↓qc,↓qa];apply hK;clear hK K;refine qW ?_;refine QG h zqC (qA (qA (qC))) ?_;simp+decide only[qV,Zz];rw[hR];exact⟨rfl,zqB⟩
   ·try simp only[qG]at hb4
    rw[if_neg (by
     rintro⟨q1,q2⟩;rcases hb4 with z|z
     ·omega
     ·rw[q2]at z;cases z)]at hR
    refine qF ?_;change Awp _ _ _ _ _ _ _;refine awp_rseq [2,3] (by rfl) fun K hK=>?_;simp+decide only[Xp,↓qc,↓qa];apply hK;clear hK K;refine qW ?_;refine QG h zqC (qA (qA (qC))) ?_;simp+decide only[qV,Zz];rw[hR];exact⟨rfl,zqB⟩
end Go.Proofs.YtgiadjbiimkbiaaGreatDoor
namespace Go.AM
theorem UZ{P:Program}{w0:World}{ops rest:List Oper}{s:Slots}{h:AHeap}{K:Slots->AHeap->Prop}{dst:Option Tmp}{ty:TypeId}{pos:String}{af:Array Edge}{ts:Array TypeId}{t u e:TypeId}{d:TypeDesc}{x y:Operand}{v v':AVal}{es by':Nat}{z:Value}{xs ys:List (List AVal)}
 (h0:ts[0]?=some t) (h1:ts[1]?=some u) (ht:P.underlying t=some (.slice e)) (hu:P.underlying u=some d) (hd:∀k,d≠ .int k)
 (hs:ZI P e=some es) (hb:qcV P e=some by') (hz:Ud P e=some z) (hzs:z.cells.size=es) (hes:es≠0)
 (hx:ev s x=ZP v) (hv:IsL w0 h es v xs) (hy:ev s y=v') (hv':IsL w0 h es v' ys) (hne:ys.length≠0)
 (hl:(xs.length+ys.length)*by'<=140737488355328) (hl':xs.length+ys.length<4611686018427387904)
 (hk:∀k,h k=none->IsL w0 (h.set k ⟨(xs++ys).flatten,0⟩) es (.slice (.own k) 0 (xs.length+ys.length) (.grow es)) (xs++ys)->Ql P w0 ops rest (putD s dst (.slice (.own k) 0 (xs.length+ys.length) (.grow es))) (h.set k ⟨(xs++ys).flatten,0⟩) K):
 Ql P w0 ops (⟨dst, .call ⟨.builtin .append,[x,y].toArray,ts⟩,ty,pos,af,none⟩::rest) s h K:=by
 obtain⟨s1,s2,s3⟩:=hv'.src;have hw:∀x∈xs++ys,x.length=es:=fun x hx=>by
  rcases JV.1 hx with h|h
  ·exact hv.wide x h
  ·exact hv'.wide x h
 have hal:allLive (xs++ys).flatten=true:=by rw[Bp,Ya,hv.allLive,hv'.allLive];rfl
 have key:∀k,h k=none->Ql P w0 ops rest (putD s dst (.slice (.own k) 0 (xs.length+ys.length) (.grow es))) (h.set k ⟨xs.flatten++ys.flatten,0⟩) K:=fun k hk0=>by
  have:=hk k hk0 (by rw[<-Jb];exact Bz (Vh _ _ _) hw rfl hal (.grow es) rfl)
  rwa [Bp]at this
 rw[qbp];simp only[QW,evs,eop,hx,hy,qet,h0,h1,ht,hu,hs,hb,hz,s1];refine⟨hd,⟨hes,hzs⟩,s2,?_⟩;cases hv with
 |nil=>
  simp only[ZP];simp only[Jp,JD,List.nil_append,List.flatten_nil]at hl hl' key;exact⟨fun e0=>absurd e0 hne,fun _=>⟨⟨hl,hl'⟩,fun k hk0 _=>by rw[s3];exact key k hk0⟩⟩
 |mk lc o n c xs hn hw hc hl2 hcap=>
  subst hn;simp only[ZP];refine⟨fun h1=>by omega,fun _=>⟨⟨by rw[hc];exact hl2,hl,hl'⟩,fun k hk0 _=>?_⟩⟩;rw[hc,s3];exact key k hk0
theorem qlr{P:Program}{w0:World}{ops rest:List Oper}{s:Slots}{H:AHeap}{K:Slots->AHeap->Prop}{dst:Option Tmp}{ty:TypeId}{pos:String}{af:Array Edge}{ts:Array TypeId}{t u e:TypeId}{d:TypeDesc}{x y:Operand}{v':AVal}{es by' k:Nat}{c:Cap}{z:Value}{xs ys:List (List AVal)}
 (h0:ts[0]?=some t) (h1:ts[1]?=some u) (ht:P.underlying t=some (.slice e)) (hu:P.underlying u=some d) (hd:∀k,d≠ .int k)
 (hs:ZI P e=some es) (hb:qcV P e=some by') (hz:Ud P e=some z) (hzs:z.cells.size=es) (hes:es≠0)
 (hx:ev s x= .slice (.own k) 0 xs.length c) (hc:c= .exact xs.length\/c= .grow es) (hk:H k=some ⟨xs.flatten,0⟩) (hw:∀x∈xs,x.length=es) (hal:allLive xs.flatten=true) (hy:ev s y=v') (hv':IsL w0 H es v' ys) (hsc:Qt ys.flatten=true) (hne:ys.length≠0)
 (hl:(xs.length+ys.length)*by'<=140737488355328) (hl':xs.length+ys.length<4611686018427387904)
 (hkk:∀k' H',H' k'=some ⟨(xs++ys).flatten,0⟩->(H k'=none\/k'=k)->(∀j d,H j=some d->j≠k->H' j=some d/\j≠k')->Ql P w0 ops rest (putD s dst (.slice (.own k') 0 (xs.length+ys.length) (.grow es))) H' K):
 Ql P w0 ops (⟨dst, .call ⟨.builtin .append,[x,y].toArray,ts⟩,ty,pos,af,none⟩::rest) s H K:=by
 rcases hc with rfl|rfl
 ·refine UZ (v:= .slice (.own k) 0 xs.length (.exact xs.length)) h0 h1 ht hu hd hs hb hz hzs hes hx (Bz hk hw rfl hal (.exact _) (KL _)) hy hv' hne hl hl' fun k' hk' _=>?_
  refine hkk k' _ (Vh _ _ _) (.inl hk') fun j d hj _=>?_;have hne':j≠k':=fun e=>by subst e;rw[hk']at hj;cases hj
  exact⟨(Vg _ _ hne').trans hj,hne'⟩
 ·have hlen:xs.flatten.length / es=xs.length:=by rw[Xu hw,Vm _ (Vl hes)]
  refine qcn (zs:=xs) (h₀:=H.del k) (b:=some ⟨k,xs.flatten⟩) h0 h1 ht hu hd hs hb hz hzs hes (by rw[hx];simp only[qfZ,hlen]) ⟨by simp[BA],by simp only;rw[Xu hw];exact BC _ _,hal⟩ rfl hw ?_ hy hv' hsc hl hl' fun b' h' o1 o2 o3=>?_
  ·intro j d hj
   by_cases e:j=k
   ·subst e
    rw[show qga (H.del j) (some ⟨j,xs.flatten⟩)=(H.del j).set j ⟨xs.flatten,0⟩from rfl,Vh]at hj;rw[<-hj];exact hk
   ·rw[show qga (H.del k) (some ⟨k,xs.flatten⟩)=(H.del k).set k ⟨xs.flatten,0⟩from rfl,Vg _ _ e]at hj
    simpa[BA,e]using hj
  ·cases b' with
   |none=>
    exfalso;have e0:((xs++ys).flatten).length=0:=by rw[<-o2];rfl
    have hw2:∀x∈xs++ys,x.length=es:=fun x hx=>by
     rcases JV.1 hx with h|h
     ·exact hw x h
     ·exact hv'.wide x h
    rw[Xu hw2,Jb]at e0;rcases BD.1 e0 with e|e
    ·omega
    ·exact hes e
   |some b'=>
    obtain⟨kb,cells⟩:=b';have hcl:cells=(xs++ys).flatten:=o2;subst hcl;have hw2:∀x∈xs++ys,x.length=es:=fun x hx=>by
     rcases JV.1 hx with h|h
     ·exact hw x h
     ·exact hv'.wide x h
    have hlen2:(xs++ys).flatten.length / es=xs.length+ys.length:=by rw[Xu hw2,Vm _ (Vl hes),Jb]
    have hkb:(H.del k) kb=none:=o1.1;have hr:=hkk kb h' (o3 _ _ (Vh _ _ _)) (by
     by_cases e:kb=k
     ·exact .inr e
     ·left;simpa[BA,e]using hkb) (fun j d hj hjk=>by
     have hdj:(H.del k) j=some d:=by simpa[BA,hjk]using hj
     have hjb:j≠kb:=fun e=>by subst e;rw[hdj]at hkb;cases hkb
     exact⟨o3 _ _ ((Vg _ _ hjb).trans hdj),hjb⟩)
    simp only[qfZ,hlen2];exact hr
def emp:AHeap:=fun _=>none
def one(k:Nat)(b:Blk):AHeap:=fun j=>if j=k then some b else none
theorem one_at(k:Nat)(b:Blk):one k b k=some b:=by simp[one]
theorem qkA{k j:Nat}(b:Blk)(h:j≠k):one k b j=none:=by simp[one,h]
theorem qii{k j:Nat}{b c:Blk}(h:one k b j=some c):j=k/\c=b:=by
 by_cases e:j=k
 ·subst e;rw[one_at]at h;exact⟨rfl,(Option.some.inj h).symm⟩
 ·rw[qkA b e]at h;cases h
def disj(p q:AHeap):Prop:=∀k,p k=none\/q k=none
theorem disj.symm{p q:AHeap}(h:disj p q):disj q p:=fun k=>(h k).symm
theorem qpC(p:AHeap):disj p emp:=fun _=> .inr rfl
def Sep(ps:List AHeap)(h:AHeap):Prop:=(∀p∈ps,Sub p h)/\ps.Pairwise disj
section
variable {ps qs:List AHeap} {h h':AHeap}
theorem Sep.perm(hs:Sep ps h)(hp:ps.Perm qs):Sep qs h:=⟨fun p hq=>hs.1 p (hp.mem_iff.2 hq),(hp.pairwise_iff fun h=>disj.symm h).1 hs.2⟩
theorem Sep.forget(hs:Sep ps h)(hh:Sub h h'):Sep ps h':=⟨fun p hp=>(hs.1 p hp).trans hh,hs.2⟩
theorem Sep.sub(hs:Sep ps h)(hp:qs.Sublist ps):Sep qs h:=⟨fun p hq=>hs.1 p (hp.subset hq),hs.2.sublist hp⟩
theorem Sep.in_(hs:Sep ps h){i:Nat}{p:AHeap}(hi:ps[i]?=some p):Sub p h:=hs.1 p (List.mem_of_getElem? hi)
theorem Sep.at_(hs:Sep ps h){i k:Nat}{b:Blk}(hi:ps[i]?=some (one k b)):h k=some b:=hs.in_ hi k b (one_at k b)
theorem Sep.apart(hs:Sep ps h){i j:Nat}{p q:AHeap}(hi:ps[i]?=some p)(hj:ps[j]?=some q)(hij:i≠j):disj p q:=by
 obtain⟨hi1,hi2⟩:=Jw.1 hi;obtain⟨hj1,hj2⟩:=Jw.1 hj;have:=BF.1 hs.2;rcases Nat.lt_or_gt_of_ne hij with h1|h1
 ·have:=this i j hi1 hj1 h1
  rwa [hi2,hj2]at this
 ·have:=this j i hj1 hi1 h1
  rw[hi2,hj2]at this;exact this.symm
theorem Sep.ne(hs:Sep ps h){i j k l:Nat}{b c:Blk}(hi:ps[i]?=some (one k b))(hj:ps[j]?=some (one l c))(hij:i≠j):k≠l:=fun e=>by
 subst e;rcases hs.apart hi hj hij k with z|z<;>rw[one_at]at z<;>cases z
theorem Sep.not(hs:Sep ps h){i j k:Nat}{b:Blk}{p:AHeap}(hi:ps[i]?=some (one k b))(hj:ps[j]?=some p)(hij:i≠j):p k=none:=by
 rcases hs.apart hi hj hij k with z|z
 ·rw[one_at]at z;cases z
 ·exact z
theorem Sub.off{p h:AHeap}(hs:Sub p h){k:Nat}(hk:p k=Option.none)(b:Blk):Sub p (h.set k b):=fun j c hj=>by
 have e:j≠k:=fun e=>by subst e;rw[hk]at hj;cases hj
 rw[Vg _ _ e];exact hs _ _ hj
theorem Sep.lay(hs:Sep ps h){k:Nat}(hk:h k=none)(b:Blk):Sep (ps++[one k b]) (h.set k b):=by
 have hn:∀p∈ps,p k=none:=fun p hp=>(hs.1 p hp).none hk;refine⟨fun p hp=>?_,?_⟩
 ·rcases JV.1 hp with hp|hp
  ·exact(hs.1 p hp).off (hn p hp) b
  ·rw[V4.1 hp]
   intro j c hj;obtain⟨rfl,rfl⟩:=qii hj;exact Vh _ _ _
 ·rw[BG]
  refine⟨hs.2,by simp,fun p hp q hq j=>?_⟩;rw[V4.1 hq];by_cases e:j=k
  ·subst e;exact .inl (hn p hp)
  ·exact .inr (qkA b e)
theorem qnv{α:Type}{R:α->α->Prop}(hsym:∀a b,R a b->R b a){l:List α}{i:Nat}{x:α}(hl:l.Pairwise R)(hx:∀j y,j≠i->l[j]?=some y->R x y):(l.set i x).Pairwise R:=by
 rw[BF]at hl|-
 intro a b ha hb hab;rw[BH]at ha hb;rw[BI,BI];by_cases e1:i=a
 ·subst e1
  rw[if_pos rfl,if_neg (by omega)];exact hx b _ (by omega) (JB hb)
 ·rw[if_neg e1]
  by_cases e2:i=b
  ·subst e2
   rw[if_pos rfl];exact hsym _ _ (hx a _ (by omega) (JB ha))
  ·rw[if_neg e2]
   exact hl a b ha hb hab
theorem Sep.turn(hs:Sep ps h){i:Nat}{p':AHeap}(hp:Sub p' h')(hq:∀j q,j≠i->ps[j]?=some q->Sub q h'/\disj p' q):Sep (ps.set i p') h':=by
 refine⟨fun p hm=>?_,qnv (fun a b=>disj.symm) hs.2 fun j y h1 h2=>(hq j y h1 h2).2⟩;obtain⟨j,hj⟩:=List.mem_iff_getElem?.1 hm;rw[K3]at hj;by_cases e:i=j
 ·rw[if_pos e]at hj
  split at hj
  ·cases hj;exact hp
  ·cases hj
 ·rw[if_neg e]at hj
  exact(hq j p (fun z=>e z.symm) hj).1
theorem Sep.put(hs:Sep ps h){i k:Nat}{b:Blk}(hi:ps[i]?=some (one k b))(b':Blk):Sep (ps.set i (one k b')) (h.set k b'):=
 hs.turn (fun j c hj=>by obtain⟨rfl,rfl⟩:=qii hj;exact Vh _ _ _) fun j q hj hq=>by
  have hn:=hs.not hi hq (fun e=>hj e.symm);refine⟨(hs.in_ hq).off hn b',fun x=>?_⟩;by_cases e:x=k
  ·subst e;exact .inr hn
  ·exact .inl (qkA b' e)
theorem Sep.pick(hs:Sep ps h)(ix:List Nat)(hn:ix.Nodup)(hb:∀i∈ix,i<ps.length):Sep (ix.map fun i=>ps.getD i emp) h:=by
 refine⟨fun p hp=>?_,?_⟩
 ·obtain⟨i,hi,rfl⟩:=JK.1 hp
  refine hs.in_ (i:=i) ?_;rw[Ko,JB (hb i hi)];rfl
 ·rw[List.pairwise_map]
  refine List.Pairwise.imp_of_mem ?_ hn;intro a b ha hb' hab;refine hs.apart (i:=a) (j:=b) ?_ ?_ hab
  ·rw[Ko,JB (hb a ha)];rfl
  ·rw[Ko,JB (hb b hb')];rfl
theorem Sep.emp(hs:Sep ps h):Sep (ps++[AM.emp]) h:=by
 refine⟨fun p hp=>?_,?_⟩
 ·rcases JV.1 hp with hp|hp
  ·exact hs.1 p hp
  ·rw[V4.1 hp];intro j c hj;cases hj
 ·rw[BG]
  exact⟨hs.2,by simp,fun p _ q hq=>by rw[V4.1 hq];exact qpC p⟩
def Wl:List AHeap->AHeap
 |[]=>AM.emp
 |p::ps=>uni p (Wl ps)
theorem qfu{k:Nat}:∀{ps:List AHeap},Wl ps k=none↔∀p∈ps,p k=none
 |[]=>by simp[Wl,AM.emp]
 |p::ps=>by
  simp only[Wl,List.forall_mem_cons];constructor
  ·intro h
   obtain⟨a,b⟩:=uni_none h;exact⟨a,qfu.1 b⟩
  ·rintro⟨a,b⟩
   rw[qcw a];exact qfu.2 b
theorem qow(hp:∀p∈ps,Sub p h):Sub (Wl ps) h:=by
 induction ps with
 |nil=>intro j c hj;cases hj
 |cons p ps ih=>
  intro j c hj;simp only[Wl]at hj;cases e:p j with
  |some d=>rw[qcv e]at hj;cases hj;exact hp p Je j _ e
  |none=>rw[qcw e]at hj;exact ih (fun q hq=>hp q (Jf _ hq)) j c hj
theorem Xy(hd:ps.Pairwise disj):∀p∈ps,Sub p (Wl ps):=by
 induction ps with
 |nil=>intro p hp;cases hp
 |cons q ps ih=>
  obtain⟨h1,h2⟩:=BJ.1 hd;intro p hp;rcases KW.1 hp with rfl|hp
  ·exact Sub.uni _ _
  ·intro j c hj
   have hq:q j=none:=(h1 p hp j).resolve_right fun e=>by rw[e]at hj;cases hj
   simp only[Wl];rw[qcw hq];exact ih h2 p hp j c hj
theorem qmN{p:AHeap}:disj p (Wl ps)↔∀q∈ps,disj p q:=by
 constructor
 ·intro h q hq k
  rcases h k with z|z
  ·exact .inl z
  ·exact .inr (qfu.1 z q hq)
 ·intro h k
  cases e:p k with
  |none=>exact .inl rfl
  |some b=>exact .inr (qfu.2 fun q hq=>(h q hq k).resolve_left fun z=>by rw[e]at z;cases z)
theorem Sep.fold(hs:Sep (ps++qs) h):Sep (Wl ps::qs) h:=by
 have h2:=BG.1 hs.2;refine⟨fun p hp=>?_,BJ.2 ⟨fun q hq=>disj.symm (qmN.2 fun p hp=>(h2.2.2 p hp q hq).symm),h2.2.1⟩⟩;rcases KW.1 hp with rfl|hp
 ·exact qow fun q hq=>hs.1 q (Vd _ hq)
 ·exact hs.1 p (List.mem_append_right _ hp)
theorem Sep.unfold(hd:ps.Pairwise disj)(hs:Sep (Wl ps::qs) h):Sep (ps++qs) h:=by
 obtain⟨h1,h2⟩:=BJ.1 hs.2;refine⟨fun p hp=>?_,BG.2 ⟨hd,h2,fun p hp q hq=>((qmN.1 (h1 q hq).symm) p hp).symm⟩⟩;rcases JV.1 hp with hp|hp
 ·exact(Xy hd p hp).trans (hs.1 _ Je)
 ·exact hs.1 p (Jf _ hp)
theorem Sep.left(hs:Sep (ps++qs) h):ps.Pairwise disj:=(BG.1 hs.2).1
end
theorem BlkOk.trunc{fi:PMap}{cs xs:List AVal}{p:Place}{w:World}(h:BlkOk fi ⟨cs++xs,0⟩ p w):BlkOk fi ⟨cs,0⟩ p w:=by
 rcases h with h|h
 ·obtain⟨c,e,lo,hi,h1,h2,h3,h4,h5,h6⟩:=h.row
  simp only[Jb]at h3 h5;refine .inl ⟨c,e,lo,hi,h1,h2,by simp only;omega,Jq _,?_,h6⟩;have:=qlw cs.length h5;rw[List.take_left,List.take_take,Nat.min_eq_left (by omega)]at this;exact this
 ·have:=h.frz
  simp at this
theorem HRel.trunc{w0 w:World}{fi:PMap}{h:AHeap}(hr:HRel w0 fi h w){k:Nat}{cs xs:List AVal}(hk:h k=some ⟨cs++xs,0⟩):HRel w0 fi (h.set k ⟨cs,0⟩) w:=by
 have ex:∀j b,h.set k ⟨cs,0⟩ j=some b->∃b',h j=some b':=fun j b hj=>by
  by_cases e:j=k
  ·subst e;exact⟨_,hk⟩
  ·rw[Vg _ _ e]at hj;exact⟨b,hj⟩
 refine⟨hr.below,fun j b hj=>?_,fun j j' b b' p p' hb hb'=>?_,hr.lt,hr.fin,hr.typ⟩
 ·by_cases e:j=k
  ·subst e
   rw[Vh]at hj;cases hj;obtain⟨p,h1,h2,h3⟩:=hr.own j _ hk;exact⟨p,h1,h2,h3.trunc⟩
  ·rw[Vg _ _ e]at hj
   exact hr.own j b hj
 ·obtain⟨c,hc⟩:=ex j b hb
  obtain⟨c',hc'⟩:=ex j' b' hb';exact hr.inj j j' c c' p p' hc hc'
theorem Awp.trunc{P:Program}{w0:World}{n:FrameK}{s:Slots}{h:AHeap}{Q:Exit->Slots->AHeap->Prop}{c:Code}{k:Nat}{cs xs:List AVal}(hk:h k=some ⟨cs++xs,0⟩)(hc:Awp P w0 n c Q s (h.set k ⟨cs,0⟩)):Awp P w0 n c Q s h:=
 fun fi a w hr hs=>hc fi a w (hr.trunc hk) hs
def isG:AVal->Bool
 | .slice _ _ _ (.exact _)=>false
 |_=>true
def GrowV(es:Nat)(v:AVal)(p:AHeap)(xs:List (List AVal)):Prop:=
 (v= .nilSlice/\p=emp/\xs=[])\/∃k c,v= .slice (.own k) 0 xs.length c/\(c= .exact xs.length\/c= .grow es)/\p=one k ⟨xs.flatten,0⟩/\(∀x∈xs,x.length=es)/\allLive xs.flatten=true
section
variable {es:Nat} {v:AVal} {p:AHeap} {xs:List (List AVal)}
theorem GrowV.nil:GrowV es .nilSlice emp []:= .inl ⟨rfl,rfl,rfl⟩
theorem GrowV.new{k:Nat}{c:Cap}{n:Nat}(hn:n=xs.length)(hc:c= .exact n\/c= .grow es)(hw:∀x∈xs,x.length=es)(hl:allLive xs.flatten=true){cs:List AVal}(hcs:cs=xs.flatten):GrowV es (.slice (.own k) 0 n c) (one k ⟨cs,0⟩) xs:=by
 subst hn hcs;exact .inr ⟨k,c,rfl,hc,rfl,hw,hl⟩
theorem GrowV.live(h:GrowV es v p xs):v.live=true:=by rcases h with⟨rfl,_⟩|⟨k,c,rfl,_⟩<;>rfl
theorem GrowV.scal(h:GrowV es v p xs):v.scal=true:=by rcases h with⟨rfl,_⟩|⟨k,c,rfl,_⟩<;>rfl
theorem GrowV.cells(h:GrowV es v p xs):v.cells=[v]:=by rcases h with⟨rfl,_⟩|⟨k,c,rfl,_⟩<;>rfl
theorem GrowV.wide(h:GrowV es v p xs):∀x∈xs,x.length=es:=by
 rcases h with⟨_,_,rfl⟩|⟨k,c,_,_,_,hw,_⟩
 ·intro x hx;cases hx
 ·exact hw
theorem GrowV.isL{w0:World}{h:AHeap}(hg:GrowV es v p xs)(hs:Sub p h):IsL w0 h es v xs:=by
 rcases hg with⟨rfl,_,rfl⟩|⟨k,c,rfl,hc,rfl,hw,hl⟩
 ·exact .nil
 ·refine Bz (hs _ _ (one_at k _)) hw rfl hl c ?_
  rcases hc with rfl|rfl
  ·exact KL _
  ·rfl
variable {P:Program} {w0:World} {ops rest:List Oper} {s:Slots} {H:AHeap} {K:Slots->AHeap->Prop} {dst:Option Tmp} {ty:TypeId} {pos:String} {af:Array Edge} {ts:Array TypeId} {t u e:TypeId} {d:TypeDesc} {x y:Operand} {v':AVal} {by' i:Nat} {z:Value} {ys:List (List AVal)} {ps:List AHeap}
theorem ZM(h0:ts[0]?=some t)(h1:ts[1]?=some u)(ht:P.underlying t=some (.slice e))(hu:P.underlying u=some d)(hd:∀k,d≠ .int k)
 (hs:ZI P e=some es) (hb:qcV P e=some by') (hz:Ud P e=some z) (hzs:z.cells.size=es) (hes:es≠0)
 (hx:ev s x=v) (hg:GrowV es v p xs) (hi:ps[i]?=some p) (hS:Sep ps H) (hy:ev s y=v') (hv':IsL w0 H es v' ys) (hsc:Qt ys.flatten=true) (hne:ys.length≠0)
 (hl:(xs.length+ys.length)*by'<=140737488355328) (hl':xs.length+ys.length<4611686018427387904)
 (hkk:∀u p' H',GrowV es u p' (xs++ys)->isG u=true->Sep (ps.set i p') H'->Ql P w0 ops rest (putD s dst u) H' K):
 Ql P w0 ops (⟨dst, .call ⟨.builtin .append,[x,y].toArray,ts⟩,ty,pos,af,none⟩::rest) s H K:=by
 have hw:∀x∈xs++ys,x.length=es:=fun x hx=>by
  rcases JV.1 hx with h|h
  ·exact hg.wide x h
  ·exact hv'.wide x h
 have hal:allLive (xs++ys).flatten=true:=by rw[Bp,Ya,(hg.isL (w0:=w0) (hS.in_ hi)).allLive,hv'.allLive];rfl
 have fin:∀k' H',H' k'=some ⟨(xs++ys).flatten,0⟩->(∀j q,j≠i->ps[j]?=some q->Sub q H'/\q k'=none)->Ql P w0 ops rest (putD s dst (.slice (.own k') 0 (xs.length+ys.length) (.grow es))) H' K:=fun k' H' h1 h2=>by
  refine hkk _ (one k' ⟨(xs++ys).flatten,0⟩) H' (GrowV.new (by rw[Jb]) (.inr rfl) hw hal rfl) rfl (hS.turn (fun j c hj=>by obtain⟨rfl,rfl⟩:=qii hj;exact h1) fun j q hj hq=>?_);obtain⟨a,b⟩:=h2 j q hj hq;refine⟨a,fun x=>?_⟩;by_cases ex:x=k'
  ·subst ex;exact .inr b
  ·exact .inl (qkA _ ex)
 rcases hg with⟨rfl,rfl,rfl⟩|⟨k,c,rfl,hc,rfl,hw1,hl1⟩
 ·refine UZ (v:= .nilSlice) h0 h1 ht hu hd hs hb hz hzs hes hx .nil hy hv' hne hl hl' fun k' hk' _=>?_
  exact fin k' _ (Vh _ _ _) fun j q hj hq=>⟨(hS.in_ hq).off ((hS.in_ hq).none hk') _,(hS.in_ hq).none hk'⟩
 ·refine qlr h0 h1 ht hu hd hs hb hz hzs hes hx hc (hS.at_ hi) hw1 hl1 hy hv' hsc hne hl hl' fun k' H' h1 h2 h3=>?_
  refine fin k' H' h1 fun j q hj hq=>?_;have hqk:=hS.not hi hq (fun e=>hj e.symm);have hsub:=hS.in_ hq;refine⟨fun a b hab=>(h3 a b (hsub _ _ hab) fun e=>by subst e;rw[hqk]at hab;cases hab).1,?_⟩;rcases h2 with z|rfl
  ·exact hsub.none z
  ·exact hqk
end
section
variable {P:Program} {w0:World} {ops rest:List Oper} {s:Slots} {H:AHeap} {K:Slots->AHeap->Prop} {dst:Option Tmp} {ty:TypeId} {pos:String} {af:Array Edge}
theorem qls{ts:Array TypeId}{t u e:TypeId}{d:TypeDesc}{x y:Operand}{v':AVal}{es by' n c o:Nat}{lc:Loc}{z:Value}
 (h0:ts[0]?=some t) (h1:ts[1]?=some u) (ht:P.underlying t=some (.slice e)) (hu:P.underlying u=some d) (hd:∀k,d≠ .int k)
 (hs:ZI P e=some es) (hb:qcV P e=some by') (hz:Ud P e=some z) (hzs:z.cells.size=es) (hes:es≠0)
 (hx:ev s x= .slice lc o n (.exact c)) (hn:n<=c) (hy:ev s y=v') (hv':IsL w0 H es v' [])
 (hk:Ql P w0 ops rest (putD s dst (.slice lc o n (.exact c))) H K):
 Ql P w0 ops (⟨dst, .call ⟨.builtin .append,[x,y].toArray,ts⟩,ty,pos,af,none⟩::rest) s H K:=by
 obtain⟨s1,s2,s3⟩:=hv'.src;rw[qbp];simp only[QW,evs,eop,hx,hy,qet,h0,h1,ht,hu,hs,hb,hz,s1];exact⟨hd,⟨hes,hzs⟩,s2,⟨fun _=> .inl ⟨rfl,hk⟩,fun hh=>absurd hh (by simp only[JD];omega)⟩⟩
end
end Go.AM
namespace Go.Proofs.YtgiadjbiimkbiaaGreatDoor
open Go.AM
open Go.Proofs
open Go.Col (Str FaultC okF)
open Go.Tok (TokC)
open Go.Stm
open Go.RowKit (Below)
set_option maxRecDepth 100000
def phC(q:PhrC×AVal):List AVal:=[.str q.1.words,q.2]
def bdC(q:BodC×AVal×AVal):List AVal:=[.str q.1.1,q.2.1,q.2.2]
def qcy(q:StC×AVal×AVal):List AVal:=[.str q.1.verb, .int .i64 q.1.line, .int .i64 q.1.col,q.2.1,q.2.2]
def PhV(w0:World)(h:AHeap)(v:AVal)(l:List PhrC):Prop:=∃qs:List (PhrC×AVal),l=qs.map (·.1)/\IsL w0 h 2 v (qs.map phC)/\∀q∈qs,IsL w0 h 5 q.2 (q.1.toks.map Xg)
def BdV(w0:World)(S:AVal->List StC->Prop)(h:AHeap)(v:AVal)(l:List BodC):Prop:=∃qs:List (BodC×AVal×AVal),l=qs.map (·.1)/\IsL w0 h 3 v (qs.map bdC)/\∀q∈qs,IsL w0 h 5 q.2.1 (q.1.2.1.map Xg)/\S q.2.2 q.1.2.2
def StsV(w0:World):Nat->AHeap->AVal->List StC->Prop
 |0,h,v,l=>l=[]/\IsL w0 h 5 v []
 |d+1,h,v,l=>∃qs:List (StC×AVal×AVal),l=qs.map (·.1)/\IsL w0 h 5 v (qs.map qcy)/\∀q∈qs,PhV w0 h q.2.1 q.1.phrases/\BdV w0 (StsV w0 d h) h q.2.2 q.1.bodies
theorem PhV.mono{w0:World}{h h':AHeap}{v:AVal}{l:List PhrC}(hp:PhV w0 h v l)(hs:Sub h h'):PhV w0 h' v l:=by
 obtain⟨qs,e,a,b⟩:=hp;exact⟨qs,e,a.mono hs,fun q hq=>(b q hq).mono hs⟩
theorem BdV.mono{w0:World}{h h':AHeap}{S S':AVal->List StC->Prop}{v:AVal}{l:List BodC}(hp:BdV w0 S h v l)(hs:Sub h h')(hS:∀v l,S v l->S' v l):BdV w0 S' h' v l:=by
 obtain⟨qs,e,a,b⟩:=hp;exact⟨qs,e,a.mono hs,fun q hq=>⟨(b q hq).1.mono hs,hS _ _ (b q hq).2⟩⟩
theorem StsV.mono{w0:World}{h h':AHeap}(hs:Sub h h'):∀{d:Nat} {v:AVal} {l:List StC},StsV w0 d h v l->StsV w0 d h' v l
 |0,_,_,hp=>⟨hp.1,hp.2.mono hs⟩
 |d+1,_,_,⟨qs,e,a,b⟩=>⟨qs,e,a.mono hs,fun q hq=>⟨(b q hq).1.mono hs,(b q hq).2.mono hs fun _ _=>StsV.mono hs⟩⟩
theorem StsV.isL{w0:World}{h:AHeap}{d:Nat}{v:AVal}{l:List StC}(hp:StsV w0 d h v l):∃qs:List (StC×AVal×AVal),l=qs.map (·.1)/\IsL w0 h 5 v (qs.map qcy):=by
 cases d with
 |zero=>exact⟨[],hp.1,hp.2⟩
 |succ d=>obtain⟨qs,a,b,-⟩:=hp;exact⟨qs,a,b⟩
theorem PhV.live{w0:World}{h:AHeap}{v:AVal}{l:List PhrC}(hp:PhV w0 h v l):v.live=true:=by obtain⟨_,_,a,_⟩:=hp;exact a.live
theorem PhV.scal{w0:World}{h:AHeap}{v:AVal}{l:List PhrC}(hp:PhV w0 h v l):v.scal=true:=by obtain⟨_,_,a,_⟩:=hp;exact a.scal
theorem PhV.cells{w0:World}{h:AHeap}{v:AVal}{l:List PhrC}(hp:PhV w0 h v l):v.cells=[v]:=by obtain⟨_,_,a,_⟩:=hp;exact a.cells
theorem BdV.live{w0:World}{h:AHeap}{S:AVal->List StC->Prop}{v:AVal}{l:List BodC}(hp:BdV w0 S h v l):v.live=true:=by obtain⟨_,_,a,_⟩:=hp;exact a.live
theorem BdV.scal{w0:World}{h:AHeap}{S:AVal->List StC->Prop}{v:AVal}{l:List BodC}(hp:BdV w0 S h v l):v.scal=true:=by obtain⟨_,_,a,_⟩:=hp;exact a.scal
theorem BdV.cells{w0:World}{h:AHeap}{S:AVal->List StC->Prop}{v:AVal}{l:List BodC}(hp:BdV w0 S h v l):v.cells=[v]:=by obtain⟨_,_,a,_⟩:=hp;exact a.cells
theorem qeZ{qs:List (PhrC×AVal)}:∀x∈qs.map phC,x.length=2:=fun x hx=>by obtain⟨q,_,rfl⟩:=JK.1 hx;rfl
def qej:PhrC×AVal:=(⟨[],[]⟩, .nilSlice)
theorem qeJ{w0:World}{h:AHeap}{lc:AM.Loc}{o:Nat}{c:Cap}{qs:List (PhrC×AVal)}(ht:IsL w0 h 2 (.slice lc o qs.length c) (qs.map phC)){i:Nat}(hi:i<qs.length):
 rd w0 h lc (o+i*2)= .str (qs.getD i qej).1.words/\rd w0 h lc (o+i*2+1)=(qs.getD i qej).2:=by
 have he:=ht.elem (i:=i) (by rw[Jn];exact hi);rw[getD_map qej hi]at he;simp only[and_true,cellsAt,List.cons.injEq,phC]at he;exact he
theorem qcc{w0:World}{h:AHeap}{v:AVal}{qs:List (PhrC×AVal)}(ht:IsL w0 h 2 v (qs.map phC))(hn:0<qs.length):∃lc o c,v= .slice lc o qs.length c:=by
 obtain⟨lc,o,c,e⟩:=ht.open (fun e=>by rw[Vz]at e;subst e;simp at hn);rw[Jn]at e;exact⟨lc,o,c,e⟩
theorem qie{w0:World}{h:AHeap}{v:AVal}{qs:List (PhrC×AVal)}(ht:IsL w0 h 2 v (qs.map phC)):∀H:AHeap,Zl Tryz.prog H 79 v=⟨True, .int .i64 qs.length⟩:=by
 intro H;have:=ht.len Tryz.underlying79 H
 rwa [Jn]at this
theorem qco(l:List TokC):Qt (l.map Xg).flatten=true:=by
 induction l with
 |nil=>rfl
 |cons t l ih=>rw[Ke,Vp];simp only[J6,Xf,Xg,Qt,ih];rfl
theorem eqnil_nil:qaG Tryz.prog .eql 39 .nilSlice .nilSlice=⟨True, .bool true⟩:=by simp[qaG,qoY,qif,nilK,tyK,Tryz.underlying39]
theorem qji(l:AM.Loc)(o n:Nat)(c:Cap):qaG Tryz.prog .eql 39 (.slice l o n c) .nilSlice=⟨True, .bool false⟩:=by simp[qaG,qoY,qif,nilK,tyK,Tryz.underlying39]
theorem c_clone0(w0:World)(h:AHeap):ACall Tryz.prog w0 45 [.nilSlice] h (fun r h'=>r= .nilSlice/\h'=h):=by
 refine qR (n:=8) (rs:=[.tmp 2]) Tryz.func45 rfl rfl rfl rfl (VY rfl) ?_;simp only[qU];refine awp_rseq [0] (by rfl) fun K hK=>?_;simp+decide only[qP,↓qa];apply hK;clear hK K;refine qi ?_;refine awp_rseq [0,4] (by rfl) fun K hK=>?_;simp+decide only[Xj,↓qc,↓qd,qen,eqnil_nil];apply hK;clear hK K;refine qz (b:=_) rfl (fun hb1=>?_) (fun hb1=>?_)
 ·try simp only[qG]at hb1
  refine awp_rseq [2] (by rfl) fun K hK=>?_;simp+decide only[qP,↓qa];apply hK;clear hK K;refine qW ?_;try simp only[XB]
  refine QG h zqC (qA (qC)) ?_;simp+decide only[QE];all_goals first|rfl|exact⟨rfl,rfl⟩|(simp+decide only[QI, *];done)|(trace_state;fail)
 ·cases hb1
theorem c_clone1(w0:World)(h:AHeap)(lc:AM.Loc)(o n:Nat)(c:Cap)(hv:IsL w0 h 5 (.slice lc o n c) []):ACall Tryz.prog w0 45 [.slice lc o n c] h (fun r h'=>IsL w0 h' 5 r []/\Sub h h'):=by
 refine qR (n:=8) (rs:=[.tmp 2]) Tryz.func45 rfl rfl rfl rfl (VY rfl) ?_;simp only[qU];refine awp_rseq [0] (by rfl) fun K hK=>?_;simp+decide only[qP,↓qa];apply hK;clear hK K;refine qi ?_;refine awp_rseq [0,4] (by rfl) fun K hK=>?_;simp+decide only[Xj,↓qc,↓qd,qen,qji];apply hK;clear hK K;refine qz (b:=_) rfl (fun hb1=>?_) (fun hb1=>?_)
 ·cases hb1
 ·try simp only[qG]at hb1
  refine qF ?_;change Awp _ _ _ _ _ _ _;refine awp_rseq [2] (by rfl) fun K hK=>?_;refine qO (cs:=[]) (by kernel_rfl) fun k3q0 hk3q0=>?_;try have hf_3q0:h k3q0=none:=by first|assumption|(simp only[Bd]at hk3q0;simp only[hk3q0])
  simp+decide only[Qe,↓qc];refine qls (by rfl) (by rfl) Tryz.underlying39 Tryz.underlying39 (fun k e=>by cases e) Yo qfY qdU (by rfl) (by decide) (by rfl) (KL _) (by rfl) (hv.mono zqB) ?_;simp+decide only[qP,↓qa];apply hK;clear hK K;refine qW ?_;refine QG h zqC (qA (qC)) ?_;simp+decide only[QE];exact⟨.mk _ _ _ _ _ rfl (fun x hx=>by cases hx) rfl rfl (KL _),zqB⟩
theorem c_clone2(w0:World)(h:AHeap)(lc:AM.Loc)(o n:Nat)(c:Cap)(l:List TokC)(hv:IsL w0 h 5 (.slice lc o n c) (l.map Xg))(hn:l≠[])(hl:l.length<=1000000):ACall Tryz.prog w0 45 [.slice lc o n c] h (fun r h'=>IsL w0 h' 5 r (l.map Xg)/\Sub h h'):=by
 have hn2:=Bu.2 hn;refine qR (n:=8) (rs:=[.tmp 2]) Tryz.func45 rfl rfl rfl rfl (VY rfl) ?_;simp only[qU];refine awp_rseq [0] (by rfl) fun K hK=>?_;simp+decide only[qP,↓qa];apply hK;clear hK K;refine qi ?_;refine awp_rseq [0,4] (by rfl) fun K hK=>?_;simp+decide only[Xj,↓qc,↓qd,qen,qji];apply hK;clear hK K;refine qz (b:=_) rfl (fun hb1=>?_) (fun hb1=>?_)
 ·cases hb1
 ·try simp only[qG]at hb1
  refine qF ?_;change Awp _ _ _ _ _ _ _;refine awp_rseq [2] (by rfl) fun K hK=>?_;refine qO (cs:=[]) (by kernel_rfl) fun k3q0 hk3q0=>?_;try have hf_3q0:h k3q0=none:=by first|assumption|(simp only[Bd]at hk3q0;simp only[hk3q0])
  simp+decide only[Qe,↓qc];refine UZ (v:= .slice (.own k3q0) 0 0 (.exact 0)) (xs:=[]) (ys:=l.map Xg) (by rfl) (by rfl) Tryz.underlying39 Tryz.underlying39 (fun k e=>by cases e) Yo qfY qdU (by rfl) (by decide) (by rfl) (.mk _ _ _ _ _ rfl (fun x hx=>by cases hx) rfl rfl (KL _)) (by rfl) (hv.mono zqB) (by rw[Jn];omega) (by rw[Jn];simp only[JD];omega) (by rw[Jn];simp only[JD];omega) fun k3q2 hk3q2 hv32=>?_;simp+decide only[qP,↓qa];apply hK;clear hK K;refine qW ?_;refine Qb (qA (qC)) ?_;simp+decide only[QE];exact⟨_,Vi _,hv32,(Vj hk3q0).trans (Vj hk3q2)⟩
theorem c_cloneTk(w0:World)(h:AHeap)(v:AVal)(l:List TokC)(hv:IsL w0 h 5 v (l.map Xg))(hl:l.length<=1000000):ACall Tryz.prog w0 45 [v] h (fun r h'=>IsL w0 h' 5 r (l.map Xg)/\Sub h h'):=by
 by_cases hn:l=[]
 ·subst hn
  cases hv with
  |nil=>exact(c_clone0 w0 h).mono fun r h' ⟨a,b⟩=>by subst a b;exact⟨.nil,Vi _⟩
  |mk lc o n c _ a b d e f=>exact c_clone1 w0 h lc o n c (.mk lc o n c _ a b d e f)
 ·cases v<;>first
  |exact c_clone2 w0 h _ _ _ _ l hv hn hl
  |(exfalso;obtain⟨lc,o,c,e⟩:=Ye hv (Bu.2 hn);cases e)
structure FnG where
 j:Nat
 H:AHeap
set_option maxHeartbeats 1000000 in
theorem c_find(w0:World)(h:AHeap)(vb w:Str)(ln cl:Int)(pv bv:AVal)(l:List PhrC)(hp:PhV w0 h pv l)(hbl:bv.live=true)(hbs:bv.scal=true)(hbc:bv.cells=[bv])(hl:l.length<=1000000)(ht:∀p∈l,p.toks.length<=1000000):
 ACall Tryz.prog w0 21 [.agg [.str vb, .int .i64 ln, .int .i64 cl,pv,bv], .str w] h (fun r h'=>Sub h h'/\∃rv,r= .tuple [ZP rv, .bool (qjg l w).isSome]/\IsL w0 h' 5 rv (((qjg l w).getD []).map Xg)):=by
 have hpl:=hp.live;have hps:=hp.scal;have hpc:=hp.cells;obtain⟨qs,rfl,hq,hqt⟩:=hp;rw[Jn]at hl;have hql:∀q∈qs,q.2.live=true:=fun q hqm=>(hqt q hqm).live;have nq:=qie hq;have hF:qjg (qs.map (·.1)) w=((qs.map (·.1)).find? fun p=>decide (p.words=w)).map (·.toks):=rfl;obtain⟨F,hFF⟩:∃F,F=qjg (qs.map (·.1)) w:=⟨_,rfl⟩
 rw[<-hFF]at hF|-
 refine qR (n:=24) (rs:=[.tmp 4, .tmp 5]) Tryz.func21 rfl rfl rfl rfl (VY rfl) ?_;simp only[qU];refine awp_rseq [1,2] (by rfl) fun K hK=>?_;refine UU (by rfl) (by rfl) (by rfl) fun k0q0 hk0q0=>?_;try have hf_0q0:h k0q0=none:=by first|assumption|(simp only[Bd]at hk0q0;simp only[hk0q0])
 skip;simp+decide only[qP,↓qa];apply hK;clear hK K;refine qi ?_;refine awp_rseq [1,9,10,11] (by rfl) fun K hK=>?_;simp+decide only[Qe,QU,Qh,YI,↓qh,↓qo,qf qdr,↓Qi,↓qc,hpl,nq];apply hK;clear hK K;refine qI ?_;refine Qj [1,9,10,11] (fun g:FnG=>[(1, .str w),(9,pv),(10, .int .i64 qs.length),(11, .int .i64 g.j)]) (fun g:FnG=>g.H) (fun g:FnG=>Sub h g.H/\g.j<=qs.length/\F=(((qs.drop g.j).map (·.1)).find? fun p=>decide (p.words=w)).map (·.toks)) (fun g:FnG=>qs.length-g.j) ⟨0,_⟩ (by rfl) (Vi _) ⟨zqB,Jq _,hF⟩ ?_;rintro⟨j,H⟩ ⟨hs_H,hj,hg⟩;simp only at hs_H hj hg|-
 refine awp_rseq [1,9,10,11,12] (by rfl) fun K hK=>?_;simp+decide only[XP,QH,qj,QY,↓qd];apply hK;clear hK K;refine qi (qz (b:=_) rfl (fun hb1=>?_) (fun hb1=>?_))
 ·try simp only[qG]at hb1
  have hj':j<qs.length:=by omega
  obtain⟨q,hqe⟩:∃q,q=qs.getD j qej:=⟨_,rfl⟩
  have hqm:q∈qs:=by rw[hqe,Ko,JB hj'];exact Vw hj'
  obtain⟨lc,o,c,hpe⟩:=qcc hq (by omega);have hq2:=hq.mono hs_H;rw[hpe]at hq2;obtain⟨e0,e1⟩:=qeJ hq2 hj';rw[<-hqe]at e0 e1;have hql1:=hql q hqm;have hqt1:=hqt q hqm;have hqs1:=hqt1.scal;have hqc1:=hqt1.cells;obtain⟨⟨qw,qt⟩,qv⟩:=q;simp only at e0 e1 hql1 hqt1 hqs1 hqc1;have hst:F=if qw=w then some qt else(((qs.drop (j+1)).map (·.1)).find? fun p=>decide (p.words=w)).map (·.toks):=by
   rw[hg,Vb hj',Ke,Bq];have:qs[j]=(⟨qw,qt⟩,qv):=by rw[hqe,Ko,JB hj'];rfl
   rw[this];by_cases z:qw=w
   ·simp[z]
   ·simp[z]
  have hqtl:qt.length<=1000000:=ht _ (BK (f:=(·.1)) hqm);have hwj:IntKind.i64.wrap ((j:Int)+1)=((j+1:Nat):Int):=by rw[wrap_i64 (by omega) (by omega)];omega
  refine qF ?_;change Awp _ _ _ _ _ _ _;refine qi ?_;refine qI ?_;refine awp_rseq [1,7,9,10,11] (by rfl) fun K hK=>?_;simp+decide only[Zi,QJ,Xc,↓qJ,qg Tryz.underlying79 qbA,↓qo,Qa ag84 qbA,hpe,e0,e1,hql1];repeat (with_reducible refine zqP ?_)
  refine Qp ze84 (cs:=[.str [], .nilSlice]) (by rfl) fun k3q2 hk3q2=>?_;have hn_3q2:H k3q2=none:=by first|assumption|(simp only[Bd]at hk3q2;simp only[hk3q2])
  have hf_3q2:h k3q2=none:=Be hs_H hn_3q2;refine qN (by rfl) (by rfl) zqA qbA (by rfl) (by rfl) zqD (Jq _) (by first|rfl|(simp+decide only[QI,BL,Yk,VN,YW,Qt,hqs1])) ?_;simp only[QT,Bg];simp+decide only[Zi,Xc];apply hK;clear hK K;refine awp_rseq [1,7,9,10,11,18] (by rfl) fun K hK=>?_;simp+decide only[Xj,QU,VD,qj,Qs,Zd,↓qh,qkS,↓qo,qf ag9,↓qc,↓qd];apply hK;clear hK K;refine qz (b:=_) rfl (fun hb2=>?_) (fun hb2=>?_)
  ·try simp only[qG]at hb2
   rw[if_pos hb2]at hst;refine awp_rseq [4,5] (by rfl) fun K hK=>?_;simp+decide only[qV,QU,qbm,↓qh,↓qo,qf qbK];repeat (with_reducible refine zqP ?_)
   refine qE (by rfl) (by rfl) (c_cloneTk w0 _ qv qt (hqt1.mono zqB) hqtl) fun x5q2 h5q2 hx5q2=>?_;obtain⟨hv5,hs5⟩:=hx5q2;have hs_h5q2:Sub h h5q2:=Br zqC hs5;have hr_h5q2:Sub H h5q2:=Br zqC hs5;have eb_3q2:=hs5 k3q2 _ zqA;refine QC (V:=ZP x5q2) (by rfl) (by rfl) (qhA w0 _ x5q2 _ hv5) ?_;simp+decide only[qP,↓qa];apply hK;clear hK K;refine qW ?_;try simp only[XB]
   refine Qb (qA (qA (qC))) ?_;simp+decide only[qV,Zz];rw[hst];exact⟨_,Vi _,zqB,_,rfl,hv5⟩
  ·try simp only[qG]at hb2
   rw[if_neg hb2]at hst;refine qF ?_;change Awp _ _ _ _ _ _ _;refine Qv [1,9,10,11] (by rfl) ?_;simp+decide only[QK,Xi,↓qd,↓qc,hwj];try simp only[QL]
   exact⟨⟨j+1,_⟩,by rw[hpe];rfl,Vi _,⟨zqB,hj',hst⟩,by simp only;omega⟩
 ·try simp only[qG]at hb1
  have hst:F=none:=by rw[hg,Bl (by omega)];rfl
  refine Qk ?_;change Awp _ _ _ _ _ _ _;refine awp_rseq [4,5] (by rfl) fun K hK=>?_;simp+decide only[qP,↓qa];apply hK;clear hK K;refine qW ?_;refine Qb (qA (qA (qC))) ?_;simp+decide only[qV,Zz];rw[hst];exact⟨H,Vi _,hs_H, .nilSlice,rfl, .nil⟩
def PhFew(l:List PhrC):Prop:=l≠[]/\l.length<=1000000/\∀p∈l,p.toks.length<=1000000
theorem operV_eq(o:Option Nat):operV o= .tuple [.int .i64 ((o.getD 0:Nat):Int), .int .i64 (if o.isSome=true then 0 else 4)]:=by cases o<;>rfl
set_option maxHeartbeats 2000000 in
theorem qpR(w0:World)(ha:Asp w0)(h:AHeap)(vb:Str)(ln cl:Int)(pv bv:AVal)(l:List PhrC)(hp:PhV w0 h pv l)(hbl:bv.live=true)(hbs:bv.scal=true)(hbc:bv.cells=[bv])(hf:PhFew l):
 ACall Tryz.prog w0 100 [.agg [.str vb, .int .i64 ln, .int .i64 cl,pv,bv]] h (fun r h'=>r= .bool (UY qZ l)/\Sub h h'):=by
 have hpl:=hp.live;have hps:=hp.scal;have hpc:=hp.cells;obtain⟨hf1,hf2,hf3⟩:=hf;have hR:UY qZ l=if firstT l=[]then true else(qjg l qft).isSome && (!(qjg l qeP).isSome && decide (qdD qZ (firstT l)=some (firstT l).length)):=rfl
 obtain⟨R,hRR⟩:∃R,R=UY qZ l:=⟨_,rfl⟩
 rw[<-hRR]at hR|-
 obtain⟨qs,hqe,hq,hqt⟩:=id hp;have hqn:0<qs.length:=by
  rcases V7 qs.length with z|z
  ·exfalso;apply hf1;rw[hqe,Kg z];rfl
  ·exact z
 obtain⟨q,hq0⟩:∃q,q=qs.getD 0 qej:=⟨_,rfl⟩
 have hqm:q∈qs:=by rw[hq0,Ko,JB hqn];exact Vw hqn
 have hft:firstT l=q.1.toks:=by
  unfold firstT;rw[hqe,hq0];simp[Ko,hqn]
 have hqv:=hqt q hqm;have hql:=hqv.live;have nq:=ZN hqv;have hqf:q.1.toks.length<=1000000:=hf3 _ (by rw[hqe];exact BK (f:=(·.1)) hqm);rw[hft]at hR;obtain⟨lc,o,c,rfl⟩:=qcc hq hqn;have hq2:=hq;have hq3:∀H,Sub h H->rd w0 H lc o= .str q.1.words/\rd w0 H lc (o+1)=q.2:=fun H hH=>by
  obtain⟨e0,e1⟩:=qeJ (hq2.mono hH) hqn;rw[K7,K6,<-hq0]at e0 e1;exact⟨e0,e1⟩
 obtain⟨⟨qw,qt⟩,qv⟩:=q;simp only at hR hqv hql nq hqf hq3;have hpos:((0:Int)<qs.length)=True:=eq_true (by omega);refine qR (n:=48) (rs:=[.tmp 2]) Tryz.func100 rfl rfl rfl rfl (VY rfl) ?_;simp only[qU];refine awp_rseq [1] (by rfl) fun K hK=>?_;refine UU (by rfl) (by rfl) (by rfl) fun k0q0 hk0q0=>?_;try have hf_0q0:h k0q0=none:=by first|assumption|(simp only[Bd]at hk0q0;simp only[hk0q0])
 skip;simp+decide only[qP,↓qa];apply hK;clear hK K;obtain⟨-,e1⟩:=hq3 _ (Vj (b:=⟨[.str vb, .int .i64 ln, .int .i64 cl, .slice lc o qs.length c,bv],0⟩) hk0q0);refine awp_rseq [1,3] (by rfl) fun K hK=>?_;simp+decide only[qP,QU,K6,YI,K7,qbm,Bv,↓qh,↓qo,qf qdr,↓qJ,qg Tryz.underlying79 qbA,qf qbK,↓qa,hpl,hql,hpos,e1];apply hK;clear hK K;refine qi ?_;refine awp_rseq [1,3,17] (by rfl) fun K hK=>?_;simp+decide only[QK,qK,Qh,XA,↓qc,↓Qi,↓qd,nq];apply hK;clear hK K;refine qz (b:=_) rfl (fun hb1=>?_) (fun hb1=>?_)
 ·try simp only[qG]at hb1
  rw[if_pos (Kg (by omega))]at hR;refine awp_rseq [2] (by rfl) fun K hK=>?_;simp+decide only[qP,↓qa];apply hK;clear hK K;refine qW ?_;try simp only[XB]
  refine Qb (qA (qC)) ?_;simp+decide only[QE];rw[hR];exact⟨h,zqB,rfl,Vi _⟩
 ·try simp only[qG]at hb1
  rw[if_neg (fun e=>by rw[e]at hb1;exact hb1 rfl)]at hR;refine qF ?_;change Awp _ _ _ _ _ _ _;refine awp_rseq [1,3,5] (by rfl) fun K hK=>?_;simp+decide only[qV,QJ,↓qo,Qa qgH WF,Nat.reduceAdd,hpl,hbl];refine qE (by rfl) (by rfl) (c_find w0 _ vb qft ln cl _ bv l (hp.mono zqB) hbl hbs hbc hf2 hf3) fun x4q1 h4q1 hx4q1=>?_;obtain⟨hs4,rv4,rfl,hrv4⟩:=hx4q1;have hs_h4q1:Sub h h4q1:=Br zqC hs4;have hr_h4q1:=hs_h4q1;have eb_0q0:=hs4 k0q0 _ zqA;simp+decide only[Xp,QF,QR,Xe,↓qc,↓Xa,↓qa,Nat.reduceAdd];apply hK;clear hK K;refine awp_rseq [3,5,7] (by rfl) fun K hK=>?_;simp+decide only[qV,QJ,↓qo,Qa qgH WF,Qm eb_0q0,Nat.reduceAdd,hpl,hbl];refine qE (by rfl) (by rfl) (c_find w0 _ vb qeP ln cl _ bv l (hp.mono zqB) hbl hbs hbc hf2 hf3) fun x5q1 h5q1 hx5q1=>?_;obtain⟨hs5,rv5,rfl,hrv5⟩:=hx5q1;have hs_h5q1:Sub h h5q1:=Br zqC hs5;have hr_h5q1:Sub h4q1 h5q1:=Br zqC hs5;have eb_0q0:=hs5 k0q0 _ zqA;simp+decide only[Xp,QF,QR,Xe,↓qc,↓Xa,↓qa,Nat.reduceAdd];apply hK;clear hK K;refine awp_rseq [3,5,7,8,9] (by rfl) fun K hK=>?_;simp+decide only[Qe,↓qc];refine qE (by rfl) (by rfl) (c_operand w0 ha _ qv qt (hqv.mono zqB) hqf) fun x6q1 h6q1 hx6q1=>?_;obtain⟨rfl,hs6⟩:=hx6q1;rw[operV_eq];have hs_h6q1:Sub h h6q1:=Br zqC hs6;have hr_h6q1:Sub h5q1 h6q1:=Br zqC hs6;have eb_0q0:=hs6 k0q0 _ zqA;simp+decide only[Xp,QF,QR,Xe,↓qc,↓Xa,↓qa,Nat.reduceAdd];apply hK;clear hK K;refine awp_rseq [2] (by rfl) fun K hK=>?_;simp+decide only[ZR,Yw,qK,qj,ZH,Yl,QS,XA,YF,Zf,qfm,qjk,qfl,qjj,↓qc,↓Qy,↓Uc,↓Qd,↓Qn,↓qbW,↓qa,nq];apply hK;clear hK K;refine qW ?_;refine Qb (qA (qC)) ?_;simp+decide only[QE];refine⟨h,by assumption,?_,Vi _⟩;rw[hR];congr 1;cases hop:qdD qZ qt with
  |none=>simp
  |some n=>
   have e:decide (((some n:Option Nat).getD 0:Int)=(qt.length:Int))=decide (some n=some qt.length):=by
    by_cases z:n=qt.length
    ·subst z;simp
    ·have:(n:Int)≠qt.length:=by omega
     simp[z,this]
   rw[e];simp only[if_true,J6,decide_true,Option.isSome_some,Bool.and_assoc]
def impV:Option Str->AVal
 |some w=> .tuple [.str w, .bool true]
 |none=> .tuple [.str [], .bool false]
theorem qey{w0:World}{h:AHeap}{v:AVal}{qs:List (BodC×AVal×AVal)}(ht:IsL w0 h 3 v (qs.map bdC)):∀H:AHeap,Zl Tryz.prog H 80 v=⟨True, .int .i64 qs.length⟩:=by
 intro H;have:=ht.len Tryz.underlying80 H
 rwa [Jn]at this
theorem qck{w0:World}{h:AHeap}{v:AVal}{qs:List (BodC×AVal×AVal)}(ht:IsL w0 h 3 v (qs.map bdC))(hn:0<qs.length):∃lc o c,v= .slice lc o qs.length c:=by
 obtain⟨lc,o,c,e⟩:=ht.open (fun e=>by rw[Vz]at e;subst e;simp at hn);rw[Jn]at e;exact⟨lc,o,c,e⟩
def qdE:BodC×AVal×AVal:=(([],[],[]), .nilSlice, .nilSlice)
theorem qfp{w0:World}{h:AHeap}{lc:AM.Loc}{o:Nat}{c:Cap}{qs:List (BodC×AVal×AVal)}(ht:IsL w0 h 3 (.slice lc o qs.length c) (qs.map bdC)){i:Nat}(hi:i<qs.length):
 rd w0 h lc (o+i*3)= .str (qs.getD i qdE).1.1/\rd w0 h lc (o+i*3+1)=(qs.getD i qdE).2.1/\rd w0 h lc (o+i*3+2)=(qs.getD i qdE).2.2:=by
 have he:=ht.elem (i:=i) (by rw[Jn];exact hi);rw[getD_map qdE hi]at he;simp only[and_true,cellsAt,List.cons.injEq,bdC]at he;exact he
theorem StsV.shape{w0:World}{d:Nat}{h:AHeap}{v:AVal}{l:List StC}(hs:StsV w0 d h v l):v.live=true/\v.scal=true/\v.cells=[v]:=by
 obtain⟨qs,-,a⟩:=hs.isL;exact⟨a.live,a.scal,a.cells⟩
theorem qsZ(w0:World)(ha:Asp w0)(h:AHeap)(c:Cur)(pv bv:AVal)(d:Nat)(hp:PhV w0 h pv c.phrases)(hb:BdV w0 (StsV w0 d h) h bv c.bodies)(hbl:c.bodies.length<=1000000)(hf:PhFew c.phrases):
 ACall Tryz.prog w0 74 [.agg [.str c.verb, .int .i64 c.line, .int .i64 c.col,pv,bv]] h (fun r h'=>r=impV (ZK qZ c)/\Sub h h'):=by
 have hpl:=hp.live;have hps:=hp.scal;have hbl:=hb.live;have hbs:=hb.scal;have hbc:=hb.cells;obtain⟨ql,hql,hqb,hqq⟩:=id hb;have nb:=qey hqb;have hR:ZK qZ c=if c.bodies≠[]then none else if c.verb=[73,70]then some Yh else if c.verb=[80,69,82,70,79,82,77]/\UY qZ c.phrases=true then some []else none:=rfl
 obtain⟨R,hRR⟩:∃R,R=ZK qZ c:=⟨_,rfl⟩
 rw[<-hRR]at hR|-
 have hbn:c.bodies=[]↔ql.length=0:=by rw[hql];simp
 refine qR (n:=18) (rs:=[.tmp 2, .tmp 3]) Tryz.func74 rfl rfl rfl rfl (VY rfl) ?_;simp only[qU];refine awp_rseq [1] (by rfl) fun K hK=>?_;refine UU (by rfl) (by rfl) (by rfl) fun k0q0 hk0q0=>?_;try have hf_0q0:h k0q0=none:=by first|assumption|(simp only[Bd]at hk0q0;simp only[hk0q0])
 skip;simp+decide only[qP,↓qa];apply hK;clear hK K;refine qi ?_;refine awp_rseq [1,7] (by rfl) fun K hK=>?_;simp+decide only[XP,QH,XI,Qh,YG,YR,↓qh,↓qo,qf qdp,↓Qi,↓qd,hbl,nb];apply hK;clear hK K;refine qz (b:=_) rfl (fun hb1=>?_) (fun hb1=>?_)
 ·try simp only[qG]at hb1
  rw[if_pos (fun e=>by rw[hbn]at e;omega)]at hR;refine awp_rseq [2,3] (by rfl) fun K hK=>?_;simp+decide only[qP,↓qa];apply hK;clear hK K;refine qW ?_;try simp only[XB]
  refine Qb (qA (qA (qC))) ?_;simp+decide only[qV,Zz];rw[hR];exact⟨h,zqB,rfl,Vi _⟩
 ·try simp only[qG]at hb1
  rw[if_neg (fun e=>e (hbn.2 (by omega)))]at hR;refine qF ?_;change Awp _ _ _ _ _ _ _;refine qi ?_;refine awp_rseq [1,10] (by rfl) fun K hK=>?_;simp+decide only[XP,QU,ZE,Zd,qag,↓qh,↓qo,qf ag9,↓qd];apply hK;clear hK K;refine qz (b:=_) rfl (fun hb2=>?_) (fun hb2=>?_)
  ·try simp only[qG]at hb2
   rw[if_pos hb2]at hR;refine awp_rseq [2,3] (by rfl) fun K hK=>?_;simp+decide only[qP,↓qa];apply hK;clear hK K;refine qW ?_;try simp only[XB]
   refine Qb (qA (qA (qC))) ?_;simp+decide only[qV,Zz];rw[hR];exact⟨h,zqB,rfl,Vi _⟩
  ·try simp only[qG]at hb2
   rw[if_neg hb2]at hR;obtain⟨pb,hpb⟩:∃pb,decide (c.verb=[80,69,82,70,79,82,77])=pb:=⟨_,rfl⟩
   refine qF ?_;change Awp _ _ _ _ _ _ _;refine awp_rseq [2,3] (by rfl) fun K hK=>?_;simp+decide only[Xj,XF,QU,Xt,YJ,Yy,ZE,Ze,Zd,Zt,qag,↓qh,↓qo,qf ag9,↓qd,↓qc,↓Xv,Qa qgH WF,Nat.reduceAdd,hpl,hbl,hpb];refine qar (g:= .bool pb) (V:= .bool (UY qZ c.phrases)) (f:=100) (cap:=[]) (xs:=[.agg [.str c.verb, .int .i64 c.line, .int .i64 c.col,pv,bv]]) (by rfl) (by rfl) (fun hg=>⟨rfl,by
    have hg':pb=true:=by rwa [WH]at hg
    simp+decide only[QI,Zr,XH,QW,evs,JE,hg']⟩) (fun hg=>qpR w0 ha _ c.verb c.line c.col pv bv c.phrases (hp.mono zqB) hbl hbs hbc hf) fun h5q5 hs5=>?_
   have hs_h5q5:Sub h h5q5:=Br zqC hs5;have hr_h5q5:=hs_h5q5;have eb_0q0:=hs5 k0q0 _ zqA;simp+decide only[qP,Xt,YS,↓Qd,↓qa];apply hK;clear hK K;refine qW ?_;refine Qb (qA (qA (qC))) ?_;simp+decide only[qV,Zz];refine⟨h,by assumption,?_,Vi _⟩;rw[hR];by_cases z:c.verb=[80,69,82,70,79,82,77]/\UY qZ c.phrases=true
   ·rw[if_pos z,<-hpb,decide_eq_true z.1,z.2];rfl
   ·rw[if_neg z]
    have:(pb && UY qZ c.phrases)=false:=by
     rw[Bool.eq_false_iff];intro q;rw[Ky]at q;exact z ⟨of_decide_eq_true (hpb.trans q.1),q.2⟩
    rw[this];rfl
structure WhG where
 j:Nat
 b:Bool
 H:AHeap
set_option maxHeartbeats 4000000 in
theorem c_whole(w0:World)(ha:Asp w0)(h:AHeap)(c:Cur)(pv bv:AVal)(d:Nat)(closed:Bool)(hp:PhV w0 h pv c.phrases)(hb:BdV w0 (StsV w0 d h) h bv c.bodies)(hbn:c.bodies.length<=1000000)(hf:PhFew c.phrases):
 ACall Tryz.prog w0 77 [.agg [.str c.verb, .int .i64 c.line, .int .i64 c.col,pv,bv], .bool closed] h (fun r h'=>r= .bool (qct qZ c closed)/\Sub h h'):=by
 have hpl:=hp.live;have hps:=hp.scal;have hbl:=hb.live;have hbs:=hb.scal;have hbc:=hb.cells;obtain⟨ql,hql,hqb,hqq⟩:=id hb;rw[hql,Jn]at hbn;have nb:=qey hqb;have hR:qct qZ c closed=if c.verb=[73,70]then !decide (firstT c.phrases=[]) && (match c.bodies with|b::_=>decide (b.1=[84,72,69,78])|[]=>false)
  else if c.verb=[69,86,65,76,85,65,84,69]\/c.verb=[83,69,65,82,67,72]then c.bodies.any fun b=>decide (b.1=[87,72,69,78])
  else if c.verb=[80,69,82,70,79,82,77]then decide (UY qZ c.phrases= !decide (c.bodies=[])) && (closed||decide (c.bodies=[]))
  else true:=rfl
 obtain⟨R,hRR⟩:∃R,R=qct qZ c closed:=⟨_,rfl⟩
 rw[<-hRR]at hR|-
 have hbn0:c.bodies=[]↔ql.length=0:=by rw[hql];simp
 obtain⟨A,hA⟩:∃A,A=c.bodies.any fun b=>decide (b.1=[87,72,69,78]):=⟨_,rfl⟩
 rw[<-hA]at hR;rw[hql]at hA;refine qR (n:=69) (rs:=[.tmp 4]) Tryz.func77 rfl rfl rfl rfl (VY rfl) ?_;simp only[qU];refine awp_rseq [1,2] (by rfl) fun K hK=>?_;refine UU (by rfl) (by rfl) (by rfl) fun k0q0 hk0q0=>?_;try have hf_0q0:h k0q0=none:=by first|assumption|(simp only[Bd]at hk0q0;simp only[hk0q0])
 skip;simp+decide only[qP,↓qa];apply hK;clear hK K;refine awp_rseq [1,2,5] (by rfl) fun K hK=>?_;simp+decide only[qP,↓qa];apply hK;clear hK K;refine qi ?_;refine awp_rseq [1,2,5,9,10,11] (by rfl) fun K hK=>?_;simp+decide only[Qe,QU,Qh,YR,↓qh,↓qo,qf qdp,↓Qi,↓qc,hbl,nb];apply hK;clear hK K;refine qI ?_;refine Qj [1,2,5,9,10,11] (fun g:WhG=>[(1, .bool closed),(2, .ptr (.own k0q0) 0),(5, .bool g.b),(9,bv),(10, .int .i64 ql.length),(11, .int .i64 g.j)]) (fun g:WhG=>g.H) (fun g:WhG=>Sub h g.H/\g.H k0q0=some ⟨[.str c.verb, .int .i64 c.line, .int .i64 c.col,pv,bv],0⟩/\g.j<=ql.length/\A=(g.b||((ql.drop g.j).map (·.1)).any fun b=>decide (b.1=[87,72,69,78]))) (fun g:WhG=>ql.length-g.j) ⟨0,false,_⟩ (by rfl) (Vi _) ⟨zqB,zqA,Jq _,hA⟩ ?_;rintro⟨j,b,H⟩ ⟨hs_H,eb_0q0,hj,hg⟩;simp only at hs_H eb_0q0 hj hg|-
 refine awp_rseq [1,2,5,9,10,11,12] (by rfl) fun K hK=>?_;simp+decide only[XP,QH,qj,QY,↓qd];apply hK;clear hK K;refine qi (qz (b:=_) rfl (fun hb1=>?_) (fun hb1=>?_))
 ·try simp only[qG]at hb1
  have hj':j<ql.length:=by omega
  obtain⟨q,hqe⟩:∃q,q=ql.getD j qdE:=⟨_,rfl⟩
  have hqm:q∈ql:=by rw[hqe,Ko,JB hj'];exact Vw hj'
  obtain⟨lc,o,cc,hpe⟩:=qck hqb (by omega);have hq2:=hqb.mono hs_H;rw[hpe]at hq2;obtain⟨e0,e1,e2⟩:=qfp hq2 hj';rw[<-hqe]at e0 e1 e2;obtain⟨hqt,hqs⟩:=hqq q hqm;have hl1:=hqt.live;have hs1:=hqt.scal;have hc1:=hqt.cells;obtain⟨hl2,hs2,hc2⟩:=hqs.shape;have hst:A=(b||decide (q.1.1=[87,72,69,78])||((ql.drop (j+1)).map (·.1)).any fun b=>decide (b.1=[87,72,69,78])):=by
   rw[hg,Vb hj',Ke,Bj,<-Bool.or_assoc];have:ql[j]=q:=by rw[hqe,Ko,JB hj'];rfl
   rw[this]
  obtain⟨⟨qw,qt,qL⟩,qtv,qlv⟩:=q;simp only at e0 e1 e2 hl1 hs1 hc1 hl2 hs2 hc2 hst;have hwj:IntKind.i64.wrap ((j:Int)+1)=((j+1:Nat):Int):=by rw[wrap_i64 (by omega) (by omega)];omega
  refine qF ?_;change Awp _ _ _ _ _ _ _;refine qi ?_;refine qI ?_;refine awp_rseq [1,2,5,7,9,10,11] (by rfl) fun K hK=>?_;simp+decide only[Zi,QJ,Xc,↓qJ,qg Tryz.underlying80 qav,↓qo,Qa qrf qav,hpe,e0,e1,e2,hl1,hl2];repeat (with_reducible refine zqP ?_)
  refine Qp qlH (cs:=[.str [], .nilSlice, .nilSlice]) (by rfl) fun k4q2 hk4q2=>?_;have hn_4q2:H k4q2=none:=by first|assumption|(simp only[Bd]at hk4q2;simp only[hk4q2])
  have hf_4q2:h k4q2=none:=Be hs_H hn_4q2;have ne_4q2_0q0:k4q2≠k0q0:=Bf hn_4q2 eb_0q0;refine qN (by rfl) (by rfl) zqA qav (by rfl) (by rfl) zqD (Jq _) (by first|rfl|(simp+decide only[QI,BL,Yk,VN,YW,Qt,hs1,hs2])) ?_;simp only[QT,Bg];simp+decide only[Zi,Xc,Nat.reduceAdd];apply hK;clear hK K;refine Qv [1,2,5,9,10,11] (by rfl) ?_;simp+decide only[ZR,XF,QU,XL,Qs,QS,Xn,Ze,Zd,Zt,ZF,↓qc,↓QM,qiy,↓Xv,qf ag9,↓Qn,↓Qd,↓qa];change Awp _ _ _ _ _ _ _;refine Qv [1,2,5,9,10,11] (by rfl) ?_;simp+decide only[QK,Xi,↓qd,↓qc,hwj];try simp only[QL]
  exact⟨⟨j+1,_,_⟩,by rw[hpe];rfl,Vi _,⟨zqB,zqA,hj',hst⟩,by simp only;omega⟩
 ·try simp only[qG]at hb1
  have hjn:j=ql.length:=by omega
  have hbA:b=A:=by rw[hg,hjn,Va];simp
  clear hg;refine Qk ?_;change Awp _ _ _ _ _ _ _;refine qi ?_;refine awp_rseq [1,2,5,23] (by rfl) fun K hK=>?_;simp+decide only[qV,QU,qag,↓qh,↓qo,qf ag9,Qm eb_0q0];apply hK;clear hK K;refine qI ?_;refine awp_rseq [1,2,5,23,24] (by rfl) fun K hK=>?_;simp+decide only[XK,QO,Za,ZE,Zd,↓qd,↓qa];apply hK;clear hK K;refine qz (b:=_) rfl (fun hb2=>?_) (fun hb2=>?_)
  ·try simp only[qG]at hb2
   rw[if_pos hb2]at hR;obtain⟨qs,hqe,hq,hqt⟩:=id hp;have hqn:0<qs.length:=by
    rcases V7 qs.length with z|z
    ·exfalso;apply hf.1;rw[hqe,Kg z];rfl
    ·exact z
   obtain⟨q,hq0⟩:∃q,q=qs.getD 0 qej:=⟨_,rfl⟩
   have hqm:q∈qs:=by rw[hq0,Ko,JB hqn];exact Vw hqn
   have hft:firstT c.phrases=q.1.toks:=by
    unfold firstT;rw[hqe,hq0];simp[Ko,hqn]
   have hqv:=hqt q hqm;have hqvl:=hqv.live;have nq:=ZN hqv;rw[hft]at hR;obtain⟨lc,o,cc,hpe⟩:=qcc hq hqn;have hq2:=hq.mono hs_H;rw[hpe]at hq2;obtain⟨-,e1⟩:=qeJ hq2 hqn;rw[K7,K6,<-hq0]at e1;have hpos:((0:Int)<qs.length)=True:=eq_true (by omega);have mcase:(∃(lb:AM.Loc) (ob:Nat) (cb:Cap),bv=bv/\decide ((0:Int)<q.1.toks.length)=false/\True/\True/\True/\R=false)\/
    (∃(lb:AM.Loc) (ob:Nat) (cb:Cap),bv=bv/\decide ((0:Int)<q.1.toks.length)=true/\decide ((0:Int)<ql.length)=false/\True/\True/\R=false)\/
    (∃(lb:AM.Loc) (ob:Nat) (cb:Cap),bv= .slice lb ob ql.length cb/\decide ((0:Int)<q.1.toks.length)=true/\decide ((0:Int)<ql.length)=true/\((0:Int)<ql.length)=True/\rd w0 H lb ob= .str (ql.getD 0 qdE).1.1/\R=decide ((ql.getD 0 qdE).1.1=[84,72,69,78])):=by
    by_cases z1:q.1.toks=[]
    ·exact .inl ⟨.base 0,0, .exact 0,rfl,by rw[z1];rfl,trivial,trivial,trivial,by rw[hR,decide_eq_true z1];rfl⟩
    ·have z1':decide ((0:Int)<q.1.toks.length)=true:=by
      rw[decide_eq_true_eq];have:=Bu.2 z1;omega
     rw[decide_eq_false z1]at hR;by_cases z2:ql.length=0
     ·refine .inr (.inl ⟨.base 0,0, .exact 0,rfl,z1',by rw[z2];rfl,trivial,trivial,?_⟩)
      rw[hR,hbn0.2 z2];rfl
     ·obtain⟨lb,ob,cb,hbe⟩:=qck hqb (by omega)
      have hb2:=hqb.mono hs_H;rw[hbe]at hb2;obtain⟨e3,-,-⟩:=qfp hb2 (i:=0) (by omega);rw[K7,K6]at e3;refine .inr (.inr ⟨lb,ob,cb,hbe,z1',by rw[decide_eq_true_eq];omega,eq_true (by omega),e3,?_⟩);rw[hR,hql];cases ql with
      |nil=>exact absurd rfl z2
      |cons x xs=>rfl
   refine awp_rseq [4] (by rfl) fun K hK=>?_;suffices hM:∀g:Bool,g=R->K [(4, .bool g)] (H) by
    rcases mcase with⟨lb,ob,cb,hbe,hT,hB,hp2,e3,hfin⟩|⟨lb,ob,cb,hbe,hT,hB,hp2,e3,hfin⟩|⟨lb,ob,cb,hbe,hT,hB,hp2,e3,hfin⟩<;>(
     simp+decide only[ZR,Yw,XI,K6,ZH,Yl,Qs,QS,Xn,Ze,Zd,Zt,ZF,YI,YG,YR,K7,qbm,Bv,↓qh,↓qo,qf qdr,↓qJ,qg Tryz.underlying79 qbA,qf qbK,↓Qi,↓qd,↓qc,↓QM,↓Xv,qf qdp,↓qbW,QV Tryz.underlying80,↓Qn,↓Qd,↓Zb,qg Tryz.underlying80 qav,qiy,qf ag9,↓qa,Qm eb_0q0,hbl,nb,hpe,hpos,e1,nq,hqvl,hbe,hT,hB,hp2,e3];exact hM _ hfin.symm)
   intro g hb_9;apply hK;clear hK K;refine qW ?_;try simp only[XB]
   refine Qb (qA (qC)) ?_;simp+decide only[QE];rw[<-hb_9];exact⟨h,by assumption,rfl,Vi _⟩
  ·try simp only[qG]at hb2
   rw[if_neg hb2]at hR;refine qi ?_;refine awp_rseq [1,2,5,23,47] (by rfl) fun K hK=>?_;simp+decide only[XK,QO,Za,ZE,Zd,↓qd,↓qa];apply hK;clear hK K;refine qz (b:=_) rfl (fun hb3=>?_) (fun hb3=>?_)
   ·try simp only[qG]at hb3
    refine qF ?_;change Awp _ _ _ _ _ _ _;refine qz (b:=_) rfl (fun hb4=>?_) (fun hb4=>?_)
    ·try simp only[qG]at hb4
     rw[if_pos (.inl hb3)]at hR;refine awp_rseq [4] (by rfl) fun K hK=>?_;simp+decide only[Xp,↓qc,↓qa];apply hK;clear hK K;refine qW ?_;try simp only[XB]
     refine Qb (qA (qC)) ?_;simp+decide only[QE];exact⟨h,by assumption,by rw[hR,hbA],Vi _⟩
    ·exact absurd hb3 (of_decide_eq_false hb4)
   ·try simp only[qG]at hb3
    refine Qv [1,2,5,23,47] (by rfl) ?_;simp+decide only[XK,QO,Za,ZE,Zd,↓qd,↓qa];change Awp _ _ _ _ _ _ _;refine qz (b:=_) rfl (fun hb6=>?_) (fun hb6=>?_)
    ·try simp only[qG]at hb6
     rw[if_pos (.inr hb6)]at hR;refine awp_rseq [4] (by rfl) fun K hK=>?_;simp+decide only[Xp,↓qc,↓qa];apply hK;clear hK K;refine qW ?_;try simp only[XB]
     refine Qb (qA (qC)) ?_;simp+decide only[QE];exact⟨h,by assumption,by rw[hR,hbA],Vi _⟩
    ·try simp only[qG]at hb6
     rw[if_neg (by
      rintro(z|z)
      ·exact hb3 z
      ·exact hb6 z)]at hR
     refine awp_rseq [1,2,51] (by rfl) fun K hK=>?_;simp+decide only[XK,QO,Za,ZE,Zd,↓qd,↓qa];apply hK;clear hK K;refine qz (b:=_) rfl (fun hb7=>?_) (fun hb7=>?_)
     ·try simp only[qG]at hb7
      rw[if_pos hb7]at hR;refine qli [0,2,3,4,5,1,6,7,8,9,10,11,12,13,14,15,16] [none,none,none,none,none,none,some 5,some 6,some 7,some 8,some 9,some 10,some 11,some 12,some 9,some 7,some 15] 17 [4] mixed (by kernel_rfl) (by rfl) fun K hK=>?_;simp only[Kz,List.filterMap_cons,List.filterMap_nil,KM,YB];simp+decide only[XP,QH,XI,Qh,YG,YR,Wi,qfK,qff,↓qo,Qa qgH WF,↓qh,qf qdp,↓Qi,↓qd,Qm eb_0q0,Nat.reduceAdd,hpl,hbl,nb];refine qE (by rfl) (by rfl) (qpR w0 ha _ c.verb c.line c.col pv bv c.phrases (hp.mono zqB) hbl hbs hbc hf) fun x14q1 h14q1 hx14q1=>?_;obtain⟨rfl,hs14⟩:=hx14q1;have hs_h14q1:Sub h h14q1:=Br zqC hs14;have hr_h14q1:Sub H h14q1:=Br zqC hs14;have eb_0q0:=hs14 k0q0 _ zqA;rw[QB];refine And.intro (by first|exact Vi _|assumption|exact Vj (by assumption)) ?_;simp+decide only[ZR,Yw,XI,qj,ZH,Yl,QS,XA,Ze,Zt,ZF,YR,Wi,qbz,qby,qfm,qfl,pBinX_beq,Tryz.underlying4,↓qc,↓Qy,↓QM,↓Xv,qf qdp,↓qbW,↓Qn,↓UE,↓Qd,↓qa,Qm eb_0q0,hbl,nb];apply hK;clear hK K;refine qW ?_;try simp only[XB]
      refine Qb (qA (qC)) ?_;simp+decide only[QE];refine⟨h,by assumption,?_,Vi _⟩;rw[hR];congr 1;by_cases z:ql.length=0
      ·rw[hbn0.2 z,z]
       cases UY qZ c.phrases<;>cases closed<;>rfl
      ·have z2:c.bodies≠[]:=fun e=>z (hbn0.1 e)
       have z3:decide ((0:Int)<ql.length)=true:=by rw[decide_eq_true_eq];omega
       have z4:decide ((ql.length:Int)=0)=false:=by rw[decide_eq_false_iff_not];omega
       rw[z3,z4,decide_eq_false z2];cases UY qZ c.phrases<;>cases closed<;>rfl
     ·try simp only[qG]at hb7
      rw[if_neg hb7]at hR;refine qF ?_;change Awp _ _ _ _ _ _ _;refine awp_rseq [4] (by rfl) fun K hK=>?_;simp+decide only[qP,↓qa];apply hK;clear hK K;refine qW ?_;refine Qb (qA (qC)) ?_;simp+decide only[QE];exact⟨h,by assumption,by rw[hR],Vi _⟩
abbrev curB(c:Cur)(pv bv:AVal):Blk:=⟨[.str c.verb, .int .i64 c.line, .int .i64 c.col,pv,bv],0⟩
abbrev parB3(v:AVal)(i:Nat)(ov:AVal):Blk:=⟨[v, .int .i64 i,ov],0⟩
structure CurS(w0:World)(d:Nat)(c:Cur)(pv bv:AVal)(pp tp bp E:AHeap):Prop where
 ph:∃(qs:List (PhrC×AVal)) (w:Str) (ts:List TokC) (tv:AVal),c.phrases=qs.map (·.1)++[⟨w,ts⟩]/\GrowV 2 pv pp (qs.map phC++[[.str w,tv]])/\GrowV 5 tv tp (ts.map Xg)/\∀q∈qs,IsL w0 E 5 q.2 (q.1.toks.map Xg)
 bd:∃bs:List (BodC×AVal×AVal),c.bodies=bs.map (·.1)/\GrowV 3 bv bp (bs.map bdC)/\∀b∈bs,IsL w0 E 5 b.2.1 (b.1.2.1.map Xg)/\StsV w0 d E b.2.2 b.1.2.2
def Few(c:Cur)(i:Nat):Prop:=c.phrases.length<=i/\(∀p∈c.phrases,p.toks.length<=i)/\c.bodies.length<=i
theorem CurS.bv_len{w0:World}{d:Nat}{c:Cur}{pv bv:AVal}{pp tp bp E:AHeap}(hc:CurS w0 d c pv bv pp tp bp E):bv.live=true/\bv.scal=true/\bv.cells=[bv]/\∀H:AHeap,Zl Tryz.prog H 80 bv=⟨True, .int .i64 c.bodies.length⟩:=by
 obtain⟨bs,e,g,-⟩:=hc.bd;refine⟨g.live,g.scal,g.cells,fun H=>?_⟩;rw[qey (w0:=w0) (g.isL (Vi _)),e,Jn]
theorem CurS.pv_ok{w0:World}{d:Nat}{c:Cur}{pv bv:AVal}{pp tp bp E:AHeap}(hc:CurS w0 d c pv bv pp tp bp E):pv.live=true/\pv.scal=true/\pv.cells=[pv]:=by
 obtain⟨qs,w,ts,tv,_,g,_⟩:=hc.ph;exact⟨g.live,g.scal,g.cells⟩
theorem c_tokBad(w0:World)(h B:AHeap)(kp ks:Nat)(v ov bv pv:AVal)(op pp tp bp E:AHeap)(c:Cur)(d i:Nat)(l:List TokC)(forms:Str)(hS:Sep [B,one kp (parB3 v i ov),op,one ks (curB c pv bv),pp,tp,bp,E] h)(hv:IsL w0 B 5 v (l.map Xg))(hc:CurS w0 d c pv bv pp tp bp E)
 (hl:l.length<=1000000) (hi:i<=l.length) (hb:c.bodies≠[]):APanic Tryz.prog w0 76 [.ptr (.own kp) 0, .ptr (.own ks) 0, .str forms] h (FaultP h (WS l 4 i)):=by
 have eb_p:h kp=some _:=hS.at_ (i:=1) rfl;have eb_s:h ks=some _:=hS.at_ (i:=3) rfl;have ne_p_s:kp≠ks:=hS.ne (i:=1) (j:=3) rfl rfl (by decide);have hs_h:Sub B h:=hS.in_ (i:=0) rfl;have hlv:=hv.live;obtain⟨hbl,-,-,nb⟩:=hc.bv_len;have hn:=Bu.2 hb;refine qaU (k:=82) (rs:=[]) Tryz.func76 rfl rfl rfl rfl (VY rfl) ?_;simp only[qU];refine qi ?_;refine awp_rseq [0,1,2,14] (by rfl) fun K hK=>?_;simp+decide only[QK,XI,Qh,Xh,YG,YR,↓qc,↓Qf,↓qh,↓qo,qf qdp,↓Qi,↓qd,Qm eb_s,Nat.reduceAdd,hbl,nb];apply hK;clear hK K;refine qz (b:=_) rfl (fun hb1=>?_) (fun hb1=>?_)
 ·try simp only[qG]at hb1
  refine YE 5 (by rfl) (by rfl) ?_;simp only[Ki,Bh];simp+decide only[Qe,QU,Xh,Wd,↓qc,↓Qf,↓qh,↓qo,qf ag3,Qm eb_p];refine⟨⟨_,_,by rfl,?_⟩,by intro i;first|trivial|exact .inr trivial|exact .inr rfl⟩;exact qev w0 _ B kp v ov l i 4 i zqA zqB hv hl (by omega)
 ·have:=of_decide_eq_false hb1;omega
theorem qkl(F:List AVal)(w tv u:AVal)(n:Nat)(hn:F.length=n*2):setAt (F++[w,tv]) (n*2+1) [u]=F++[w,u]:=by
 simp only[setAt];rw[BM _ _ (by omega),show n*2+1-F.length=1 by omega];rfl
theorem qee(qs:List (PhrC×AVal)):(qs.map phC).flatten.length=qs.length*2:=by rw[Xu qeZ,Jn]
theorem qfv{l:List TokC}{c:Cur}{forms:Str}{i:Nat}(hb:c.bodies=[]):qat l c forms i=if (Qr l i forms).2=0 then .ok {c with phrases:=qtj c.phrases (l.getD i noT)} (i+1)
 else if (Qr l i forms).1≠[]then .ok {c with phrases:=c.phrases++[⟨(Qr l i forms).1,[]⟩]} (i+(Qr l i forms).2)
 else .ok c (i+(Qr l i forms).2):=by
 unfold qat;rw[if_neg (by rw[hb];simp)]
theorem addT_snoc(ps:List PhrC)(w:Str)(ts:List TokC)(t:TokC):qtj (ps++[⟨w,ts⟩]) t=ps++[⟨w,ts++[t]⟩]:=by simp[qtj]
theorem qfL{qs:List (PhrC×AVal)}{w:Str}{tv pv:AVal}{pp:AHeap}(hg:GrowV 2 pv pp (qs.map phC++[[.str w,tv]])):∃kh ch,pv= .slice (.own kh) 0 (qs.length+1) ch/\(ch= .exact (qs.length+1)\/ch= .grow 2)/\pp=one kh ⟨(qs.map phC).flatten++[.str w,tv],0⟩:=by
 rcases hg with⟨_,_,e⟩|⟨k,c,e1,e2,e3,_,_⟩
 ·simp at e
 ·rw[Jb,Jn,JF]at e1 e2
  exact⟨k,c,e1,e2,by rw[e3];simp⟩
theorem qja{qs:List (PhrC×AVal)}{w:Str}{tv pv u:AVal}{pp:AHeap}{kh:Nat}{ch:Cap}(hg:GrowV 2 pv pp (qs.map phC++[[.str w,tv]]))(hpv:pv= .slice (.own kh) 0 (qs.length+1) ch)(hch:ch= .exact (qs.length+1)\/ch= .grow 2)(hu:u.live=true):
 GrowV 2 pv (one kh ⟨(qs.map phC).flatten++[.str w,u],0⟩) (qs.map phC++[[.str w,u]]):=by
 have hl:allLive (qs.map phC++[[AVal.str w,tv]]).flatten=true:=by
  rcases hg with⟨_,_,e⟩|⟨_,_,_,_,_,_,hl⟩
  ·simp at e
  ·exact hl
 rw[Bp,Ya,Ky]at hl;subst hpv;refine GrowV.new (by rw[Jb,Jn,JF]) hch (fun x hx=>?_) ?_ (by simp)
 ·rcases JV.1 hx with h|h
  ·exact qeZ x h
  ·rw[V4.1 h];rfl
 ·rw[Bp,Ya,hl.1]
  show(true && (true && (u.live && true)))=true
  rw[hu];rfl
theorem qpl(qs:List (PhrC×AVal))(w:Str)(tv:AVal):((qs.map phC).flatten++[AVal.str w,tv]).getD (qs.length*2+1) .dead=tv:=by
 rw[Ko,BN (by rw[qee];omega),qee,show qs.length*2+1-qs.length*2=1 by omega];rfl
set_option maxHeartbeats 4000000 in
theorem c_tokOk(w0:World)(ha:Asp w0)(h B:AHeap)(kp ks:Nat)(v ov bv pv:AVal)(op pp tp bp E:AHeap)(c c':Cur)(d i j:Nat)(l:List TokC)(forms:Str)(hS:Sep [B,one kp (parB3 v i ov),op,one ks (curB c pv bv),pp,tp,bp,E] h)(hv:IsL w0 B 5 v (l.map Xg))(hc:CurS w0 d c pv bv pp tp bp E)
 (hl:l.length<=1000000) (hi:i<l.length) (hb:c.bodies=[]) (hf:forms.length<=1000000) (hfa:asciiB forms=true) (hok:qat l c forms i= .ok c' j) (hfew:Few c i) (hov:ov.live=true):
 ACall Tryz.prog w0 76 [.ptr (.own kp) 0, .ptr (.own ks) 0, .str forms] h (fun r h'=>r= .tuple []/\∃pv' pp' tp' E',CurS w0 d c' pv' bv pp' tp' bp E'/\Sep [B,one kp (parB3 v j ov),op,one ks (curB c' pv' bv),pp',tp',bp,E'] h'):=by
 have eb_p:h kp=some _:=hS.at_ (i:=1) rfl;have eb_s:h ks=some _:=hS.at_ (i:=3) rfl;have ne_p_s:kp≠ks:=hS.ne (i:=1) (j:=3) rfl rfl (by decide);have hs_h:Sub B h:=hS.in_ (i:=0) rfl;have hlv:=hv.live;obtain⟨hbl,hbs,hbc,nb⟩:=hc.bv_len;rw[qfv hb]at hok;have hst:=qgn l i forms (by omega);obtain⟨S,hS0⟩:∃S,S=Qr l i forms:=⟨_,rfl⟩
 rw[<-hS0]at hok hst;obtain⟨hf1,hf2,hf3⟩:=hfew;refine qR (n:=82) (rs:=[]) Tryz.func76 rfl rfl rfl rfl (VY rfl) ?_;simp only[qU];refine qi ?_;refine awp_rseq [0,1,2,14] (by rfl) fun K hK=>?_;simp+decide only[QK,XI,Qh,Xh,YG,YR,↓qc,↓Qf,↓qh,↓qo,qf qdp,↓Qi,↓qd,Qm eb_s,Nat.reduceAdd,hbl,nb];apply hK;clear hK K;refine qz (b:=_) rfl (fun hb1=>?_) (fun hb1=>?_)
 ·rw[hb]at hb1;cases hb1
 ·try simp only[qG]at hb1
  refine qF ?_;change Awp _ _ _ _ _ _ _;refine awp_rseq [0,1,6,7] (by rfl) fun K hK=>?_;simp+decide only[Qe,↓qc];refine QC (V:= .tuple [.str S.1, .int .i64 S.2]) (by rfl) (by rfl) (by rw[hS0];exact qfn w0 ha _ (.own kp) 0 v l i forms (Yc w0 eb_p 0) (Yc w0 eb_p 1) (hv.mono zqB) hl (by omega) hf hfa) ?_;simp+decide only[Xp,QF,QR,Xe,↓qc,↓Xa,↓qa,Nat.reduceAdd];apply hK;clear hK K;refine qi ?_;refine qI ?_;refine awp_rseq [0,1,6,7,27] (by rfl) fun K hK=>?_;simp+decide only[XD,qK,XA,↓qc,↓qd,↓qa];apply hK;clear hK K;refine qz (b:=_) rfl (fun hb2=>?_) (fun hb2=>?_)
  ·try simp only[qG]at hb2
   have hz:S.2=0:=by omega
   rw[if_pos hz]at hok;obtain⟨qs,w,ts,tv,hph,hg,hgt,hqE⟩:=hc.ph;obtain⟨kh,ch,rfl,hch,rfl⟩:=qfL hg;have eb_h:h kh=some _:=hS.at_ (i:=4) rfl;have ne_p_h:kp≠kh:=hS.ne (i:=1) (j:=4) rfl rfl (by decide);have ne_s_h:ks≠kh:=hS.ne (i:=3) (j:=4) rfl rfl (by decide);have nph:∀H:AHeap,Zl Tryz.prog H 79 (.slice (.own kh) 0 (qs.length+1) ch)=⟨True, .int .i64 ((qs.length+1:Nat):Int)⟩:=fun H=>by
    have:=(hg.isL (w0:=w0) (Vi _)).len Tryz.underlying79 H
    rwa [Jb,Jn,JF]at this
   rw[hph,Jb,Jn,JF]at hf1;have hwn:IntKind.i64.wrap (((qs.length+1:Nat):Int)-1)=(qs.length:Int):=by rw[wrap_i64 (by omega) (by omega)];omega
   have htl:=hgt.live;have htsl:ts.length<=i:=hf2 ⟨w,ts⟩ (by rw[hph];simp);refine UD [0,8] mixed (by kernel_rfl) (by rfl) (by rfl) fun K hK=>?_;simp+decide only[QK,XI,Qh,Xh,YI,WW,↓qc,↓Qf,↓qh,↓qo,qf qdr,↓Qi,QV Tryz.underlying79,↓qd,Qm eb_s,hwn];try simp+decide only[qP,QJ,↓qJ,qg Tryz.underlying79 qbA,↓qa]
   repeat (with_reducible refine zqP ?_)
   apply hK;clear hK K;obtain⟨lc,o,cc,hve⟩:=Ye hv (by omega);have hv2:=hv.mono hs_h;rw[hve]at hv2;obtain⟨e0,e1,e2,e3,e4⟩:=WU hv2 hi;obtain⟨t,ht⟩:∃t,t=l.getD i noT:=⟨_,rfl⟩
   rw[<-ht]at e0 e1 e2 e3 e4 hok;obtain⟨cs,hcs⟩:∃cs,cs=(qs.map phC).flatten++[AVal.str w,tv]:=⟨_,rfl⟩
   have hcg:cs.getD (qs.length*2+1) .dead=tv:=by rw[hcs];exact qpl qs w tv
   have hcl:cs.length=qs.length*2+2:=by rw[hcs,Jb,qee];rfl
   rw[<-hcs]at eb_h hS;have etv:rd w0 h (.own kh) (qs.length*2+1)=tv:=by rw[Yc w0 eb_h];exact hcg
   refine qbn 16 [0] [0] mixed (by kernel_rfl) (by rfl) fun K hK=>?_;simp only[Ki,Bh,Vr,Vn];simp+decide only[Qe,qY,Xc,Xh,Wd,ZJ,qbm,XZ,qcN,↓qaN,↓qap,↓YP,↓qaO,qf qbK,qf ag3,↓WO,qg Tryz.underlying39 Yo,Qa qjz Yo,Qm eb_p,htl,etv,hve,e0,e1,e2,e3,e4];repeat (with_reducible refine zqP ?_)
   refine UO (by rfl) ?_;refine qO (cs:=(Xg t)) (by kernel_rfl) fun k5q15 hk5q15=>?_;have hn_5q15:h k5q15=none:=by first|assumption|(simp only[Bd]at hk5q15;simp only[hk5q15])
   have hf_5q15:B k5q15=none:=Be hs_h hn_5q15;have ne_5q15_p:k5q15≠kp:=Bf hn_5q15 eb_p;have ne_5q15_s:k5q15≠ks:=Bf hn_5q15 eb_s;rw[QB];try simp only[Un,Uf]
   refine ZM (es:=5) (v:=tv) (p:=tp) (xs:=ts.map Xg) (ys:=[Xg t]) (i:=5) (by rfl) (by rfl) Tryz.underlying39 Tryz.underlying39 (fun k e=>by cases e) Yo qfY qdU (by rfl) (by decide) (by rfl) hgt rfl (hS.forget (Vj hn_5q15)) (by rfl) (Bz (Vh _ _ _) (fun x hx=>by rw[V4.1 hx];rfl) (by rfl) (by rfl) (.exact 1) (KL _)) (by rfl) (by simp) (by rw[Jn,JF];omega) (by rw[Jn,JF];omega) fun tv2 tp2 h5 hg2 _ hS2=>?_;simp+decide only[qV,qY,Xc,Xh,qbm,↓Qf,↓qh];refine qN (v:=tv2) (by rfl) (by rfl) (hS2.at_ (i:=4) rfl) sz39 hg2.live (by rw[hg2.cells];rfl) (by simp only;omega) (Jq _) (by rw[hg2.cells];simp[Qt,hg2.scal]) ?_;simp+decide only[qV,Xc];apply hK;clear hK K;obtain⟨H6,hH6⟩:∃H6,H6=h5.set kh ⟨setAt cs (qs.length*2+1) tv2.cells,0⟩:=⟨_,rfl⟩
   refine BO (h':=H6) (by rw[hH6];exact Vi _) ?_;rw[hg2.cells,hcs,qkl _ _ _ _ _ (qee qs)]at hH6;have hS6:=hS2.put (i:=4) rfl ⟨(qs.map phC).flatten++[AVal.str w,tv2],0⟩;rw[<-hH6]at hS6;simp only[Xo]at hS6;have eb_p:H6 kp=some _:=hS6.at_ (i:=1) rfl;have hs_H6:Sub B H6:=hS6.in_ (i:=0) rfl;refine Qv [0,7] (by rfl) ?_;simp+decide only[qP,↓qa];change Awp _ _ _ _ _ _ _;refine Qv [] (by rfl) ?_;simp+decide only[QK,QU,qj,XJ,Xh,Wd,↓qc,↓Qf,↓qh,↓qo,qf ag3,↓qd,Qm eb_p];try simp(disch:=omega)only[wrap_i64,wrap_u8]
   refine qN (by rfl) (by rfl) zqA sz3 (by rfl) (by rfl) zqD (Jq _) (by rfl) ?_;simp only[QT];simp+decide only[qV];refine qai (qC) ?_;try simp+decide only[qV,qfD]
   cases hok;exact⟨_,Vi _,_,_,_,_,⟨⟨qs,w,ts++[t],tv2,by simp only;rw[hph,addT_snoc],qja hg rfl hch hg2.live,by rw[JI];exact hg2,hqE⟩,hc.bd⟩,hS6.put (i:=1) rfl _⟩
  ·try simp only[qG]at hb2
   have hz:S.2≠0:=by omega
   rw[if_neg hz]at hok;refine awp_rseq [0,1,6,7,60] (by rfl) fun K hK=>?_;simp+decide only[ZR,ZE,qac,↓qc,↓qd,↓qa];apply hK;clear hK K;refine qz (b:=_) rfl (fun hb3=>?_) (fun hb3=>?_)
   ·try simp only[qG]at hb3
    rw[if_pos hb3]at hok;obtain⟨qs,w,ts,tv,hph,hg,hgt,hqE⟩:=hc.ph;have hpl:=hg.live;rw[hph,Jb,Jn,JF]at hf1;refine Qv [0,7] (by rfl) ?_;simp+decide only[Qe,QU,QW,Xh,Zo,YI,↓qc,↓Qf,↓qh,↓qo,qf qdr,↓XO,↓QN,bld84_0,Qm eb_s,hpl];refine qO (cs:=[.str S.1, .nilSlice]) (by kernel_rfl) fun k8q7 hk8q7=>?_;have hn_8q7:h k8q7=none:=by first|assumption|(simp only[Bd]at hk8q7;simp only[hk8q7])
    have hf_8q7:B k8q7=none:=Be hs_h hn_8q7;have ne_8q7_p:k8q7≠kp:=Bf hn_8q7 eb_p;have ne_8q7_s:k8q7≠ks:=Bf hn_8q7 eb_s;refine ZM (es:=2) (v:=pv) (p:=pp) (xs:=qs.map phC++[[.str w,tv]]) (ys:=[[.str S.1, .nilSlice]]) (i:=4) (by rfl) (by rfl) Tryz.underlying79 Tryz.underlying79 (fun k e=>by cases e) qbA by84 ze84 (by rfl) (by decide) (by rfl) hg rfl (hS.forget (Vj hn_8q7)) (by rfl) (Bz (Vh _ _ _) (fun x hx=>by rw[V4.1 hx];rfl) (by rfl) (by rfl) (.exact 1) (KL _)) (by rfl) (by simp) (by simp only[Jn,Jb,JF];omega) (by simp only[Jn,Jb,JF];omega) fun pv2 pp2 h8 hg2 _ hS2=>?_;simp+decide only[qV,qY,Xh,YI,↓Qf,↓qh];refine qN (v:=pv2) (by rfl) (by rfl) (hS2.at_ (i:=3) rfl) sz79 hg2.live (by rw[hg2.cells];rfl) (by simp only[QF];omega) (Jq _) (by rw[hg2.cells];simp[Qt,hg2.scal]) ?_;simp only[Xo,WB,hg2.cells];simp+decide only[qV];have eb_p:h8 kp=some _:=hS2.at_ (i:=1) rfl;have hs8:Sub B h8:=hS2.in_ (i:=0) rfl;change Awp _ _ _ _ _ _ _;refine Qv [] (by rfl) ?_;simp+decide only[QK,QU,qj,XJ,Xh,Wd,↓qc,↓Qf,↓qh,↓qo,qf ag3,↓qd,Qm eb_p,ne_p_s];try simp(disch:=omega)only[wrap_i64,wrap_u8]
    refine qN (by rfl) (by rfl) zqA sz3 (by rfl) (by rfl) zqD (Jq _) (by rfl) ?_;simp only[QT];simp+decide only[qV];refine qai (qC) ?_;try simp+decide only[qV,qfD]
    cases hok;have hS8:=(hS2.put (i:=3) rfl (curB {c with phrases:=c.phrases++[⟨S.1,[]⟩]} pv2 bv)).put (i:=1) rfl (parB3 v (i+S.2) ov);have hS9:=(Sep.fold (ps:=[tp,E]) (hS8.pick [5,7,0,1,2,3,4,6] (by decide) (by simp))).emp.pick [1,2,3,4,5,7,6,0] (by decide) (by simp);have hsu:=Xy (ps:=[tp,E]) (hS8.pick [5,7] (by decide) (by simp)).2;exact⟨_,Vi _,_,_,_,_,⟨⟨qs++[(⟨w,ts⟩,tv)],S.1,[], .nilSlice,by simp only;rw[hph,JI];rfl,by rw[JI];exact hg2, .nil,fun q hq=>by
     rcases JV.1 hq with hq|hq
     ·exact(hqE q hq).mono (hsu E (by simp))
     ·rw[V4.1 hq]
      exact hgt.isL (hsu tp (by simp))⟩,by
     obtain⟨bs,b1,b2,b3⟩:=hc.bd;exact⟨bs,b1,b2,fun b hb=>⟨(b3 b hb).1.mono (hsu E (by simp)),(b3 b hb).2.mono (hsu E (by simp))⟩⟩⟩,hS9⟩
   ·try simp only[qG]at hb3
    rw[if_neg (by rw[hb3];simp)]at hok;refine qF ?_;change Awp _ _ _ _ _ _ _;refine Qv [] (by rfl) ?_;simp+decide only[QK,QU,qj,XJ,Xh,Wd,↓qc,↓Qf,↓qh,↓qo,qf ag3,↓qd,Qm eb_p];try simp(disch:=omega)only[wrap_i64,wrap_u8]
    refine qN (by rfl) (by rfl) zqA sz3 (by rfl) (by rfl) zqD (Jq _) (by rfl) ?_;simp only[QT];simp+decide only[qV];refine qai (qC) ?_;try simp+decide only[qV,qfD]
    cases hok;exact⟨_,Vi _,_,_,_,_,hc,hS.put (i:=1) rfl _⟩
abbrev strC(s:Str):List AVal:=[.str s]
def qlD(B:AHeap)(Q:FaultC->Prop):AVal->AHeap->Prop:=fun x h'=>∃f,Q f/\x= .iface 48 (faultV f)/\Sub B h'
structure ParS(w0:World)(l:List TokC)(B:AHeap)(v ov:AVal)(op:AHeap)(O:List Str)(i:Nat):Prop where
 toks:IsL w0 B 5 v (l.map Xg)
 open_:GrowV 1 ov op (O.map strC)
 isG:isG ov=true
 at_:i<=l.length
abbrev ListRO(l:List TokC):=ListR qZ l Qg
abbrev StRO(l:List TokC):=StR qZ l Qg
abbrev BodyRO(l:List TokC):=BodyR qZ l Qg
abbrev LoopRO(l:List TokC):=LoopR qZ l Qg
def qjO(w0:World)(l:List TokC)(B:AHeap)(kp:Nat)(v:AVal)(O:List Str)(dd i:Nat):AVal->AHeap->Prop:=fun r h'=>∃L j ov' op' E,ListRO l dd O i [] (.ok L j)/\i<=j/\L.length<=j-i/\StsV w0 (33-dd) E r L/\ParS w0 l B v ov' op' O j/\Sep [B,one kp (parB3 v j ov'),op',E] h'
def qtr(w0:World)(l:List TokC)(B:AHeap)(kp:Nat)(v:AVal)(O:List Str)(dd i:Nat):AVal->AHeap->Prop:=fun r h'=>dd<=32/\∃s j ov' op' E pv bv,StRO l dd O i (.ok s j)/\i<j/\r= .agg (qcy (s,pv,bv))/\PhV w0 E pv s.phrases/\BdV w0 (StsV w0 (32-dd) E) E bv s.bodies/\ParS w0 l B v ov' op' O j/\Sep [B,one kp (parB3 v j ov'),op',E] h'
def qlG(w0:World)(l:List TokC)(B:AHeap)(kp ks:Nat)(v pv:AVal)(pp tp:AHeap)(O:List Str)(dd n i:Nat)(c:Cur)(w:Str):AHeap->Prop:=fun h'=>∃c' j ov' op' bv' bp' E',BodyRO l dd O c w n i (.ok c' j)/\i<j/\c'.phrases=c.phrases/\c'.verb=c.verb/\c'.line=c.line/\c'.col=c.col/\c'.bodies.length=c.bodies.length+1/\CurS w0 (32-dd) c' pv bv' pp tp bp' E'/\ParS w0 l B v ov' op' O j/\Sep [B,one kp (parB3 v j ov'),op',one ks (curB c' pv bv'),pp,tp,bp',E'] h'
def qnd(w0:World)(l:List TokC)(dd:Nat):Prop:=∀(h B:AHeap) (kp:Nat) (v ov:AVal) (op:AHeap) (O:List Str) (i:Nat),Sep [B,one kp (parB3 v i ov),op] h->ParS w0 l B v ov op O i->Fair O->O.length+1=dd->
 ACallE Tryz.prog w0 30 [.ptr (.own kp) 0, .int .i64 dd] h (qjO w0 l B kp v O dd i) (qlD B fun f=>ListRO l dd O i [] (.bad f))
def StmK(w0:World)(l:List TokC)(dd:Nat):Prop:=∀(h B:AHeap) (kp:Nat) (v ov:AVal) (op:AHeap) (O:List Str) (i:Nat),Sep [B,one kp (parB3 v i ov),op] h->ParS w0 l B v ov op O i->Fair O->O.length+1=dd->isV l i=true->
 ACallE Tryz.prog w0 51 [.ptr (.own kp) 0, .int .i64 dd] h (qtr w0 l B kp v O dd i) (qlD B fun f=>StRO l dd O i (.bad f))
def BodK(w0:World)(l:List TokC)(dd:Nat):Prop:=∀(h B:AHeap) (kp ks:Nat) (v ov bv pv:AVal) (op pp tp bp E:AHeap) (O:List Str) (c:Cur) (w:Str) (n i:Nat),Sep [B,one kp (parB3 v i ov),op,one ks (curB c pv bv),pp,tp,bp,E] h->ParS w0 l B v ov op O i->CurS w0 (32-dd) c pv bv pp tp bp E->Fair O->O.length=dd->i+n<=l.length->0<n\/isV l i=true->Few c i->
 ACallE Tryz.prog w0 73 [.ptr (.own kp) 0, .ptr (.own ks) 0, .str w, .int .i64 n, .int .i64 dd] h (fun r h'=>r= .tuple []/\qlG w0 l B kp ks v pv pp tp O dd n i c w h') (qlD B fun f=>BodyRO l dd O c w n i (.bad f))
theorem isV_some{l:List TokC}{i:Nat}(h:isV l i=true):i<l.length:=by
 unfold isV at h;by_cases hi:i<l.length
 ·exact hi
 ·rw[if_neg hi]at h;cases h
structure LsG where
 i:Nat
 ov:AVal
 op:AHeap
 E:AHeap
 qs:List (StC×AVal×AVal)
 rv:AVal
 rp:AHeap
 H:AHeap
structure LsI(w0:World)(l:List TokC)(B:AHeap)(kp:Nat)(v:AVal)(O:List Str)(dd i₀:Nat)(g:LsG):Prop where
 sep:Sep [B,one kp (parB3 v g.i g.ov),g.op,g.rp,g.E] g.H
 par:ParS w0 l B v g.ov g.op O g.i
 row:GrowV 5 g.rv g.rp (g.qs.map qcy)
 els:∀q∈g.qs,PhV w0 g.E q.2.1 q.1.phrases/\BdV w0 (StsV w0 (32-dd) g.E) g.E q.2.2 q.1.bodies
 le:i₀<=g.i
 few:g.qs.length<=g.i-i₀
 deep:dd<=32\/g.qs=[]
 go:∀r,ListRO l dd O g.i (g.qs.map (·.1)) r->ListRO l dd O i₀ [] r
set_option maxHeartbeats 4000000 in
theorem k_list(w0:World)(hm:MaxL w0)(l:List TokC)(hl:l.length<=65537)(hsh:Short l)(dd:Nat)(hdd:dd<=33)(hst:StmK w0 l dd):qnd w0 l dd:=by
 intro h B kp v ov op O i₀ hS hP hF hO;refine qaU (k:=36) (rs:=[.tmp 4]) Tryz.func30 rfl rfl rfl rfl (VY rfl) ?_;simp only[qU];refine awp_rseq [0,1] (by rfl) fun K hK=>?_;simp+decide only[qP,↓qa];apply hK;clear hK K;refine awp_rseq [0,1,5] (by rfl) fun K hK=>?_;simp+decide only[qP,↓qa];apply hK;clear hK K;refine qi ?_;refine qI ?_;refine Qj [0,1,5] (fun g:LsG=>[(0, .ptr (.own kp) 0),(1, .int .i64 dd),(5,g.rv)]) (fun g:LsG=>g.H) (fun g:LsG=>LsI w0 l B kp v O dd i₀ g) (fun g:LsG=>l.length-g.i) ⟨i₀,ov,op,emp,[], .nilSlice,emp,h⟩ (by rfl) (Vi _) ⟨hS.emp.emp,hP, .nil,(fun q hq=>by cases hq),KL _,Jq _, .inr rfl,fun r hr=>hr⟩ ?_;rintro⟨i,ov,op,E,qs,rv,rp,H⟩ hI;obtain⟨hS,hP,hrow,hels,hle,hfew,hdeep,hgo⟩:=hI;simp only at hS hP hrow hels hle hfew hdeep hgo|-
 have hs_H:Sub B H:=hS.in_ (i:=0) rfl;have eb_p:H kp=some _:=hS.at_ (i:=1) rfl;have hv:=hP.toks;have hlv:=hv.live;have nv:=ZN hv;have hrl:=hrow.live;refine qi ?_;have mcase:(∃(lc:AM.Loc) (o:Nat) (c:Cap),v= .slice lc o l.length c/\i<l.length/\decide ((i:Int)<(l.length:Int))=true/\rd w0 H lc (o+i*5)= .int .u8 (l.getD i noT).kind.toNat/\rd w0 H lc (o+i*5+1)= .str (l.getD i noT).text/\rd w0 H lc (o+i*5+2)= .int .i64 (l.getD i noT).line/\rd w0 H lc (o+i*5+3)= .int .i64 (l.getD i noT).col/\rd w0 H lc (o+i*5+4)= .bool (l.getD i noT).left)\/
  (∃(lc:AM.Loc) (o:Nat) (c:Cap),v=v/\¬i<l.length/\decide ((i:Int)<(l.length:Int))=false/\True/\True/\True/\True/\True):=by
  by_cases hlt:i<l.length
  ·obtain⟨lc,o,c,hve⟩:=Ye hv (by omega)
   have hv2:=hv.mono hs_H;rw[hve]at hv2;exact .inl ⟨lc,o,c,hve,hlt,by simpa using hlt,WU hv2 hlt⟩
  ·exact .inr ⟨.base 0,0, .exact 0,rfl,hlt,by simpa using hlt,trivial,trivial,trivial,trivial,trivial⟩
 refine qez [0,1,5,28] mixed (by kernel_rfl) (by rfl) fun K hK=>?_;suffices hM:∀b:Bool,b=isV l i->K [(0, .ptr (.own kp) 0),(1, .int .i64 dd),(5,rv),(28, .bool b)] (H) by
  rcases mcase with⟨lc,o,c,hve,hkl,hkd,e0,e1,e2,e3,e4⟩|⟨lc,o,c,hve,hkl,hkd,e0,e1,e2,e3,e4⟩<;>(
   simp+decide only[Xk,qY,VD,qj,K6,ZH,YJ,QY,Xh,Ze,ZF,Wd,ZJ,XZ,qcN,↓qjC,↓qot,↓ZU,↓qcW,qf ag3,qf qbK,↓vp_len,QV Tryz.underlying39,↓qjT,↓qtA,vgP,qjU,↓qou,↓qgK,↓qtB,↓qgJ,qg Tryz.underlying39 Yo,Qa qjz Yo,Qm eb_p,hlv,nv,hve,hkd,e0,e1,e2,e3,e4];repeat (with_reducible refine zqP ?_)
   first
   |(refine vOps_gno (by rfl) ?_)
   |(refine qgm (V:= .bool (Uz (l.getD i noT))) (f:=50) (cap:=[]) (xs:=[tokV (l.getD i noT)]) (by rfl) (fun hg=>⟨rfl,rfl⟩) (fun hg=>qhz w0 hm _ _ (hsh.at hkl)) ?_)
   simp+decide only[Zi,XH,VO,Ur,Xc,Xt,YS,↓qtz]
   (refine hM _ ?_;unfold isV;first|rw[if_pos hkl]|rw[if_neg hkl]))
 intro b hb_2;apply hK;clear hK K;refine qz (b:=_) rfl (fun hb1=>?_) (fun hb1=>?_)
 ·skip
  have hv1:isV l i=true:=by rw[<-hb_2];exact hb1
  have hdj:[B,rp,E].Pairwise disj:=(hS.pick [0,3,4] (by decide) (by simp)).2;have hcall:=hst H (Wl [B,rp,E]) kp v ov op O i (Sep.fold (ps:=[B,rp,E]) (hS.pick [0,3,4,1,2] (by decide) (by simp))) ⟨hv.mono (Xy hdj B (by simp)),hP.open_,hP.isG,hP.at_⟩ hF hO hv1;refine qF ?_;change Awp _ _ _ _ _ _ _;refine qI ?_;by_cases hbad:∃f,StRO l dd O i (.bad f)
  ·skip
   refine YE 3 (by rfl) (by rfl) ?_;simp only[Ki,Bh];simp+decide only[Qe,↓qc];refine⟨⟨_,_,by rfl,?_⟩,by intro i;first|trivial|exact .inr trivial|exact .inr rfl⟩;obtain⟨f,hf⟩:=hbad;refine(hcall.bad fun x h' ⟨_,s,j,_,_,_,_,_,q,_⟩=>by cases q.one hf).mono (fun _ _ q=>q) fun x h' ⟨f',q1,q2,q3⟩=>⟨f',hgo _ (ListR.bad hv1 q1),q2,(Xy hdj B (by simp)).trans q3⟩
  refine Qv [0,1,5] (by rfl) ?_;simp+decide only[Qe,↓qc];refine qE (by rfl) (by rfl) (hcall.ok fun x h' ⟨f,q,_⟩=>hbad ⟨f,q⟩) fun x3q3 h3q3 hx3q3=>?_;obtain⟨hd3,s,j,ov2,op2,E2,pv,bv,hR3,hij,rfl,hph3,hbd3,hP3,hS3⟩:=hx3q3;have hS3:=hS3.unfold hdj;have hs_3:Sub B h3q3:=hS3.in_ (i:=0) rfl;refine qO (cs:=qcy (s,pv,bv)) (by kernel_rfl) fun k3q4 hk3q4=>?_;refine ZM (es:=5) (v:=rv) (p:=rp) (xs:=qs.map qcy) (ys:=[qcy (s,pv,bv)]) (i:=1) (by rfl) (by rfl) Tryz.underlying45 Tryz.underlying45 (fun k e=>by cases e) WF by82 qjs (by rfl) (by decide) (by rfl) hrow rfl (hS3.forget (Vj hk3q4)) (by rfl) (Bz (Vh _ _ _) (fun x hx=>by rw[V4.1 hx];rfl) (by rfl) (by show(true && (true && (true && (pv.live && (bv.live && true)))))=true;rw[hph3.live,hbd3.live];rfl) (.exact 1) (KL _)) (by show(true && (true && (true && (pv.scal && (bv.scal && true)))))=true;rw[hph3.scal,hbd3.scal];rfl) (by simp) (by rw[Jn,JF];have:=hP.at_;omega) (by rw[Jn,JF];have:=hP.at_;omega) fun rv2 rp2 h4 hrow2 _ hS4=>?_;simp+decide only[qP,↓qa];try simp only[QL]
  have hu:∀p∈[E,E2],Sub p (Wl [E,E2]):=Xy (hS4.pick [2,5] (by decide) (by simp)).2;refine⟨⟨j,ov2,op2,Wl [E,E2],qs++[(s,pv,bv)],rv2,rp2,h4⟩,rfl,Vi _,⟨(Sep.fold (ps:=[E,E2]) (hS4.pick [2,5,0,3,4,1] (by decide) (by simp))).pick [1,2,3,4,0] (by decide) (by simp),⟨hv,hP3.open_,hP3.isG,hP3.at_⟩,by simp only;rw[JI];exact hrow2,fun q hq=>?_,by simp only;omega,by simp only[Jb,JF];omega, .inl hd3,fun r hr=>?_⟩,by have:=hP3.at_;simp only;omega⟩
  ·rcases JV.1 hq with z|z
   ·exact⟨(hels q z).1.mono (hu E (by simp)),(hels q z).2.mono (hu E (by simp)) fun _ _=>StsV.mono (hu E (by simp))⟩
   ·rw[V4.1 z]
    exact⟨hph3.mono (hu E2 (by simp)),hbd3.mono (hu E2 (by simp)) fun _ _=>StsV.mono (hu E2 (by simp))⟩
  ·refine hgo r (ListR.next hv1 hR3 ?_)
   simp only[QW,JI]at hr;exact hr
 ·skip
  have hv1:isV l i=false:=by rw[<-hb_2,hb1]
  refine Qk ?_;change Awp _ _ _ _ _ _ _;refine awp_rseq [4] (by rfl) fun K hK=>?_;simp+decide only[Xp,↓qc,↓qa];apply hK;clear hK K;refine qW ?_;refine Qb (qA (qC)) ?_;simp+decide only[QE];have hu:∀p∈[rp,E],Sub p (Wl [rp,E]):=Xy (hS.pick [3,4] (by decide) (by simp)).2;have hrr:=hrow.isL (w0:=w0) (hu rp (by simp));refine⟨H,Vi _,qs.map (·.1),i,ov,op,Wl [rp,E],hgo _ (ListR.stop hv1),hle,by rw[Jn];exact hfew,?_,hP,(Sep.fold (ps:=[rp,E]) (hS.pick [3,4,0,1,2] (by decide) (by simp))).pick [1,2,3,0] (by decide) (by simp)⟩;rcases hdeep with hd|hq
  ·rw[show 33-dd=(32-dd)+1 by omega]
   exact⟨qs,rfl,hrr,fun q hq=>⟨(hels q hq).1.mono (hu E (by simp)),(hels q hq).2.mono (hu E (by simp)) fun _ _=>StsV.mono (hu E (by simp))⟩⟩
  ·subst hq
   cases h0:33-dd with
   |zero=>exact⟨rfl,hrr⟩
   |succ d=>exact⟨[],rfl,hrr,fun q hq=>by cases hq⟩
structure B1G where
 j:Nat
 H:AHeap
structure B2G where
 toks:List TokC
 i:Nat
 tv:AVal
 q:AHeap
 H:AHeap
structure B2I(w0:World)(l:List TokC)(B:AHeap)(kp ks kb:Nat)(v ov pv bv:AVal)(op pp tp bp E:AHeap)(c:Cur)(w:Str)(i₀:Nat)(g:B2G):Prop where
 sep:Sep [B,one kp (parB3 v g.i ov),op,one ks (curB c pv bv),pp,tp,bp,E,one kb ⟨[.str w,g.tv, .nilSlice],0⟩,g.q] g.H
 row:GrowV 5 g.tv g.q (g.toks.map Xg)
 at_:g.i<=l.length
 le:i₀<=g.i
 few:g.toks.length<=g.i
theorem qeS{l:List TokC}{fm:Str}{i:Nat}{acc:List TokC}(h:isE l i=true\/isV l i=true\/UT l i≠[]\/0<(Qr l i fm).2):qcu l fm (l.length-i) i acc=(acc,i):=by
 cases hf:l.length-i with
 |zero=>rfl
 |succ f=>rw[qcu,if_pos h]
theorem qor{l:List TokC}{fm:Str}{i:Nat}{acc:List TokC}(hi:i<l.length)(h:¬(isE l i=true\/isV l i=true\/UT l i≠[]\/0<(Qr l i fm).2)):qcu l fm (l.length-i) i acc=qcu l fm (l.length-(i+1)) (i+1) (acc++[l.getD i noT]):=by
 obtain⟨f,hf⟩:∃f,l.length-i=f+1:=⟨l.length-i-1,by omega⟩
 rw[hf,qcu,if_neg h,show l.length-(i+1)=f by omega]
def goW(l:List TokC)(i:Nat):Bool:= !(isE l i||(isV l i|| !decide (UT l i=[])))
theorem goW_end{l:List TokC}{i:Nat}(h:¬i<l.length):goW l i=false:=by unfold goW isE;rw[if_neg h];rfl
theorem goW_in{l:List TokC}{i:Nat}(h:i<l.length):goW l i=(!decide ((l.getD i noT).kind=6) && (!Uz (l.getD i noT) && decide (qes (l.getD i noT)=[]))):=by
 unfold goW isE isV UT;rw[if_pos h,if_pos h];cases decide ((l.getD i noT).kind=6)<;>cases Uz (l.getD i noT)<;>cases decide (qes (l.getD i noT)=[])<;>rfl
def MC11(w0:World)(H:AHeap)(l:List TokC)(v:AVal)(a:Nat):Prop:=
 (∃(lc:AM.Loc) (o:Nat) (c:Cap),v=v/\decide ((a:Int)<(l.length:Int))=false/\¬a<l.length/\True/\True/\True/\True/\True/\True/\True/\goW l a=false)\/
 (∃(lc:AM.Loc) (o:Nat) (c:Cap),v= .slice lc o l.length c/\decide ((a:Int)<(l.length:Int))=true/\a<l.length/\decide (((l.getD a noT).kind.toNat:Int)=6)=true/\True/\rd w0 H lc (o+a*5)= .int .u8 (l.getD a noT).kind.toNat/\rd w0 H lc (o+a*5+1)= .str (l.getD a noT).text/\rd w0 H lc (o+a*5+2)= .int .i64 (l.getD a noT).line/\rd w0 H lc (o+a*5+3)= .int .i64 (l.getD a noT).col/\rd w0 H lc (o+a*5+4)= .bool (l.getD a noT).left/\goW l a=false)\/
 (∃(lc:AM.Loc) (o:Nat) (c:Cap),v= .slice lc o l.length c/\decide ((a:Int)<(l.length:Int))=true/\a<l.length/\decide (((l.getD a noT).kind.toNat:Int)=6)=false/\Uz (l.getD a noT)=true/\rd w0 H lc (o+a*5)= .int .u8 (l.getD a noT).kind.toNat/\rd w0 H lc (o+a*5+1)= .str (l.getD a noT).text/\rd w0 H lc (o+a*5+2)= .int .i64 (l.getD a noT).line/\rd w0 H lc (o+a*5+3)= .int .i64 (l.getD a noT).col/\rd w0 H lc (o+a*5+4)= .bool (l.getD a noT).left/\goW l a=false)\/
 (∃(lc:AM.Loc) (o:Nat) (c:Cap),v= .slice lc o l.length c/\decide ((a:Int)<(l.length:Int))=true/\a<l.length/\decide (((l.getD a noT).kind.toNat:Int)=6)=false/\Uz (l.getD a noT)=false/\rd w0 H lc (o+a*5)= .int .u8 (l.getD a noT).kind.toNat/\rd w0 H lc (o+a*5+1)= .str (l.getD a noT).text/\rd w0 H lc (o+a*5+2)= .int .i64 (l.getD a noT).line/\rd w0 H lc (o+a*5+3)= .int .i64 (l.getD a noT).col/\rd w0 H lc (o+a*5+4)= .bool (l.getD a noT).left/\goW l a=decide (qes (l.getD a noT)=[]))
theorem mc11{w0:World}{H:AHeap}{l:List TokC}{v:AVal}{a:Nat}(hv:IsL w0 H 5 v (l.map Xg)):MC11 w0 H l v a:=by
 by_cases hlt:a<l.length
 ·obtain⟨lc,o,c,hve⟩:=Ye hv (by omega)
  rw[hve]at hv;have he:=WU hv hlt;have hg:=goW_in hlt;have z6:decide (((l.getD a noT).kind.toNat:Int)=6)=decide ((l.getD a noT).kind=6):=Yg _ 6;have hd:decide ((a:Int)<(l.length:Int))=true:=by simpa using hlt
  obtain⟨e0,e1,e2,e3,e4⟩:=he;by_cases q6:(l.getD a noT).kind=6
  ·exact .inr (.inl ⟨lc,o,c,hve,hd,hlt,by rw[z6];exact decide_eq_true q6,trivial,e0,e1,e2,e3,e4,by rw[hg,decide_eq_true q6];rfl⟩)
  ·cases hvt:Uz (l.getD a noT)with
   |true=>exact .inr (.inr (.inl ⟨lc,o,c,hve,hd,hlt,by rw[z6];exact decide_eq_false q6,hvt,e0,e1,e2,e3,e4,by rw[hg,hvt,decide_eq_false q6];rfl⟩))
   |false=>exact .inr (.inr (.inr ⟨lc,o,c,hve,hd,hlt,by rw[z6];exact decide_eq_false q6,hvt,e0,e1,e2,e3,e4,by rw[hg,hvt,decide_eq_false q6];rfl⟩))
 ·exact .inl ⟨.base 0,0, .exact 0,rfl,by simpa using hlt,hlt,trivial,trivial,trivial,trivial,trivial,trivial,trivial,goW_end hlt⟩
theorem qiv{O:List Str}(hF:Fair O):(O.getLastD []).length<=1000000/\asciiB (O.getLastD [])=true:=by
 cases O with
 |nil=>exact⟨by simp,rfl⟩
 |cons a O=>exact hF _ (by rw[List.getLastD_cons];exact List.getLastD_mem_cons)
set_option maxHeartbeats 8000000 in
theorem k_bodyA(w0:World)(l:List TokC)(hl:l.length<=65537)(dd:Nat)
 (hrest:∀(H B:AHeap) (kp ks:Nat) (v ov bv pv:AVal) (op pp tp bp E:AHeap) (O:List Str) (c:Cur) (w:Str) (n i:Nat),Sep [B,one kp (parB3 v i ov),op,one ks (curB c pv bv),pp,tp,bp,E] H->ParS w0 l B v ov op O i->CurS w0 (32-dd) c pv bv pp tp bp E->Fair O->O.length=dd->i+n<=l.length->0<n\/isV l i=true->Few c i->Stm.twice c w=false->
   Awp Tryz.prog w0 ⟨210,[],GP w0 210 [] [] (qlD B fun f=>BodyRO l dd O c w n i (.bad f))⟩ (Wv 2 (qbV Tryz.f73)) (qcU Tryz.prog w0 [] (fun r h'=>r= .tuple []/\qlG w0 l B kp ks v pv pp tp O dd n i c w h')) [(0, .ptr (.own kp) 0),(1, .ptr (.own ks) 0),(2, .str w),(3, .int .i64 n),(4, .int .i64 dd),(10, .int .i64 i)] (H)):BodK w0 l dd:=by
 intro h B kp ks v ov bv pv op pp tp bp E O c w n i hS hP hC hF hO hin hpos hfew;have hin2:i<=l.length:=hP.at_;have eb_p:h kp=some _:=hS.at_ (i:=1) rfl;have eb_s:h ks=some _:=hS.at_ (i:=3) rfl;have ne_p_s:kp≠ks:=hS.ne (i:=1) (j:=3) rfl rfl (by decide);have hs_h:Sub B h:=hS.in_ (i:=0) rfl;have hv:=hP.toks;have hlv:=hv.live;have hlo:=hP.open_.live;obtain⟨hpl,hps,hpc⟩:=hC.pv_ok;obtain⟨hbl,hbs,hbc,nb⟩:=hC.bv_len;obtain⟨bs,hb1e,hb2e,hb3e⟩:=hC.bd;have hbn:c.bodies.length=bs.length:=by rw[hb1e,Jn]
 obtain⟨hf1,hf2,hf3⟩:=hfew;have hin2:i<=l.length:=hP.at_;have hTw:Stm.twice c w=(bs.map (·.1)).any fun b=>(decide (b.1=w) && !decide (w=[87,72,69,78]))||decide (b.1=[87,72,69,78,32,79,84,72,69,82]):=by rw[<-hb1e];rfl
 refine qaU (k:=210) (rs:=[]) Tryz.func73 rfl rfl rfl rfl (VY rfl) ?_;simp only[qU];refine awp_rseq [0,1,2,3,4,10] (by rfl) fun K hK=>?_;simp+decide only[Xp,QU,Xh,Wd,↓qc,↓Qf,↓qh,↓qo,qf ag3,↓qa,Qm eb_p,Nat.reduceAdd];apply hK;clear hK K;refine qi ?_;refine awp_rseq [0,1,2,3,4,10,26,27,28] (by rfl) fun K hK=>?_;simp+decide only[Qe,QU,Qh,Xh,YR,↓qc,↓Qf,↓qh,↓qo,qf qdp,↓Qi,Qm eb_s,hbl,nb];apply hK;clear hK K;refine qI ?_;refine Qj [0,1,2,3,4,10,26,27,28] (fun g:B1G=>[(0, .ptr (.own kp) 0),(1, .ptr (.own ks) 0),(2, .str w),(3, .int .i64 n),(4, .int .i64 dd),(10, .int .i64 i),(26,bv),(27, .int .i64 c.bodies.length),(28, .int .i64 g.j)]) (fun g:B1G=>g.H) (fun g:B1G=>Sep [B,one kp (parB3 v i ov),op,one ks (curB c pv bv),pp,tp,bp,E] g.H/\g.j<=bs.length/\Stm.twice c w=((bs.drop g.j).map (·.1)).any fun b=>(decide (b.1=w) && !decide (w=[87,72,69,78]))||decide (b.1=[87,72,69,78,32,79,84,72,69,82])) (fun g:B1G=>bs.length-g.j) ⟨0,h⟩ (by rfl) (Vi _) ⟨hS,Jq _,hTw⟩ ?_;rintro⟨j,H⟩ ⟨hS,hj,hTj⟩;simp only at hS hj hTj|-
 have eb_p:H kp=some _:=hS.at_ (i:=1) rfl;have eb_s:H ks=some _:=hS.at_ (i:=3) rfl;have hs_H:Sub B H:=hS.in_ (i:=0) rfl;refine awp_rseq [0,1,2,3,4,10,26,27,28,29] (by rfl) fun K hK=>?_;simp+decide only[XP,QH,qj,QY,↓qd];apply hK;clear hK K;refine qi (qz (b:=_) rfl (fun hb1=>?_) (fun hb1=>?_))
 ·try simp only[qG]at hb1
  have hj':j<bs.length:=by omega
  obtain⟨q,hqe⟩:∃q,q=bs.getD j qdE:=⟨_,rfl⟩
  have hqm:q∈bs:=by rw[hqe,Ko,JB hj'];exact Vw hj'
  have hqb:=hb2e.isL (w0:=w0) (hS.in_ (i:=6) rfl);obtain⟨lc,o,cc,hpe⟩:=qck hqb (by omega);rw[hpe]at hqb;obtain⟨e0,e1,e2⟩:=qfp hqb hj';rw[<-hqe]at e0 e1 e2;obtain⟨hqt,hqs⟩:=hb3e q hqm;have hl1:=hqt.live;have hs1:=hqt.scal;have hc1:=hqt.cells;obtain⟨hl2,hs2,hc2⟩:=hqs.shape;have hst:Stm.twice c w=(((decide (q.1.1=w) && !decide (w=[87,72,69,78]))||decide (q.1.1=[87,72,69,78,32,79,84,72,69,82]))||((bs.drop (j+1)).map (·.1)).any fun b=>(decide (b.1=w) && !decide (w=[87,72,69,78]))||decide (b.1=[87,72,69,78,32,79,84,72,69,82])):=by
   rw[hTj,Vb hj',Ke,Bj];have:bs[j]=q:=by rw[hqe,Ko,JB hj'];rfl
   rw[this]
  obtain⟨⟨qw,qt,qL⟩,qtv,qlv⟩:=q;simp only at e0 e1 e2 hl1 hs1 hc1 hl2 hs2 hc2 hst;have hwj:IntKind.i64.wrap ((j:Int)+1)=((j+1:Nat):Int):=by rw[wrap_i64 (by omega) (by omega)];omega
  refine qF ?_;change Awp _ _ _ _ _ _ _;refine qi ?_;refine qI ?_;refine awp_rseq [0,1,2,3,4,10,12,26,27,28] (by rfl) fun K hK=>?_;simp+decide only[Zi,QJ,Xc,↓qJ,qg Tryz.underlying80 qav,↓qo,Qa qrf qav,hpe,e0,e1,e2,hl1,hl2];repeat (with_reducible refine zqP ?_)
  refine Qp qlH (cs:=[.str [], .nilSlice, .nilSlice]) (by rfl) fun k3q2 hk3q2=>?_;have hn_3q2:H k3q2=none:=by first|assumption|(simp only[Bd]at hk3q2;simp only[hk3q2])
  have hf_3q2:B k3q2=none:=Be hs_H hn_3q2;have ne_3q2_p:k3q2≠kp:=Bf hn_3q2 eb_p;have ne_3q2_s:k3q2≠ks:=Bf hn_3q2 eb_s;refine qN (by rfl) (by rfl) zqA qav (by rfl) (by rfl) zqD (Jq _) (by first|rfl|(simp+decide only[QI,BL,Yk,VN,YW,Qt,hs1,hs2])) ?_;simp only[QT,Bg];simp+decide only[Zi,Xc,Nat.reduceAdd];apply hK;clear hK K;refine awp_rseq [0,1,2,3,4,10,26,27,28,44] (by rfl) fun K hK=>?_;simp+decide only[Xj,XF,QU,qj,XL,Qs,QS,Xn,Ze,Zd,Zt,ZF,qac,↓qh,qiy,↓qo,qf ag9,↓qc,↓qd,↓Qy,↓Qn,↓Qd,↓QM,↓Xv];apply hK;clear hK K;refine qz (b:=_) rfl (fun hb2=>?_) (fun hb2=>?_)
  ·try simp only[qG]at hb2
   have hT:Stm.twice c w=true:=by
    rw[hst];rcases hb2 with⟨z1,z2⟩|z
    ·simp[z1,z2]
    ·simp[z]
   refine YE 2 (by rfl) (by rfl) ?_;simp only[Ki,Bh];simp+decide only[Qe,↓qc];refine⟨⟨_,_,by rfl,?_⟩,by intro i;first|trivial|exact .inr trivial|exact .inr rfl⟩;exact(qev w0 _ B kp v ov l i 4 i zqA zqB hv (by omega) (by omega)).mono (fun _ _ q=>q) fun x h' ⟨q1,q2⟩=>⟨_,BodyR.twice hT,q1,Br (by assumption) (Br zqB q2)⟩
  ·try simp only[qG]at hb2
   have hst2:Stm.twice c w=((bs.drop (j+1)).map (·.1)).any fun b=>(decide (b.1=w) && !decide (w=[87,72,69,78]))||decide (b.1=[87,72,69,78,32,79,84,72,69,82]):=by
    rw[hst];have:(decide (qw=w) && !decide (w=[87,72,69,78])||decide (qw=[87,72,69,78,32,79,84,72,69,82]))=false:=by
     rw[<-BP];intro z;simp only[Ky,decide_eq_true_eq,Jh,JH,decide_eq_false_iff_not]at z;rcases z with⟨z1,z2⟩|z
     ·rcases hb2.1 with y|y
      ·exact y z1
      ·exact z2 y
     ·exact hb2.2 z
    rw[this,VS]
   refine qF ?_;change Awp _ _ _ _ _ _ _;refine Qv [0,1,2,3,4,10,26,27,28] (by rfl) ?_;simp+decide only[QK,Xi,↓qd,↓qc,hwj];try simp only[QL]
   exact⟨⟨j+1,_⟩,by rw[hpe];rfl,Vi _,⟨hS.forget zqB,hj',hst2⟩,by simp only;omega⟩
 ·try simp only[qG]at hb1
  have hj':j=bs.length:=by omega
  have hTf:Stm.twice c w=false:=by rw[hTj,hj',Va];rfl
  refine Qk ?_;change Awp _ _ _ _ _ _ _;refine JR [0,1,2,3,4,10] ?_;exact hrest H B kp ks v ov bv pv op pp tp bp E O c w n i hS hP hC hF hO hin hpos ⟨hf1,hf2,hf3⟩ hTf
set_option maxHeartbeats 8000000 in
theorem k_bodyB(w0:World)(hm:MaxL w0)(ha:Asp w0)(l:List TokC)(hl:l.length<=65537)(hsh:Short l)(dd:Nat)(hdd:dd<=32)(hd0:0<dd)(H B:AHeap)(kp ks:Nat)(v ov bv pv:AVal)(op pp tp bp E:AHeap)(O:List Str)(c:Cur)(w:Str)(n i:Nat)
 (hS:Sep [B,one kp (parB3 v i ov),op,one ks (curB c pv bv),pp,tp,bp,E] H) (hP:ParS w0 l B v ov op O i) (hC:CurS w0 (32-dd) c pv bv pp tp bp E) (hF:Fair O) (hO:O.length=dd) (hin:i+n<=l.length) (hTf:Stm.twice c w=false)
 (hrest:∀(kb:Nat) (g:B2G),B2I w0 l B kp ks kb v ov pv bv op pp tp bp E c w (i+n) g->headW l O w n i=(g.toks,g.i)->¬(w=XT/\(headW l O w n i).1=[])->
   Awp Tryz.prog w0 ⟨210,[],GP w0 210 [] [] (qlD B fun f=>BodyRO l dd O c w n i (.bad f))⟩ (Wv 6 (qbV Tryz.f73)) (qcU Tryz.prog w0 [] (fun r h'=>r= .tuple []/\qlG w0 l B kp ks v pv pp tp O dd n i c w h')) [(0, .ptr (.own kp) 0),(1, .ptr (.own ks) 0),(2, .str w),(4, .int .i64 dd),(10, .int .i64 i),(13, .ptr (.own kb) 0),(14, .str (O.getLastD []))] (g.H)):
 Awp Tryz.prog w0 ⟨210,[],GP w0 210 [] [] (qlD B fun f=>BodyRO l dd O c w n i (.bad f))⟩ (Wv 2 (qbV Tryz.f73)) (qcU Tryz.prog w0 [] (fun r h'=>r= .tuple []/\qlG w0 l B kp ks v pv pp tp O dd n i c w h')) [(0, .ptr (.own kp) 0),(1, .ptr (.own ks) 0),(2, .str w),(3, .int .i64 n),(4, .int .i64 dd),(10, .int .i64 i)] (H):=by
 have eb_p:H kp=some _:=hS.at_ (i:=1) rfl;have eb_s:H ks=some _:=hS.at_ (i:=3) rfl;have ne_p_s:kp≠ks:=hS.ne (i:=1) (j:=3) rfl rfl (by decide);have hs_H:Sub B H:=hS.in_ (i:=0) rfl;have hv:=hP.toks;have hlv:=hv.live;have hlo:=hP.open_.live;obtain⟨hpl,hps,hpc⟩:=hC.pv_ok;obtain⟨hbl,hbs,hbc,nb⟩:=hC.bv_len;have hin2:i<=l.length:=hP.at_;have hwn:IntKind.i64.wrap ((i:Int)+n)=((i+n:Nat):Int):=by rw[wrap_i64 (by omega) (by omega)];omega
 change Awp _ _ _ (Code.seq _ _) _ _ _;refine awp_rseq [0,1,2,4,10] (by rfl) fun K hK=>?_;simp+decide only[QK,QU,qj,XJ,Xh,Wd,↓qc,↓Qf,↓qh,↓qo,qf ag3,↓qd,Qm eb_p,hwn];refine qN (by rfl) (by rfl) zqA sz3 (by rfl) (by rfl) zqD (Jq _) (by rfl) ?_;simp only[QT];simp+decide only[qV];apply hK;clear hK K;refine awp_rseq [0,1,2,4,10,13] (by rfl) fun K hK=>?_;simp+decide only[Qe,QW,Zo,↓qc,↓XO,↓QN,bld86_0];refine Qp qlH (cs:=[.str [], .nilSlice, .nilSlice]) (by rfl) fun k8q2 hk8q2=>?_;have hn_8q2:H k8q2=none:=by first|assumption|(simp only[Bd]at hk8q2;simp only[hk8q2])
 have hf_8q2:B k8q2=none:=Be hs_H hn_8q2;have ne_8q2_p:k8q2≠kp:=Bf hn_8q2 eb_p;have ne_8q2_s:k8q2≠ks:=Bf hn_8q2 eb_s;refine qN (by rfl) (by rfl) zqA qav (by rfl) (by rfl) zqD (Jq _) (by rfl) ?_;simp only[QT,Bg];simp+decide only[qV,Nat.reduceAdd];apply hK;clear hK K;obtain⟨H9,hH9⟩:∃H9,H9=(H.set kp (parB3 v (i+n) ov)).set k8q2 ⟨[.str w, .nilSlice, .nilSlice],0⟩:=⟨_,rfl⟩
 refine BO (h':=H9) (by rw[hH9];exact Vi _) ?_;have hS9:=(hS.put (i:=1) rfl (parB3 v (i+n) ov)).lay hk8q2 ⟨[.str w, .nilSlice, .nilSlice],0⟩;rw[<-hH9]at hS9;simp only[Xo,Xf]at hS9;have eb_p:H9 kp=some _:=hS9.at_ (i:=1) rfl;have eb_s:H9 ks=some _:=hS9.at_ (i:=3) rfl;have eb_8q2:H9 k8q2=some _:=hS9.at_ (i:=8) rfl;have ne_p_8q2:kp≠k8q2:=hS9.ne (i:=1) (j:=8) rfl rfl (by decide);have ne_s_8q2:ks≠k8q2:=hS9.ne (i:=3) (j:=8) rfl rfl (by decide);have hs_H9:Sub B H9:=hS9.in_ (i:=0) rfl;have hos:IsStrs w0 H9 ov O:=hP.open_.isL (hS9.in_ (i:=2) rfl);have no:=WC hos;obtain⟨lo,oo,co,hove⟩:=qke hos (by omega);have hos2:=hos;rw[hove]at hos2;have hwo:IntKind.i64.wrap ((O.length:Int)-1)=((O.length-1:Nat):Int):=by rw[wrap_i64 (by omega) (by omega)];omega
 have ef:=qkf hos2 (i:=O.length-1) (by omega);obtain⟨fm,hfm⟩:∃fm,fm=O.getLastD []:=⟨_,rfl⟩
 have hfl:O.getD (O.length-1) []=fm:=by
  rw[hfm,BQ,List.getLast?_eq_getElem?];rfl
 rw[hfl]at ef;obtain⟨hfm1,hfm2⟩:=qiv hF;rw[<-hfm]at hfm1 hfm2;refine UD [0,1,2,4,10,13,14] mixed (by kernel_rfl) (by rfl) (by rfl) fun K hK=>?_;simp+decide only[QK,XI,Xc,Qh,Xh,WW,↓qc,↓Qf,↓qh,qiw,↓qo,qf ag22,↓Qi,QV Tryz.underlying22,↓qd,Qm eb_p,hwo,hove];try simp+decide only[qP,QJ,Xc,Bi,↓qJ,qg Tryz.underlying22 sz9,↓qo,qf ag9,↓qa,ef]
 repeat (with_reducible refine zqP ?_)
 apply hK;clear hK K;refine qi ?_;refine awp_rseq [0,1,2,4,10,13,14,72] (by rfl) fun K hK=>?_;simp+decide only[Xj,ZE,Zd,↓qc,↓qd];apply hK;clear hK K;refine Wo [0,1,2,4,10,13,14] (fun g:B2G=>[(0, .ptr (.own kp) 0),(1, .ptr (.own ks) 0),(2, .str w),(4, .int .i64 dd),(10, .int .i64 i),(13, .ptr (.own k8q2) 0),(14, .str fm)]) (fun g:B2G=>g.H) (fun g:B2G=>B2I w0 l B kp ks k8q2 v ov pv bv op pp tp bp E c w (i+n) g/\headW l O w n i=(g.toks,g.i)/\¬(w=XT/\(headW l O w n i).1=[])) ?_ ?_
 ·refine qz (b:=_) rfl (fun hb1=>?_) (fun hb1=>?_)
  ·try simp only[qG]at hb1
   have hwW:w=XT:=hb1;have hW:headW l O w n i=qtw l fm (i+n):=by unfold headW;rw[if_pos hwW,hfm]
   refine qi ?_;refine qI ?_;refine Qj [0,1,2,4,10,13,14] (fun g:B2G=>[(0, .ptr (.own kp) 0),(1, .ptr (.own ks) 0),(2, .str w),(4, .int .i64 dd),(10, .int .i64 i),(13, .ptr (.own k8q2) 0),(14, .str fm)]) (fun g:B2G=>g.H) (fun g:B2G=>B2I w0 l B kp ks k8q2 v ov pv bv op pp tp bp E c w (i+n) g/\headW l O w n i=qcu l fm (l.length-g.i) g.i g.toks) (fun g:B2G=>l.length-g.i) ⟨[],i+n, .nilSlice,emp,H9⟩ (by rfl) (Vi _) ⟨⟨hS9.emp, .nil,hin,KL _,Jq _⟩,hW⟩ ?_;rintro⟨toks,a,tv,q,H2⟩ ⟨⟨hS2,hrow,hal,hle,hfw⟩,hgo⟩;simp only at hS2 hrow hal hle hfw hgo|-
   have eb_p:H2 kp=some _:=hS2.at_ (i:=1) rfl;have eb_s:H2 ks=some _:=hS2.at_ (i:=3) rfl;have eb_8q2:H2 k8q2=some _:=hS2.at_ (i:=8) rfl;have hs_H2:Sub B H2:=hS2.in_ (i:=0) rfl;have nv:=ZN hv;have htl:=hrow.live;have nt:∀H:AHeap,Zl Tryz.prog H 39 tv=⟨True, .int .i64 toks.length⟩:=ZN (w0:=w0) (hrow.isL (Vi _));refine qi ?_;have mcase:MC11 w0 H2 l v a:=mc11 (hv.mono hs_H2);have hta:a<l.length->(l.getD a noT).text.length<=1000000:=fun z=>hsh.at z;unfold MC11 at mcase;refine qbn 52 [] [0,1,2,4,10,13,14,124] mixed (by kernel_rfl) (by rfl) fun K hK=>?_;simp only[Ki,Bh,Vr,List.take_nil,List.drop_nil];suffices hM:∀b:Bool,b=goW l a->K [(0, .ptr (.own kp) 0),(1, .ptr (.own ks) 0),(2, .str w),(4, .int .i64 dd),(10, .int .i64 i),(13, .ptr (.own k8q2) 0),(14, .str fm),(124, .bool b)] (H2) by
    rcases mcase with⟨lc,o,cc,hve,hkd,hkl,hk6,hvt,e0,e1,e2,e3,e4,hfin⟩|⟨lc,o,cc,hve,hkd,hkl,hk6,hvt,e0,e1,e2,e3,e4,hfin⟩|⟨lc,o,cc,hve,hkd,hkl,hk6,hvt,e0,e1,e2,e3,e4,hfin⟩|⟨lc,o,cc,hve,hkd,hkl,hk6,hvt,e0,e1,e2,e3,e4,hfin⟩<;>(
     simp+decide only[Xk,qK,qY,VD,qj,K6,ZH,qew,QS,QY,Xh,Ze,ZF,Wd,ZJ,WY,Um,XZ,qcN,↓qaN,↓qap,↓YP,↓qaO,qf ag3,qf qbK,↓fp_len,QV Tryz.underlying39,↓qfg,↓fg_move,fgP,qkR,↓qjh,↓qhr,↓fg_load,↓qhp,qg Tryz.underlying39 Yo,qf qjA,↓qpv,↓qnF,Qa qjz Yo,Qm eb_p,hlv,nv,hve,hkd,hk6,e0,e1,e2,e3,e4];repeat (with_reducible refine zqP ?_)
     first
     |(refine qpy (by rfl) ?_)
     |(refine qgC (V:= .bool (Uz (l.getD a noT))) (f:=50) (cap:=[]) (xs:=[tokV (l.getD a noT)]) (by rfl) (fun hg=>⟨rfl,rfl⟩) trivial (fun hg g hsub=>qhz w0 hm _ _ (hta hkl)) ?_)
     simp+decide only[Qe,XF,qY,Xc,Xt,qew,Xh,Ze,ZF,YF,Zf,Wd,ZJ,XZ,qcN,↓fg_unOp,fgP,qkR,↓qnF,↓qaN,↓fg_move,↓qjh,↓qhr,↓fg_load,qf qbK,qf ag3,↓qhp,qg Tryz.underlying39 Yo,Qa qjz Yo,Qm eb_p,hve,hvt,e0,e1,e2,e3,e4];repeat (with_reducible refine zqP ?_)
     first
     |(refine qpy (by rfl) ?_)
     |(refine qgC (V:= .str (qes (l.getD a noT))) (f:=71) (cap:=[]) (xs:=[tokV (l.getD a noT)]) (by rfl) (fun hg=>⟨rfl,rfl⟩) trivial (fun hg g hsub=>c_endOf w0 hm _ _ (hta hkl)) ?_)
     simp+decide only[XP,XF,Xc,Xt,qew,Qs,QS,Xn,Zd,↓qpv,fgP,qkR,↓qnF];exact hM _ hfin.symm)
   intro b hb_11;apply hK;clear hK K;refine qz (b:=_) rfl (fun hb2=>?_) (fun hb2=>?_)
   ·skip
    have hgo1:isE l a=false/\isV l a=false/\UT l a=[]:=by
     have z:goW l a=true:=by rw[<-hb_11];exact hb2
     unfold goW at z;simp only[decide_eq_true_eq,Jh,VI,VJ]at z;exact⟨z.1,z.2.1,z.2.2⟩
    have hal2:a<l.length:=by
     by_cases z:a<l.length
     ·exact z
     ·have y:=hgo1.1
      unfold isE at y;rw[if_neg z]at y;cases y
    refine qF ?_;change Awp _ _ _ _ _ _ _;refine qI ?_;refine qi ?_;refine awp_rseq [0,1,2,4,10,13,14,16] (by rfl) fun K hK=>?_;simp+decide only[Qe,↓qc];refine QC (V:= .tuple [.str (Qr l a fm).1, .int .i64 (Qr l a fm).2]) (by rfl) (by rfl) (qfn w0 ha _ (.own kp) 0 v l a fm (Yc w0 eb_p 0) (Yc w0 eb_p 1) (hv.mono zqB) (by omega) hal hfm1 hfm2) ?_;simp+decide only[Xp,QF,QR,Xe,↓qc,↓Xa,↓qa,Nat.reduceAdd];apply hK;clear hK K;refine awp_rseq [0,1,2,4,10,13,14,132] (by rfl) fun K hK=>?_;simp+decide only[QK,qK,YG,↓qc,↓qd];apply hK;clear hK K;refine qz (b:=_) rfl (fun hb3=>?_) (fun hb3=>?_)
    ·try simp only[qG]at hb3
     have hWd:headW l O w n i=(toks,a):=by rw[hgo];exact qeS (.inr (.inr (.inr (by omega))))
     refine Qk ?_;change Awp _ _ _ _ _ _ _;refine awp_rseq [0,1,2,4,10,13,14,158] (by rfl) fun K hK=>?_;simp+decide only[XP,QH,XI,Qh,XA,qer,↓qh,↓qo,qf qbK,↓Qi,↓qd,Qm eb_8q2,nt,htl];apply hK;clear hK K;refine qz (b:=_) rfl (fun hb4=>?_) (fun hb4=>?_)
     ·try simp only[qG]at hb4
      have htk:toks=[]:=Kg (by omega);refine YE 2 (by rfl) (by rfl) ?_;simp only[Ki,Bh];simp+decide only[Qe,↓qc];refine⟨⟨_,_,by rfl,?_⟩,by intro i;first|trivial|exact .inr trivial|exact .inr rfl⟩;exact(qev w0 _ B kp v ov l a 4 i zqA zqB hv (by omega) (by omega)).mono (fun _ _ q=>q) fun x h' ⟨q1,q2⟩=>⟨_,BR hTf ⟨hwW,by rw[hWd];exact htk⟩,q1,Br (by assumption) q2⟩
     ·try simp only[qG]at hb4
      have htk:toks≠[]:=fun z=>by rw[z]at hb4;exact hb4 rfl
      refine qF ?_;try simp only[QL]
      first
      |exact⟨⟨toks,a,tv,q,H2⟩,rfl,Vi _,⟨hS2,hrow,hal,hle,hfw⟩,hWd,fun z=>htk (by rw[hWd]at z;exact z.2)⟩
      |exact⟨⟨[],i+n, .nilSlice,emp,H9⟩,rfl,Vi _,⟨hS9.emp, .nil,hin,KL _,Jq _⟩,by unfold headW;rw[if_neg hwW],fun z=>hwW z.1⟩
    ·try simp only[qG]at hb3
     have hgo2:headW l O w n i=qcu l fm (l.length-(a+1)) (a+1) (toks++[l.getD a noT]):=by
      rw[hgo];refine qor hal2 ?_;rintro(z|z|z|z)
      ·rw[hgo1.1]at z;cases z
      ·rw[hgo1.2.1]at z;cases z
      ·exact z hgo1.2.2
      ·omega
     refine qF ?_;change Awp _ _ _ _ _ _ _;obtain⟨lc,o,cc,hve⟩:=Ye hv (by omega);have hv2:=hv.mono hs_H2;rw[hve]at hv2;obtain⟨e0,e1,e2,e3,e4⟩:=WU hv2 hal2;obtain⟨t,ht⟩:∃t,t=l.getD a noT:=⟨_,rfl⟩
     rw[<-ht]at e0 e1 e2 e3 e4 hgo2;refine qbn 13 [] [0,1,2,4,10,13,14] mixed (by kernel_rfl) (by rfl) fun K hK=>?_;simp only[Ki,Bh,Vr,Vn];simp+decide only[Qe,qY,Xc,Xh,Wd,ZJ,XZ,qcN,qer,↓YP,↓qaO,qf qbK,↓qaN,↓qap,qf ag3,↓WO,qg Tryz.underlying39 Yo,Qa qjz Yo,Qm eb_p,Qm eb_8q2,hve,htl,e0,e1,e2,e3,e4];repeat (with_reducible refine zqP ?_)
     refine UO (by rfl) ?_;refine qO (cs:=(Xg t)) (by kernel_rfl) fun k14q12 hk14q12=>?_;have hn_14q12:H2 k14q12=none:=by first|assumption|(simp only[Bd]at hk14q12;simp only[hk14q12])
     have hf_14q12:B k14q12=none:=Be hs_H2 hn_14q12;have ne_14q12_p:k14q12≠kp:=Bf hn_14q12 eb_p;have ne_14q12_s:k14q12≠ks:=Bf hn_14q12 eb_s;have ne_14q12_8q2:k14q12≠k8q2:=Bf hn_14q12 eb_8q2;rw[QB];try simp only[Un,Uf]
     refine ZM (es:=5) (v:=tv) (p:=q) (xs:=toks.map Xg) (ys:=[Xg t]) (i:=9) (by rfl) (by rfl) Tryz.underlying39 Tryz.underlying39 (fun k e=>by cases e) Yo qfY qdU (by rfl) (by decide) (by rfl) hrow rfl (hS2.forget (Vj hn_14q12)) (by rfl) (Bz (Vh _ _ _) (fun x hx=>by rw[V4.1 hx];rfl) (by rfl) (by rfl) (.exact 1) (KL _)) (by rfl) (by simp) (by rw[Jn,JF];omega) (by rw[Jn,JF];omega) fun tv2 q2 h14 hrow2 _ hS3=>?_;simp+decide only[qV,qY,Xc,qer,↓qh];refine qN (v:=tv2) (by rfl) (by rfl) (hS3.at_ (i:=8) rfl) sz39 hrow2.live (by rw[hrow2.cells];rfl) (by simp only[QF];omega) (Jq _) (by rw[hrow2.cells];simp[Qt,hrow2.scal]) ?_;simp only[Xo,WB,hrow2.cells];simp+decide only[qV,Xc];have eb_p:h14 kp=some _:=hS3.at_ (i:=1) rfl;have hwa:IntKind.i64.wrap ((a:Int)+1)=((a+1:Nat):Int):=by rw[wrap_i64 (by omega) (by omega)];omega
     apply hK;clear hK K;refine Qv [0,1,2,4,10,13,14] (by rfl) ?_;simp+decide only[QK,XI,XJ,Xh,Wd,↓qc,↓Qf,↓qh,↓qo,qf ag3,↓qd,Qm eb_p,ne_8q2_p.symm,hwa];refine qN (by rfl) (by rfl) zqA sz3 (by rfl) (by rfl) zqD (Jq _) (by rfl) ?_;simp only[QT];simp+decide only[qV];try simp only[QL]
     exact⟨⟨toks++[t],a+1,tv2,q2,(h14.set k8q2 ⟨[.str w,tv2, .nilSlice],0⟩).set kp (parB3 v (a+1) ov)⟩,rfl,Vi _,⟨⟨(hS3.put (i:=8) rfl ⟨[.str w,tv2, .nilSlice],0⟩).put (i:=1) rfl (parB3 v (a+1) ov),by simp only;rw[JI];exact hrow2,hal2,by simp only;omega,by simp only[Jb,JF];omega⟩,hgo2⟩,by simp only;omega⟩
   ·skip
    have hWd:headW l O w n i=(toks,a):=by
     rw[hgo];refine qeS ?_;have z:goW l a=false:=by rw[<-hb_11];exact hb2
     unfold goW at z;simp only[Jh,JH,decide_eq_false_iff_not,VJ]at z;rcases z with z|z|z
     ·exact .inl z
     ·exact .inr (.inl z)
     ·exact .inr (.inr (.inl z))
    refine Qk ?_;change Awp _ _ _ _ _ _ _;refine awp_rseq [0,1,2,4,10,13,14,158] (by rfl) fun K hK=>?_;simp+decide only[XP,QH,XI,Qh,XA,qer,↓qh,↓qo,qf qbK,↓Qi,↓qd,Qm eb_8q2,nt,htl];apply hK;clear hK K;refine qz (b:=_) rfl (fun hb5=>?_) (fun hb5=>?_)
    ·try simp only[qG]at hb5
     have htk:toks=[]:=Kg (by omega);refine YE 2 (by rfl) (by rfl) ?_;simp only[Ki,Bh];simp+decide only[Qe,↓qc];refine⟨⟨_,_,by rfl,?_⟩,by intro i;first|trivial|exact .inr trivial|exact .inr rfl⟩;exact(qev w0 _ B kp v ov l a 4 i zqA zqB hv (by omega) (by omega)).mono (fun _ _ q=>q) fun x h' ⟨q1,q2⟩=>⟨_,BR hTf ⟨hwW,by rw[hWd];exact htk⟩,q1,Br (by assumption) q2⟩
    ·try simp only[qG]at hb5
     have htk:toks≠[]:=fun z=>by rw[z]at hb5;exact hb5 rfl
     refine qF ?_;try simp only[QL]
     first
     |exact⟨⟨toks,a,tv,q,H2⟩,rfl,Vi _,⟨hS2,hrow,hal,hle,hfw⟩,hWd,fun z=>htk (by rw[hWd]at z;exact z.2)⟩
     |exact⟨⟨[],i+n, .nilSlice,emp,H9⟩,rfl,Vi _,⟨hS9.emp, .nil,hin,KL _,Jq _⟩,by unfold headW;rw[if_neg hwW],fun z=>hwW z.1⟩
  ·try simp only[qG]at hb1
   have hwW:¬w=XT:=hb1;refine qF ?_;try simp only[QL]
   first
   |exact⟨⟨toks,a,tv,q,H2⟩,rfl,Vi _,⟨hS2,hrow,hal,hle,hfw⟩,hWd,fun z=>htk (by rw[hWd]at z;exact z.2)⟩
   |exact⟨⟨[],i+n, .nilSlice,emp,H9⟩,rfl,Vi _,⟨hS9.emp, .nil,hin,KL _,Jq _⟩,by unfold headW;rw[if_neg hwW],fun z=>hwW z.1⟩
 ·rintro⟨toks,a,tv,q,H2⟩ ⟨hI,hhd,hbare⟩
  refine JR [0,1,2,4,10,13,14] ?_;have:=hrest k8q2 _ hI hhd hbare;rw[<-hfm]at this;exact this
theorem sts_clip{w0:World}{h:AHeap}:∀{d:Nat} {v:AVal} {l:List StC},StsV w0 d h v l->StsV w0 d h (ZP v) l
 |0,_,_,hp=>⟨hp.1,hp.2.clip⟩
 |d+1,_,_,⟨qs,e,a,b⟩=>⟨qs,e,a.clip,b⟩
theorem UW{w0:World}{h:AHeap}{d:Nat}{v:AVal}{l:List StC}(hp:StsV w0 d h v l):∀H:AHeap,Zl Tryz.prog H 45 v=⟨True, .int .i64 l.length⟩:=by
 intro H;obtain⟨qs,rfl,a⟩:=hp.isL;have:=a.len Tryz.underlying45 H
 rwa [Jn,<-Jn (f:=(·.1))]at this
set_option maxHeartbeats 8000000 in
theorem k_bodyC(w0:World)(hm:MaxL w0)(ha:Asp w0)(l:List TokC)(hl:l.length<=65537)(hsh:Short l)(dd:Nat)(hdd:dd<=32)(hli:qnd w0 l (dd+1))(B:AHeap)(kp ks kb:Nat)(v ov bv pv:AVal)(op pp tp bp E:AHeap)(O:List Str)(c:Cur)(w:Str)(n i:Nat)
 (hP0:ParS w0 l B v ov op O i) (hC:CurS w0 (32-dd) c pv bv pp tp bp E) (hF:Fair O) (hO:O.length=dd) (hin:i+n<=l.length) (hpos:0<n\/isV l i=true) (hfew:Few c i) (hTf:Stm.twice c w=false) (g:B2G)
 (hI:B2I w0 l B kp ks kb v ov pv bv op pp tp bp E c w (i+n) g) (hhd:headW l O w n i=(g.toks,g.i)) (hbare:¬(w=XT/\(headW l O w n i).1=[])):
 Awp Tryz.prog w0 ⟨210,[],GP w0 210 [] [] (qlD B fun f=>BodyRO l dd O c w n i (.bad f))⟩ (Wv 6 (qbV Tryz.f73)) (qcU Tryz.prog w0 [] (fun r h'=>r= .tuple []/\qlG w0 l B kp ks v pv pp tp O dd n i c w h')) [(0, .ptr (.own kp) 0),(1, .ptr (.own ks) 0),(2, .str w),(4, .int .i64 dd),(10, .int .i64 i),(13, .ptr (.own kb) 0),(14, .str (O.getLastD []))] (g.H):=by
 obtain⟨toks,a,tv,q,H⟩:=g;obtain⟨hS,hrow,hal,hle,hfw⟩:=hI;simp only at hS hrow hal hle hfw hhd|-
 have eb_p:H kp=some _:=hS.at_ (i:=1) rfl;have eb_s:H ks=some _:=hS.at_ (i:=3) rfl;have eb_b:H kb=some _:=hS.at_ (i:=8) rfl;have ne_p_s:kp≠ks:=hS.ne (i:=1) (j:=3) rfl rfl (by decide);have ne_p_b:kp≠kb:=hS.ne (i:=1) (j:=8) rfl rfl (by decide);have ne_s_b:ks≠kb:=hS.ne (i:=3) (j:=8) rfl rfl (by decide);have hs_H:Sub B H:=hS.in_ (i:=0) rfl;have hv:=hP0.toks;have hlv:=hv.live;obtain⟨hpl,hps,hpc⟩:=hC.pv_ok;obtain⟨hbl,hbs,hbc,nb⟩:=hC.bv_len;obtain⟨fm,hfm⟩:∃fm,fm=O.getLastD []:=⟨_,rfl⟩
 obtain⟨hfm1,hfm2⟩:=qiv hF;rw[<-hfm]at hfm1 hfm2|-
 have hW2:(headW l O w n i).2=a:=by rw[hhd]
 have hdj:[B,one ks (curB c pv bv),pp,tp,bp,E,one kb ⟨[.str w,tv, .nilSlice],0⟩,q].Pairwise disj:=(hS.pick [0,3,4,5,6,7,8,9] (by decide) (by simp)).2;have hcall:=hli H (Wl [B,one ks (curB c pv bv),pp,tp,bp,E,one kb ⟨[.str w,tv, .nilSlice],0⟩,q]) kp v ov op O a (Sep.fold (ps:=[B,one ks (curB c pv bv),pp,tp,bp,E,one kb ⟨[.str w,tv, .nilSlice],0⟩,q]) (hS.pick [0,3,4,5,6,7,8,9,1,2] (by decide) (by simp))) ⟨hv.mono (Xy hdj B (by simp)),hP0.open_,hP0.isG,hal⟩ hF (by omega);have hwd:IntKind.i64.wrap ((dd:Int)+1)=((dd+1:Nat):Int):=by rw[wrap_i64 (by omega) (by omega)];omega
 change Awp _ _ _ (Code.seq _ _) _ _ _;by_cases hbad:∃f,ListRO l (dd+1) O a [] (.bad f)
 ·skip
  refine qi ?_;refine YE 3 (by rfl) (by rfl) ?_;simp only[Ki,Bh];simp+decide only[QK,Xi,↓qc,↓qd];try simp(disch:=omega)only[wrap_i64,wrap_u8]
  refine⟨⟨_,_,by rfl,?_⟩,by intro i;first|trivial|exact .inr trivial|exact .inr rfl⟩;try rw[hwd]
  obtain⟨f,hf⟩:=hbad;refine(hcall.bad fun x h' ⟨L,j,_,_,_,y,_⟩=>by cases y.one hf).mono (fun _ _ q=>q) fun x h' ⟨f',q1,q2,q3⟩=>⟨f',BodyR.bad hTf hbare (by rw[hW2];exact q1),q2,(Xy hdj B (by simp)).trans q3⟩
 refine awp_rseq [0,1,2,10,13,14] (by rfl) fun K hK=>?_;simp+decide only[QK,Xi,↓qc,↓qd];try simp(disch:=omega)only[wrap_i64,wrap_u8]
 refine qE (by rfl) (by rfl) (hcall.ok fun x h' ⟨f,q,_⟩=>hbad ⟨f,q⟩) fun x18q3 h18q3 hx18q3=>?_;obtain⟨L,j,ov2,op2,E2,hR,hij,hLn,hsts,hP2,hS2⟩:=hx18q3;have hS2:=hS2.unfold hdj;obtain⟨hrl,hrs,hrc⟩:=hsts.shape;simp+decide only[qV,qY,qep,↓qh];refine qN (v:=x18q3) (by rfl) (by rfl) (hS2.at_ (i:=6) rfl) sz45 hrl (by rw[hrc];rfl) (by simp only[QF];omega) (Jq _) (by rw[hrc];simp[Qt,hrs]) ?_;simp only[Xo,WB,hrc];simp+decide only[qV];apply hK;clear hK K;refine qi ?_;obtain⟨H19,hH19⟩:∃H19,H19=h18q3.set kb ⟨[.str w,tv,x18q3],0⟩:=⟨_,rfl⟩
 refine BO (h':=H19) (by rw[hH19];exact Vi _) ?_;have hS3:=hS2.put (i:=6) rfl ⟨[.str w,tv,x18q3],0⟩;rw[<-hH19]at hS3;simp only[Xo,Xf]at hS3;have eb_p:H19 kp=some _:=hS3.at_ (i:=8) rfl;have eb_s:H19 ks=some _:=hS3.at_ (i:=1) rfl;have eb_b:H19 kb=some _:=hS3.at_ (i:=6) rfl;have hs_H19:Sub B H19:=hS3.in_ (i:=0) rfl;have hj:=hP2.at_;have nL:=UW hsts;have hlo2:=hP2.open_.live;have htl:=hrow.live;obtain⟨S,hSS⟩:∃S,S=Qr l j fm:=⟨_,rfl⟩
 have hE:qdm l O w L j=(decide (L.length=0) && (!decide (w=XT)||(!decide (S.1=XT) && !decide (S.1=qgI)))):=by rw[hSS,hfm];rfl
 refine awp_rseq [0,1,2,10,13,17] (by rfl) fun K hK=>?_;simp+decide only[Qe,↓qc];refine QC (V:= .tuple [.str S.1, .int .i64 S.2]) (by rfl) (by rfl) (by rw[hSS];exact qfn w0 ha _ (.own kp) 0 v l j fm (Yc w0 eb_p 0) (Yc w0 eb_p 1) (hv.mono zqB) (by omega) hj hfm1 hfm2) ?_;simp+decide only[Xp,QF,QR,Xe,↓qc,↓Xa,↓qa,Nat.reduceAdd];apply hK;clear hK K;refine awp_rseq [0,1,10,13,188] (by rfl) fun K hK=>?_;simp+decide only[Xk,XI,ZH,Yl,Qs,QS,Xn,XA,qac,qbz,qby,qep,↓qh,↓qo,qf qiH,↓Qi,↓qd,↓qc,↓Qy,↓Qn,↓UE,↓Qd,Qm eb_b,nL,hrl];apply hK;clear hK K;refine qz (b:=_) rfl (fun hb1=>?_) (fun hb1=>?_)
 ·try simp only[qG]at hb1
  have hEt:qdm l O w L j=true:=by
   rw[hE,Ky,decide_eq_true_eq];refine⟨by omega,?_⟩;rcases hb1.2 with z|⟨z1,z2⟩
   ·rw[decide_eq_false (show ¬w=XT from z)];rfl
   ·rw[decide_eq_false (show ¬S.1=XT from z1),decide_eq_false (show ¬S.1=qgI from z2)];simp
  refine YE 2 (by rfl) (by rfl) ?_;simp only[Ki,Bh];simp+decide only[Qe,↓qc];refine⟨⟨_,_,by rfl,?_⟩,by intro i;first|trivial|exact .inr trivial|exact .inr rfl⟩;exact(qev w0 _ B kp v ov2 l j 4 i zqA zqB hv (by omega) (by omega)).mono (fun _ _ q=>q) fun x h' ⟨q1,q2⟩=>⟨_,BodyR.empty hTf hbare (by rw[hW2];exact hR) hEt,q1,Br (by assumption) q2⟩
 ·try simp only[qG]at hb1
  have hEf:qdm l O w L j=false:=by
   rw[hE,<-BP];intro z;rw[Ky,decide_eq_true_eq,JH,Ky]at z;obtain⟨z1,z2⟩:=z;rcases hb1 with y|⟨y1,y2⟩
   ·omega
   ·rcases z2 with x|⟨x1,x2⟩
    ·rw[show decide (w=XT)=true from decide_eq_true y1]at x;cases x
    ·rcases y2 with u|u
     ·rw[show decide (S.1=XT)=true from decide_eq_true u]at x1;cases x1
     ·rw[show decide (S.1=qgI)=true from decide_eq_true u]at x2;cases x2
  refine qF ?_;change Awp _ _ _ _ _ _ _;have htv:=hrow.isL (w0:=w0) (hS3.in_ (i:=7) rfl);obtain⟨qL,hqL,hrv0⟩:=(hsts.mono (hS3.in_ (i:=10) rfl)).isL;have hck:=htv.clip;have hcr:=hrv0.clip;have hckl:=hck.live;have hcrl:=hcr.live;refine qgi 7 [1,13] mixed (by kernel_rfl) (by rfl) fun K hK=>?_;simp only[Ki,Bh,Vr,Vn];simp+decide only[qV,qY,ZJ,qer,↓ZU,↓qcW,qf qbK,Qm eb_b,htl];refine qbg (V:=ZP tv) (by rfl) (by rfl) (qhA w0 _ tv _ htv) ?_;simp+decide only[qV,qY,ZJ,qep,↓ZU,↓qcW,qf qiH,Qm eb_b,hrl];refine qbg (V:=ZP x18q3) (by rfl) (by rfl) (qpU w0 _ x18q3 _ hrv0) ?_;simp+decide only[qV,qY,qer,↓ZU];refine qN (v:=ZP tv) (by rfl) (by rfl) eb_b sz39 hckl (by rw[hck.cells];rfl) (by simp only[QF];omega) (Jq _) (by rw[hck.cells];simp[Qt,hck.scal]) ?_;simp only[Xo,WB,hck.cells];simp+decide only[qV,qY,qep,↓qh];refine qN (v:=ZP x18q3) (by rfl) (by rfl) (Vh _ _ _) sz45 hcrl (by rw[hcr.cells];rfl) (by simp only[QF];omega) (Jq _) (by rw[hcr.cells];simp[Qt,hcr.scal]) ?_;simp only[Xo,WB,hcr.cells,Bg];simp+decide only[qV];apply hK;clear hK K;obtain⟨H23,hH23⟩:∃H23,H23=H19.set kb ⟨[.str w,ZP tv,ZP x18q3],0⟩:=⟨_,rfl⟩
  refine BO (h':=H23) (by rw[hH23];exact Vi _) ?_;have hS4:=hS3.put (i:=6) rfl ⟨[.str w,ZP tv,ZP x18q3],0⟩;rw[<-hH23]at hS4;simp only[Xo]at hS4;have eb_p:H23 kp=some _:=hS4.at_ (i:=8) rfl;have eb_s:H23 ks=some _:=hS4.at_ (i:=1) rfl;have eb_b:H23 kb=some _:=hS4.at_ (i:=6) rfl;have hs_H23:Sub B H23:=hS4.in_ (i:=0) rfl;obtain⟨bs,hb1e,hb2e,hb3e⟩:=id hC.bd;have hbn:c.bodies.length=bs.length:=by rw[hb1e,Jn]
  obtain⟨hf1,hf2,hf3⟩:=hfew;have hin2:i<=l.length:=hP0.at_;refine qeA 7 [0] mixed (by kernel_rfl) (by rfl) ?_;simp only[Ki,Bh,Vr,Vn];simp+decide only[Qe,VN,qY,Xh,YR,ZJ,↓qaN,↓qap,↓YP,↓qaO,qf qdp,Qa qrf qav,Qm eb_s,Qm eb_b,Nat.reduceAdd,hbl,hckl,hcrl];refine UO (by rfl) ?_;refine qO (cs:=[.str w,ZP tv,ZP x18q3]) (by kernel_rfl) fun k23q6 hk23q6=>?_;have hn_23q6:H23 k23q6=none:=by first|assumption|(simp only[Bd]at hk23q6;simp only[hk23q6])
  have hf_23q6:B k23q6=none:=Be hs_H23 hn_23q6;have ne_23q6_p:k23q6≠kp:=Bf hn_23q6 eb_p;have ne_23q6_s:k23q6≠ks:=Bf hn_23q6 eb_s;have ne_23q6_b:k23q6≠kb:=Bf hn_23q6 eb_b;rw[QB];try simp only[Un,Uf]
  refine ZM (es:=3) (v:=bv) (p:=bp) (xs:=bs.map bdC) (ys:=[[.str w,ZP tv,ZP x18q3]]) (i:=4) (by rfl) (by rfl) Tryz.underlying80 Tryz.underlying80 (fun k e=>by cases e) qav by86 qlH (by rfl) (by decide) (by rfl) hb2e rfl (hS4.forget (Vj hn_23q6)) (by rfl) (Bz (Vh _ _ _) (fun x hx=>by rw[V4.1 hx];rfl) (by rfl) (by show(true && ((ZP tv).live && ((ZP x18q3).live && true)))=true;rw[hckl,hcrl];rfl) (.exact 1) (KL _)) (by show(true && ((ZP tv).scal && ((ZP x18q3).scal && true)))=true;rw[hck.scal,hcr.scal];rfl) (by simp) (by simp only[Zn];omega) (by simp only[Zn];omega) fun bv2 bp2 h23 hb2g _ hS5=>?_;simp+decide only[Zi,qY,Xh,YR,↓Qf,↓qh];refine qN (v:=bv2) (by rfl) (by rfl) (hS5.at_ (i:=1) rfl) sz80 hb2g.live (by rw[hb2g.cells];rfl) (by simp only[QF];omega) (Jq _) (by rw[hb2g.cells];simp[Qt,hb2g.scal]) ?_;simp only[Xo,WB,hb2g.cells];simp+decide only[Zi];refine qai (qC) ?_;try simp+decide only[qV,qfD]
  have hS6:=hS5.put (i:=1) rfl (curB {c with bodies:=c.bodies++[(w,toks,L)]} pv bv2);simp only[Xo]at hS6;have hdE:[E,q,E2].Pairwise disj:=(hS6.pick [5,7,10] (by decide) (by simp)).2;have hu:=Xy hdE;have hS7:=(Sep.fold (ps:=[E,q,E2]) (hS6.pick [5,7,10,0,8,9,1,2,3,4] (by decide) (by simp))).pick [1,2,3,4,5,6,7,0] (by decide) (by simp);refine⟨_,Vi _,{c with bodies:=c.bodies++[(w,toks,L)]},j,ov2,op2,bv2,bp2,Wl [E,q,E2],by have:=BodyR.ok hTf hbare (by rw[hW2];exact hR) hEf;rw[hhd]at this;exact this,?_,rfl,rfl,rfl,rfl,by simp,⟨?_,?_⟩,⟨hv,hP2.open_,hP2.isG,hP2.at_⟩,hS7⟩
  ·rcases hpos with z|z
   ·omega
   ·by_cases hn0:n=0
    ·rcases KT i j with y|y
     ·exact y
     ·exfalso
      have hij2:a=j:=by omega
      have hai:a=i:=by omega
      have hL0:L.length=0:=by omega
      have hwW:w=XT:=by
       by_cases y2:w=XT
       ·exact y2
       ·rw[hE,hL0,decide_eq_false y2]at hEf;cases hEf
      refine hbare ⟨hwW,?_⟩;unfold headW;rw[if_pos hwW,hn0,K6];unfold qtw;rw[qeS (.inr (.inl z))]
    ·omega
  ·obtain⟨qs,w1,ts,tv1,p1,p2,p3,p4⟩:=hC.ph
   exact⟨qs,w1,ts,tv1,p1,p2,p3,fun x hx=>(p4 x hx).mono (hu E (by simp))⟩
  ·refine⟨bs++[((w,toks,L),ZP tv,ZP x18q3)],by simp only;rw[hb1e,JI];rfl,by rw[JI];exact hb2g,fun b hb=>?_⟩
   rcases JV.1 hb with z|z
   ·exact⟨(hb3e b z).1.mono (hu E (by simp)),(hb3e b z).2.mono (hu E (by simp))⟩
   ·rw[V4.1 z]
    refine⟨(hrow.isL (hu q (by simp))).clip,?_⟩;have:=sts_clip (hsts.mono (hu E2 (by simp)))
    rwa [show 33-(dd+1)=32-dd by omega]at this
theorem k_body(w0:World)(hm:MaxL w0)(ha:Asp w0)(l:List TokC)(hl:l.length<=65537)(hsh:Short l)(dd:Nat)(hdd:dd<=32)(hd0:0<dd)(hli:qnd w0 l (dd+1)):BodK w0 l dd:=
 k_bodyA w0 l hl dd fun H B kp ks v ov bv pv op pp tp bp E O c w n i hS hP hC hF hO hin hpos hfew hTf=>
  k_bodyB w0 hm ha l hl hsh dd hdd hd0 H B kp ks v ov bv pv op pp tp bp E O c w n i hS hP hC hF hO hin hTf fun kb g hI hhd hbare=>
   k_bodyC w0 hm ha l hl hsh dd hdd hli B kp ks kb v ov bv pv op pp tp bp E O c w n i hP hC hF hO hin hpos hfew hTf g hI hhd hbare
theorem cond_P{P:Str×Str->Prop}{b:Bool}{x y:Str×Str}(hx:P x)(hy:P y):P (bif b then x else y):=by cases b<;>assumption
def FairP(p:Str×Str):Prop:=(p.1.length<=1000000/\asciiB p.1=true)/\p.2.length<=1000000/\asciiB p.2=true
instance (p:Str×Str):Decidable (FairP p):=by unfold FairP;exact inferInstance
theorem qkM(s:Str):FairP (Qg s):=by
 unfold Qg;repeat' (refine cond_P (P:=FairP) (by decide) ?_)
 decide
theorem Fair.snoc{O:List Str}(hF:Fair O)(s:Str):Fair (O++[(Qg s).2]):=fun f hf=>by
 rcases JV.1 hf with h|h
 ·exact hF f h
 ·rw[V4.1 h];exact(qkM s).2
structure StI(w0:World)(l:List TokC)(B:AHeap)(kp ks k4:Nat)(b4:Blk)(v ov pv bv:AVal)(op pp tp bp E:AHeap)(O:List Str)(d:Nat)(c:Cur)(j:Nat)(H:AHeap):Prop where
 sep:Sep [B,one kp (parB3 v j ov),op,one ks (curB c pv bv),pp,tp,bp,E,one k4 b4] H
 par:ParS w0 l B v ov op O j
 cur:CurS w0 d c pv bv pp tp bp E
 few:Few c j
def qeR:Blk:=⟨[.str [], .int .i64 0, .int .i64 0, .nilSlice, .nilSlice],0⟩
set_option maxHeartbeats 8000000 in
theorem k_stmA(w0:World)(l:List TokC)(hl:l.length<=65537)(dd:Nat)(hdd:dd<=33)
 (hrest:dd<=32->∀(H B:AHeap) (kp ks k4:Nat) (v ov pv bv:AVal) (op pp tp bp E:AHeap) (O:List Str) (i:Nat),StI w0 l B kp ks k4 qeR v ov pv bv op pp tp bp E (O++[(Qg (l.getD i noT).text).2]) (32-dd) (qch l i) (i+1) H->Fair O->O.length+1=dd->isV l i=true->
   Awp Tryz.prog w0 ⟨201,[],GP w0 201 [] [] (qlD B fun f=>StRO l dd O i (.bad f))⟩ (Wv 6 (qjD (Wv 1 (qbV Tryz.f51)))) (qfG (qcU Tryz.prog w0 [.cell 4 82] (qtr w0 l B kp v O dd i))) [(0, .ptr (.own kp) 0),(1, .int .i64 dd),(4, .ptr (.own k4) 0),(5, .int .i64 i),(6, .ptr (.own ks) 0),(7, .str (Qg (l.getD i noT).text).1),(8, .str (Qg (l.getD i noT).text).2)] (H)):StmK w0 l dd:=by
 intro h B kp v ov op O i hS hP hF hO hvi;have eb_p:h kp=some _:=hS.at_ (i:=1) rfl;have hs_h:Sub B h:=hS.in_ (i:=0) rfl;have hv:=hP.toks;have hlv:=hv.live;have hlo:=hP.open_.live;have hi:=isV_some hvi;refine qaU (k:=201) (rs:=[.cell 4 82]) Tryz.func51 rfl rfl rfl rfl (VY rfl) ?_;simp only[qU];refine awp_rseq [0,1,4] (by rfl) fun K hK=>?_;refine Qp qjs (cs:=[.str [], .int .i64 0, .int .i64 0, .nilSlice, .nilSlice]) (by rfl) fun k0q0 hk0q0=>?_;have hn_0q0:h k0q0=none:=by first|assumption|(simp only[Bd]at hk0q0;simp only[hk0q0])
 have hf_0q0:B k0q0=none:=Be hs_h hn_0q0;have ne_0q0_p:k0q0≠kp:=Bf hn_0q0 eb_p;simp+decide only[qV];apply hK;clear hK K;refine awp_scope ?_;refine awp_rseq [0,1,4,5] (by rfl) fun K hK=>?_;simp+decide only[Xp,QU,Xh,Wd,↓qc,↓Qf,↓qh,↓qo,qf ag3,↓qa,ne_0q0_p.symm,Qm eb_p];apply hK;clear hK K;refine qi ?_;refine awp_rseq [0,1,4,5,23] (by rfl) fun K hK=>?_;simp+decide only[QK,qK,YG,↓qc,↓qd];apply hK;clear hK K;refine qz (b:=_) rfl (fun hb1=>?_) (fun hb1=>?_)
 ·try simp only[qG]at hb1
  refine YE 2 (by rfl) (by rfl) ?_;simp only[Ki,Bh];simp+decide only[Qe,↓qc];refine⟨⟨_,_,by rfl,?_⟩,by intro i;first|trivial|exact .inr trivial|exact .inr rfl⟩;exact(qev w0 _ B kp v ov l i 3 i zqA zqB hv (by omega) (by omega)).mono (fun _ _ q=>q) fun x h' ⟨q1,q2⟩=>⟨_,StR.deep (by omega),q1,Br zqB q2⟩
 ·try simp only[qG]at hb1
  have hd32:dd<=32:=by omega
  refine qF ?_;change Awp _ _ _ _ _ _ _;obtain⟨H4,hH4⟩:∃H4,H4=h.set k0q0 qeR:=⟨_,rfl⟩
  refine BO (h':=H4) (by rw[hH4];exact Vi _) ?_;have hS4:=hS.lay hk0q0 qeR;rw[<-hH4]at hS4;simp only[Xf]at hS4;have eb_p:H4 kp=some _:=hS4.at_ (i:=1) rfl;have eb_0q0:H4 k0q0=some _:=hS4.at_ (i:=3) rfl;have hs_H4:Sub B H4:=hS4.in_ (i:=0) rfl;obtain⟨lc,o,cc,hve⟩:=Ye hv (by omega);have hv2:=hv.mono hs_H4;rw[hve]at hv2;obtain⟨e0,e1,e2,e3,e4⟩:=WU hv2 hi;obtain⟨t,ht⟩:∃t,t=l.getD i noT:=⟨_,rfl⟩
  have hcur:qch l i=⟨t.text,t.line,t.col,[⟨[],[]⟩],[]⟩:=by rw[ht];rfl
  rw[<-ht]at e0 e1 e2 e3 e4;have e3':rd w0 H4 lc (o+i*5+2+1)= .int .i64 t.col:=e3;refine qbn 20 [] [0,1,4,5,6] mixed (by kernel_rfl) (by rfl) fun K hK=>?_;simp only[Ki,Bh,Vr,Vn];simp+decide only[Qe,qY,Xc,QW,Xh,Zo,ZJ,XZ,qbU,qcN,↓qaN,↓qap,↓YP,↓qaO,qf qbK,↓WO,qg Tryz.underlying39 Yo,qf ag9,fa44_2,Qa ag42 sz42,↓qhl,↓QN,qta,Qm eb_p,hve,e1,e2,e3];repeat (with_reducible refine zqP ?_)
  refine UO (by rfl) ?_;refine qO (cs:=[.str [], .nilSlice]) (by kernel_rfl) fun k4q17 hk4q17=>?_;have hn_4q17:H4 k4q17=none:=by first|assumption|(simp only[Bd]at hk4q17;simp only[hk4q17])
  have hf_4q17:B k4q17=none:=Be hs_H4 hn_4q17;have ne_4q17_p:k4q17≠kp:=Bf hn_4q17 eb_p;rw[QB];simp+decide only[qV,Xc,QW,Zo,↓qhl,↓QN,qpY];refine UO (by rfl) ?_;refine Qp qjs (cs:=[.str [], .int .i64 0, .int .i64 0, .nilSlice, .nilSlice]) (by rfl) fun k4q19 hk4q19=>?_;have ne_4q19_4q17:k4q19≠k4q17:=by simp only[Bd]at hk4q19;simp only[Yv,hk4q19]
  have hn_4q19:H4 k4q19=none:=by first|assumption|(simp only[Bd]at hk4q19;simp only[hk4q19])
  have hf_4q19:B k4q19=none:=Be hs_H4 hn_4q19;have ne_4q19_p:k4q19≠kp:=Bf hn_4q19 eb_p;rw[QB];try simp only[Un,Uf]
  refine qN (by rfl) (by rfl) zqA WF (by rfl) (by rfl) zqD (Jq _) (by rfl) ?_;simp only[QT,Bg];simp+decide only[qV,Xc,Nat.reduceAdd];apply hK;clear hK K;obtain⟨H5,hH5⟩:∃H5,H5=(H4.set k4q17 ⟨[.str [], .nilSlice],0⟩).set k4q19 ⟨[.str t.text, .int .i64 t.line, .int .i64 t.col, .slice (.own k4q17) 0 1 (.exact 1), .nilSlice],0⟩:=⟨_,rfl⟩
  refine BO (h':=H5) (by rw[hH5];exact Vi _) ?_;have hS5:=(hS4.lay hn_4q17 ⟨[.str [], .nilSlice],0⟩).lay ((Vg _ _ ne_4q19_4q17).trans hn_4q19) ⟨[.str t.text, .int .i64 t.line, .int .i64 t.col, .slice (.own k4q17) 0 1 (.exact 1), .nilSlice],0⟩;rw[<-hH5]at hS5;simp only[Xf]at hS5;have eb_p:H5 kp=some _:=hS5.at_ (i:=1) rfl;have eb_4q19:H5 k4q19=some _:=hS5.at_ (i:=5) rfl;have hs_H5:Sub B H5:=hS5.in_ (i:=0) rfl;refine awp_rseq [0,1,4,5,6,7,8] (by rfl) fun K hK=>?_;simp+decide only[qV,QU,qag,↓qh,↓qo,qf ag9,Qm eb_4q19];refine QC (V:= .tuple [.str (Qg t.text).1, .str (Qg t.text).2]) (by rfl) (by rfl) (c_forms w0 _ t.text) ?_;simp+decide only[Xp,QF,QR,Xe,↓qc,↓Xa,↓qa,Nat.reduceAdd];apply hK;clear hK K;refine awp_rseq [0,1,4,5,6,7,8] (by rfl) fun K hK=>?_;simp+decide only[Qe,QU,Xh,↓qc,↓Qf,↓qh,qiw,↓qo,qf ag22,Qm eb_p,hlo];refine qO (cs:=[.str (Qg t.text).2]) (by kernel_rfl) fun k6q6 hk6q6=>?_;have hn_6q6:H5 k6q6=none:=by first|assumption|(simp only[Bd]at hk6q6;simp only[hk6q6])
  have hf_6q6:B k6q6=none:=Be hs_H5 hn_6q6;have ne_6q6_p:k6q6≠kp:=Bf hn_6q6 eb_p;have ne_6q6_4q19:k6q6≠k4q19:=Bf hn_6q6 eb_4q19;refine ZM (es:=1) (v:=ov) (p:=op) (xs:=O.map strC) (ys:=[strC (Qg t.text).2]) (i:=2) (by rfl) (by rfl) Tryz.underlying22 Tryz.underlying22 (fun k e=>by cases e) sz9 by9 ze9 (by rfl) (by decide) (by rfl) hP.open_ rfl (hS5.forget (Vj hn_6q6)) (by rfl) (Bz (Vh _ _ _) (fun x hx=>by rw[V4.1 hx];rfl) (by rfl) (by rfl) (.exact 1) (KL _)) (by rfl) (by simp) (by simp only[Zn];omega) (by simp only[Zn];omega) fun ov2 op2 h6 hov2 hG2 hS6=>?_;simp+decide only[qV,qY,Xh,↓Qf,↓qh,qiw];refine qN (v:=ov2) (by rfl) (by rfl) (hS6.at_ (i:=1) rfl) sz22 hov2.live (by rw[hov2.cells];rfl) (by simp only[QF];omega) (Jq _) (by rw[hov2.cells];simp[Qt,hov2.scal]) ?_;simp only[Xo,WB,hov2.cells];simp+decide only[qV];apply hK;clear hK K;obtain⟨H7,hH7⟩:∃H7,H7=h6.set kp (parB3 v i ov2):=⟨_,rfl⟩
  refine BO (h':=H7) (by rw[hH7];exact Vi _) ?_;have hS7:=hS6.put (i:=1) rfl (parB3 v i ov2);rw[<-hH7]at hS7;simp only[Xo]at hS7;have eb_p:H7 kp=some _:=hS7.at_ (i:=1) rfl;have hs_H7:Sub B H7:=hS7.in_ (i:=0) rfl;have hwi:IntKind.i64.wrap ((i:Int)+1)=((i+1:Nat):Int):=by rw[wrap_i64 (by omega) (by omega)];omega
  refine awp_rseq [0,1,4,5,6,7,8] (by rfl) fun K hK=>?_;simp+decide only[QK,XI,XJ,Xh,Wd,↓qc,↓Qf,↓qh,↓qo,qf ag3,↓qd,Qm eb_p,hwi];refine qN (by rfl) (by rfl) zqA sz3 (by rfl) (by rfl) zqD (Jq _) (by rfl) ?_;simp only[QT];simp+decide only[qV];apply hK;clear hK K;have hS8:=(hS7.put (i:=1) rfl (parB3 v (i+1) ov2)).emp.emp.emp.pick [0,1,2,5,4,6,7,8,3] (by decide) (by simp);refine JR [0,1,4,5,6,7,8] ?_;have:=hrest hd32 (H7.set kp (parB3 v (i+1) ov2)) B kp k4q19 k0q0 v ov2 (.slice (.own k4q17) 0 1 (.exact 1)) .nilSlice op2 (one k4q17 ⟨[.str [], .nilSlice],0⟩) emp emp emp O i ⟨?_,?_,?_,?_⟩ hF hO hvi
  ·rw[<-ht]at this
   exact this
  ·rw[hcur]
   exact hS8
  ·refine⟨hv,?_,hG2,by omega⟩
   rw[<-ht,JI];exact hov2
  ·rw[hcur]
   exact⟨⟨[],[],[], .nilSlice,rfl,GrowV.new (xs:=[[AVal.str [], .nilSlice]]) rfl (.inl rfl) (fun x hx=>by rw[V4.1 hx];rfl) (by rfl) rfl, .nil,fun q hq=>by cases hq⟩,⟨[],rfl, .nil,fun b hb=>by cases hb⟩⟩
  ·rw[hcur]
   exact⟨by simp only[JF];omega,fun p hp=>by rw[V4.1 hp];exact Jq _,Jq _⟩
theorem qnS{w0:World}{d:Nat}{c:Cur}{pv bv:AVal}{pp tp bp E H:AHeap}(hc:CurS w0 d c pv bv pp tp bp E)(h1:Sub pp H)(h2:Sub tp H)(h3:Sub E H):PhV w0 H pv c.phrases:=by
 obtain⟨qs,w,ts,tv,p1,p2,p3,p4⟩:=hc.ph;refine⟨qs++[(⟨w,ts⟩,tv)],by rw[p1,JI];rfl,by rw[JI];exact p2.isL h1,fun q hq=>?_⟩;rcases JV.1 hq with z|z
 ·exact(p4 q z).mono h3
 ·rw[V4.1 z];exact p3.isL h2
theorem qnT{w0:World}{d:Nat}{c:Cur}{pv bv:AVal}{pp tp bp E H:AHeap}(hc:CurS w0 d c pv bv pp tp bp E)(h1:Sub bp H)(h3:Sub E H):BdV w0 (StsV w0 d H) H bv c.bodies:=by
 obtain⟨bs,p1,p2,p3⟩:=hc.bd;exact⟨bs,p1,p2.isL h1,fun b hb=>⟨(p3 b hb).1.mono h3,(p3 b hb).2.mono h3⟩⟩
theorem qsG{w0:World}{d:Nat}{c:Cur}{pv bv:AVal}{pp tp bp E:AHeap}{j:Nat}(hc:CurS w0 d c pv bv pp tp bp E)(hf:Few c j)(hj:j<=1000000):PhFew c.phrases:=by
 obtain⟨qs,w,ts,tv,p1,p2,p3,p4⟩:=hc.ph;exact⟨by rw[p1];simp,Ve hf.1 hj,fun p hp=>Ve (hf.2.1 p hp) hj⟩
theorem few_tok{l:List TokC}{c c':Cur}{ph:Str}{j j':Nat}(hf:Few c j)(hne:c.phrases≠[])(hb:c.bodies=[])(h:qat l c ph j= .ok c' j'):Few c' j'/\j<j':=by
 obtain⟨f1,f2,f3⟩:=hf;rw[qfv hb]at h;have hp:=Bu.2 hne;split at h
 ·cases h
  refine⟨⟨?_,fun p hp=>?_,by simp only;omega⟩,by omega⟩
  ·simp only[Jb,JF,qtj,List.length_dropLast];omega
  ·simp only[qtj]at hp
   rcases JV.1 hp with z|z
   ·have:=f2 p (List.dropLast_subset _ z);omega
   ·rw[V4.1 z]
    have:=f2 (c.phrases.getLastD ⟨[],[]⟩) (by
     rw[BQ,List.getLast?_eq_some_getLast hne];exact List.getLast_mem hne)
    simp only[Jb,JF];omega
 ·rename_i hz
  split at h
  ·cases h
   refine⟨⟨?_,fun p hp=>?_,by simp only;omega⟩,by omega⟩
   ·simp only[Jb,JF];omega
   ·simp only at hp
    rcases JV.1 hp with z|z
    ·have:=f2 p z;omega
    ·rw[V4.1 z];exact Jq _
  ·cases h
   exact⟨⟨by omega,fun p hp=>by have:=f2 p hp;omega,by omega⟩,by omega⟩
theorem tok_ex{l:List TokC}{c:Cur}{ph:Str}{j:Nat}(hb:c.bodies=[]):∃c' j',qat l c ph j= .ok c' j':=by
 rw[qfv hb];split
 ·exact⟨_,_,rfl⟩
 ·split<;>exact⟨_,_,rfl⟩
theorem tok_le{l:List TokC}{c c':Cur}{ph:Str}{j j':Nat}(hb:c.bodies=[])(hj:j<l.length)(h:qat l c ph j= .ok c' j'):j'<=l.length:=by
 rw[qfv hb]at h;have:=qgn l j ph (BS hj);split at h
 ·cases h;omega
 ·split at h<;>cases h<;>exact this
theorem Few.up{c:Cur}{j j':Nat}(h:Few c j)(hj:j<=j'):Few c j':=⟨Ve h.1 hj,fun p hp=>Ve (h.2.1 p hp) hj,Ve h.2.2 hj⟩
theorem qpw{c c':Cur}{j j':Nat}(h:Few c j)(hp:c'.phrases=c.phrases)(hb:c'.bodies.length=c.bodies.length+1)(hj:j<j'):Few c' j':=⟨by rw[hp];exact Ve h.1 (BS hj),fun p hpm=>by rw[hp]at hpm;exact Ve (h.2.1 p hpm) (BS hj),by rw[hb];have:=h.2.2;omega⟩
theorem impV_eq(m:Option Str):impV m= .tuple [.str (m.getD []), .bool m.isSome]:=by cases m<;>rfl
structure LoG where
 c:Cur
 j:Nat
 ov:AVal
 pv:AVal
 bv:AVal
 op:AHeap
 pp:AHeap
 tp:AHeap
 bp:AHeap
 E:AHeap
 H:AHeap
theorem isE_in{l:List TokC}{j:Nat}(h:j<l.length):isE l j=decide ((l.getD j noT).kind=6):=by unfold isE;rw[if_pos h]
theorem isE_out{l:List TokC}{j:Nat}(h:¬j<l.length):isE l j=true:=by unfold isE;rw[if_neg h]
set_option maxHeartbeats 16000000 in
theorem k_stmB(w0:World)(hm:MaxL w0)(ha:Asp w0)(l:List TokC)(hl:l.length<=65537)(hsh:Short l)(dd:Nat)(hdd:dd<=32)(hd0:0<dd)(hbk:BodK w0 l dd)(B:AHeap)(kp ks k4:Nat)(b4:Blk)(v:AVal)(O O0:List Str)(ph bd:Str)(i:Nat)(Q:AVal->AHeap->Prop)(QP:FaultC->Prop)
 (hF:Fair O) (hO:O.length=dd) (hbd:O.getLastD []=bd) (hph1:ph.length<=1000000) (hph2:asciiB ph=true) (hbad0:∀f,LoopRO l dd O ph (qch l i) (i+1) (.bad f)->QP f)
 (ov pv bv:AVal) (op pp tp bp E H:AHeap) (hI:StI w0 l B kp ks k4 b4 v ov pv bv op pp tp bp E O (32-dd) (qch l i) (i+1) H)
 (hrest:∀(H:AHeap) (ov pv bv:AVal) (op pp tp bp E:AHeap) (c:Cur) (cl:Bool) (j:Nat),StI w0 l B kp ks k4 b4 v ov pv bv op pp tp bp E O (32-dd) c j H->i<j->LoopRO l dd O ph (qch l i) (i+1) (.ok (c,cl) j)->
   Awp Tryz.prog w0 ⟨201,[],GP w0 201 [] [] (qlD B QP)⟩ (Wv 9 (qjD (Wv 1 (qbV Tryz.f51)))) (qfG (qcU Tryz.prog w0 [.cell 4 82] (Q))) [(0, .ptr (.own kp) 0),(4, .ptr (.own k4) 0),(5, .int .i64 i),(6, .ptr (.own ks) 0),(9, .bool cl)] (H)):
 Awp Tryz.prog w0 ⟨201,[],GP w0 201 [] [] (qlD B QP)⟩ (Wv 6 (qjD (Wv 1 (qbV Tryz.f51)))) (qfG (qcU Tryz.prog w0 [.cell 4 82] (Q))) [(0, .ptr (.own kp) 0),(1, .int .i64 dd),(4, .ptr (.own k4) 0),(5, .int .i64 i),(6, .ptr (.own ks) 0),(7, .str ph),(8, .str bd)] (H):=by
 change Awp _ _ _ (Code.seq _ _) _ _ _;refine awp_rseq [0,1,4,5,6,7,8,9] (by rfl) fun K hK=>?_;simp+decide only[qP,↓qa];apply hK;clear hK K;refine qi ?_;refine awp_label ?_;change Awp _ _ _ _ _ _ _;refine qi ?_;refine qI ?_;refine Qj [0,1,4,5,6,7,8,9] (fun g:LoG=>[(0, .ptr (.own kp) 0),(1, .int .i64 dd),(4, .ptr (.own k4) 0),(5, .int .i64 i),(6, .ptr (.own ks) 0),(7, .str ph),(8, .str bd),(9, .bool false)]) (fun g:LoG=>g.H) (fun g:LoG=>StI w0 l B kp ks k4 b4 v g.ov g.pv g.bv g.op g.pp g.tp g.bp g.E O (32-dd) g.c g.j g.H/\i<g.j/\∀r,LoopRO l dd O ph g.c g.j r->LoopRO l dd O ph (qch l i) (i+1) r) (fun g:LoG=>l.length-g.j) ⟨qch l i,i+1,ov,pv,bv,op,pp,tp,bp,E,H⟩ (by rfl) (Vi _) ⟨hI,Nat.lt_succ_self _,fun r hr=>hr⟩ ?_;rintro⟨c,j,ov,pv,bv,op,pp,tp,bp,E,H⟩ ⟨⟨hS,hP,hC,hfew⟩,hij,hgo⟩;simp only at hS hP hC hfew hij hgo|-
 have eb_p:H kp=some _:=hS.at_ (i:=1) rfl;have eb_s:H ks=some _:=hS.at_ (i:=3) rfl;have ne_p_s:kp≠ks:=hS.ne (i:=1) (j:=3) rfl rfl (by decide);have hs_H:Sub B H:=hS.in_ (i:=0) rfl;have hv:=hP.toks;have hlv:=hv.live;have nv:=ZN hv;have hjl:=hP.at_;have hlo:=hP.open_.live;obtain⟨hpl,hps,hpc⟩:=hC.pv_ok;obtain⟨hbl,hbs,hbc,nb⟩:=hC.bv_len;refine qi ?_;have mcase:(∃(lc:AM.Loc) (o:Nat) (cc:Cap),v= .slice lc o l.length cc/\j<l.length/\decide ((j:Int)<(l.length:Int))=true/\rd w0 H lc (o+j*5)= .int .u8 (l.getD j noT).kind.toNat/\decide (((l.getD j noT).kind.toNat:Int)=6)=decide ((l.getD j noT).kind=6)/\(!isE l j)= !decide ((l.getD j noT).kind=6))\/
  (∃(lc:AM.Loc) (o:Nat) (cc:Cap),v=v/\¬j<l.length/\decide ((j:Int)<(l.length:Int))=false/\True/\True/\(!isE l j)=false):=by
  by_cases hlt:j<l.length
  ·obtain⟨lc,o,cc,hve⟩:=Ye hv (by omega)
   have hv2:=hv.mono hs_H;rw[hve]at hv2;exact .inl ⟨lc,o,cc,hve,hlt,by simpa using hlt,(WU hv2 hlt).1,Yg _ 6,by rw[isE_in hlt]⟩
  ·exact .inr ⟨.base 0,0, .exact 0,rfl,hlt,by simpa using hlt,trivial,trivial,by rw[isE_out hlt];rfl⟩
 refine UD [0,1,4,5,6,7,8,9,92] mixed (by kernel_rfl) (by rfl) (by rfl) fun K hK=>?_;suffices hM:∀b:Bool,b= !isE l j->K [(0, .ptr (.own kp) 0),(1, .int .i64 dd),(4, .ptr (.own k4) 0),(5, .int .i64 i),(6, .ptr (.own ks) 0),(7, .str ph),(8, .str bd),(9, .bool false),(92, .bool b)] (H) by
  rcases mcase with⟨lc,o,cc,hve,hkl,hkd,e0,hk6,hfin⟩|⟨lc,o,cc,hve,hkl,hkd,e0,hk6,hfin⟩<;>(
   simp+decide only[Xk,XI,VD,qj,K6,ZH,Yl,QS,QY,Xh,Ze,Zt,ZF,Wd,WY,Um,qcN,↓qc,↓Qf,↓qh,↓qo,qf ag3,qf qbK,↓Qi,QV Tryz.underlying39,↓qd,↓Qy,↓qdg,↓QM,↓Xv,↓Zb,qg Tryz.underlying39 Yo,qf qjA,↓Qn,↓Qd,Qm eb_p,hlv,nv,hve,hkd,e0,hk6];repeat (with_reducible refine zqP ?_)
   exact hM _ hfin.symm)
 intro b hb_9;apply hK;clear hK K;refine qz (b:=_) rfl (fun hb1=>?_) (fun hb1=>?_)
 ·skip
  have hE0:isE l j=false:=by
   have z:(!isE l j)=true:=by rw[<-hb_9];exact hb1
   simpa using z
  have hjlt:j<l.length:=by
   by_cases z:j<l.length
   ·exact z
   ·rw[isE_out z]at hE0;cases hE0
  obtain⟨lc,o,cc,hve⟩:=Ye hv (by omega);have hv2:=hv.mono hs_H;rw[hve]at hv2;obtain⟨e0,e1,e2,e3,e4⟩:=WU hv2 hjlt;obtain⟨t,ht⟩:∃t,t=l.getD j noT:=⟨_,rfl⟩
  rw[<-ht]at e0 e1 e2 e3 e4;have htx:t.text.length<=1000000:=by rw[ht];exact hsh.at hjlt
  have hEV:UT l j=qes t:=by unfold UT;rw[ht]
  have hVV:isV l j=Uz t:=by unfold isV;rw[if_pos hjlt,ht]
  refine qF ?_;change Awp _ _ _ _ _ _ _;refine qI ?_;refine qbn 11 [] [0,1,4,5,6,7,8,9,10] mixed (by kernel_rfl) (by rfl) fun K hK=>?_;simp only[Ki,Bh,Vr,Vn];simp+decide only[Qe,qY,Xc,Xh,Wd,ZJ,XZ,qcN,↓qaN,↓qap,↓YP,↓qaO,qf qbK,qf ag3,↓WO,qg Tryz.underlying39 Yo,Qa qjz Yo,Qm eb_p,hve,e0,e1,e2,e3,e4];repeat (with_reducible refine zqP ?_)
  refine UO (by rfl) ?_;refine Qp qdU (cs:=[.int .u8 0, .str [], .int .i64 0, .int .i64 0, .bool false]) (by rfl) fun k10q10 hk10q10=>?_;have hn_10q10:H k10q10=none:=by first|assumption|(simp only[Bd]at hk10q10;simp only[hk10q10])
  have hf_10q10:B k10q10=none:=Be hs_H hn_10q10;have ne_10q10_p:k10q10≠kp:=Bf hn_10q10 eb_p;have ne_10q10_s:k10q10≠ks:=Bf hn_10q10 eb_s;rw[QB];try simp only[Un,Uf]
  refine qN (by rfl) (by rfl) zqA Yo (by rfl) (by rfl) zqD (Jq _) (by rfl) ?_;simp only[QT,Bg];simp+decide only[qV,Xc,Nat.reduceAdd];apply hK;clear hK K;refine qi ?_;obtain⟨H11,hH11⟩:∃H11,H11=H.set k10q10 ⟨[.int .u8 t.kind.toNat, .str t.text, .int .i64 t.line, .int .i64 t.col, .bool t.left],0⟩:=⟨_,rfl⟩
  refine BO (h':=H11) (by rw[hH11];exact Vi _) ?_;have hS1:=hS.lay hn_10q10 ⟨[.int .u8 t.kind.toNat, .str t.text, .int .i64 t.line, .int .i64 t.col, .bool t.left],0⟩;rw[<-hH11]at hS1;simp only[Xf]at hS1;have eb_p:H11 kp=some _:=hS1.at_ (i:=1) rfl;have eb_s:H11 ks=some _:=hS1.at_ (i:=3) rfl;have eb_10q10:H11 k10q10=some _:=hS1.at_ (i:=9) rfl;have hs_H11:Sub B H11:=hS1.in_ (i:=0) rfl;obtain⟨hbd1,hbd2⟩:=qiv hF;rw[hbd]at hbd1 hbd2;obtain⟨S,hSS⟩:∃S,S=Qr l j bd:=⟨_,rfl⟩
  have hSle:=qgn l j bd hjl;rw[<-hSS]at hSle;have hSO:Qr l j (O.getLastD [])=S:=by rw[hbd,hSS]
  have hwj:IntKind.i64.wrap ((j:Int)+1)=((j+1:Nat):Int):=by rw[wrap_i64 (by omega) (by omega)];omega
  refine awp_rseq [0,1,4,5,6,7,8,9,10,11] (by rfl) fun K hK=>?_;simp+decide only[qV,QJ,↓qo,Qa qjz Yo,Qm eb_10q10,Nat.reduceAdd];refine QC (V:= .str (qes t)) (by rfl) (by rfl) (c_endOf w0 hm _ t htx) ?_;simp+decide only[qP,↓qa];apply hK;clear hK K;refine awp_rseq [0,1,4,5,6,7,8,9,10,11,106] (by rfl) fun K hK=>?_;simp+decide only[Xj,ZE,qac,↓qc,↓qd];apply hK;clear hK K;refine qz (b:=_) rfl (fun hb2=>?_) (fun hb2=>?_)
  ·try simp only[qG]at hb2
   refine qi ?_;refine awp_rseq [0,4,5,6,9,110] (by rfl) fun K hK=>?_;simp+decide only[Xj,QU,qj,Qs,Zd,qag,↓qc,↓qh,↓qo,qf ag9,↓qd,Qm eb_s];apply hK;clear hK K;refine qz (b:=_) rfl (fun hb3=>?_) (fun hb3=>?_)
   ·try simp only[qG]at hb3
    have hZ1:StI w0 l B kp ks k4 b4 v ov pv bv op pp tp bp E O (32-dd) c (j+1) (H11.set kp (parB3 v (j+1) ov)):=⟨(hS1.put (i:=1) rfl (parB3 v (j+1) ov)).pick [0,1,2,3,4,5,6,7,8] (by decide) (by simp),⟨hv,hP.open_,hP.isG,by omega⟩,hC,hfew.up (Nat.le_succ _)⟩
    have hZ2:=hgo _ (LoopR.endS hE0 (hEV.trans hb3) (by rw[hEV];exact hb2));have hZ3:i<j+1:=by omega
    refine awp_rseq [0,4,5,6,9] (by rfl) fun K hK=>?_;simp+decide only[qP,↓qa];apply hK;clear hK K;refine Qv [0,4,5,6,9] (by rfl) ?_;simp+decide only[QK,XI,XJ,Xh,Wd,↓qc,↓Qf,↓qh,↓qo,qf ag3,↓qd,Qm eb_p,hwj];refine qN (by rfl) (by rfl) zqA sz3 (by rfl) (by rfl) zqD (Jq _) (by rfl) ?_;simp only[QT];simp+decide only[qV];change Awp _ _ _ _ _ _ _;refine Qk ?_;change Awp _ _ _ _ _ _ _;refine JR [0,4,5,6,9] ?_;exact hrest _ _ _ _ _ _ _ _ _ _ _ _ hZ1 hZ3 hZ2
   ·try simp only[qG]at hb3
    have hZ1:StI w0 l B kp ks k4 b4 v ov pv bv op pp tp bp E O (32-dd) c j H11:=⟨hS1.pick [0,1,2,3,4,5,6,7,8] (by decide) (by simp),hP,hC,hfew⟩
    have hZ2:=hgo _ (LoopR.endO hE0 (fun z=>hb3 (hEV.symm.trans z)) (by rw[hEV];exact hb2));have hZ3:=hij;refine qF ?_;change Awp _ _ _ _ _ _ _;refine Qk ?_;change Awp _ _ _ _ _ _ _;refine JR [0,4,5,6,9] ?_;exact hrest _ _ _ _ _ _ _ _ _ _ _ _ hZ1 hZ3 hZ2
  ·try simp only[qG]at hb2
   have hEn:UT l j=[]:=by rw[hEV];exact hb2
   refine qF ?_;change Awp _ _ _ _ _ _ _;refine qi ?_;refine awp_rseq [0,1,4,5,6,7,8,9,10,12,13] (by rfl) fun K hK=>?_;simp+decide only[Qe,↓qc];refine QC (V:= .tuple [.str S.1, .int .i64 S.2]) (by rfl) (by rfl) (by rw[hSS];exact qfn w0 ha _ (.own kp) 0 v l j bd (Yc w0 eb_p 0) (Yc w0 eb_p 1) (hv.mono zqB) (by omega) hjl hbd1 hbd2) ?_;simp+decide only[Xp,QF,QR,Xe,↓qc,↓Xa,↓qa,Nat.reduceAdd];apply hK;clear hK K;refine awp_rseq [0,1,4,5,6,7,8,9,10,12,13,125] (by rfl) fun K hK=>?_;simp+decide only[QK,qK,YG,↓qc,↓qd];apply hK;clear hK K;refine qz (b:=_) rfl (fun hb4=>?_) (fun hb4=>?_)
   ·try simp only[qG]at hb4
    have hdj:[B,one k4 b4].Pairwise disj:=(hS1.pick [0,8] (by decide) (by simp)).2;have hcall:=hbk H11 (Wl [B,one k4 b4]) kp ks v ov bv pv op pp tp bp E O c (S.1) S.2 j (Sep.fold (ps:=[B,one k4 b4]) (hS1.pick [0,8,1,2,3,4,5,6,7] (by decide) (by simp))) ⟨hv.mono (Xy hdj B (by simp)),hP.open_,hP.isG,hjl⟩ hC hF hO (by omega) (.inl (by omega)) hfew;by_cases hbad:∃f,BodyRO l dd O c (S.1) S.2 j (.bad f)
    ·skip
     refine qi ?_;refine YE 4 (by rfl) (by rfl) ?_;simp only[Ki,Bh];simp+decide only[Qe,↓qc];refine⟨⟨_,_,by rfl,?_⟩,by intro i;first|trivial|exact .inr trivial|exact .inr rfl⟩;obtain⟨f,hf⟩:=hbad;refine(hcall.bad fun x h' ⟨_,c',j',_,_,_,_,_,y,_⟩=>by cases y.one hf).mono (fun _ _ q=>q) fun x h' ⟨f',q1,q2,q3⟩=>⟨f',hbad0 _ (hgo _ (LoopR.bodyBad hE0 hEn (by rw[hSO];omega) (by rw[hSO];exact q1))),q2,(Xy hdj B (by simp)).trans q3⟩
    refine awp_rseq [0,1,4,5,6,7,8,9] (by rfl) fun K hK=>?_;simp+decide only[Qe,↓qc];refine qE (by rfl) (by rfl) (hcall.ok fun x h' ⟨f,q,_⟩=>hbad ⟨f,q⟩) fun x18q4 h18q4 hx18q4=>?_;obtain⟨rfl,c',j',ov',op',bv',bp',E',hR,hjj,hp1,hp2,hp3,hp4,hbn,hC',hP',hS'⟩:=hx18q4;have hS':=(hS'.unfold hdj).pick [0,2,3,4,5,6,7,8,1] (by decide) (by simp);have hLoop:∃(c2:Cur) (j2:Nat) (ov2 pv2 bv2:AVal) (op2 pp2 tp2 bp2 E2:AHeap),StI w0 l B kp ks k4 b4 v ov2 pv2 bv2 op2 pp2 tp2 bp2 E2 O (32-dd) c2 j2 h18q4/\j<j2/\∀r,LoopRO l dd O ph c2 j2 r->LoopRO l dd O ph (qch l i) (i+1) r:=⟨c',j',ov',pv,bv',op',pp,tp,bp',E',⟨hS',⟨hv,hP'.open_,hP'.isG,hP'.at_⟩,hC',qpw hfew hp1 hbn hjj⟩,hjj,fun r hr=>hgo r (LoopR.body hE0 hEn (by rw[hSO];omega) (by rw[hSO];exact hR) hr)⟩
    simp+decide only[qV];apply hK;clear hK K;refine Qk ?_;obtain⟨c2,j2,ov2,pv2,bv2,op2,pp2,tp2,bp2,E2,g1,g2,g3⟩:=hLoop;exact⟨⟨c2,j2,ov2,pv2,bv2,op2,pp2,tp2,bp2,E2,_⟩,rfl,Vi _,⟨g1,by simp only;omega,g3⟩,by have:=g1.par.at_;simp only;omega⟩
   ·try simp only[qG]at hb4
    have hS0:(Qr l j (O.getLastD [])).2=0:=by rw[hSO];omega
    refine qF ?_;change Awp _ _ _ _ _ _ _;refine qi ?_;refine awp_rseq [0,1,4,5,6,7,8,9,10,14,15] (by rfl) fun K hK=>?_;simp+decide only[Zi,QJ,↓qo,Qa qgH WF,Qm eb_s,Nat.reduceAdd,hpl,hbl];refine qE (by rfl) (by rfl) (qsZ w0 ha _ c pv bv (32-dd) (qnS hC (hS1.in_ (i:=4) rfl) (hS1.in_ (i:=5) rfl) (hS1.in_ (i:=7) rfl)) (qnT hC (hS1.in_ (i:=6) rfl) (hS1.in_ (i:=7) rfl)) (by have:=hfew.2.2;omega) (qsG hC hfew (by omega))) fun x19q1 h19q1 hx19q1=>?_;obtain⟨rfl,hs19⟩:=hx19q1;rw[impV_eq];obtain⟨m,hmm⟩:∃m,m=ZK qZ c:=⟨_,rfl⟩
    rw[<-hmm];have hS19:=hS1.forget hs19;have hs_h19q1:Sub B h19q1:=Br zqC hs19;have hr_h19q1:Sub H11 h19q1:=Br zqC hs19;have eb_p:=hs19 kp _ zqA;have eb_s:=hs19 ks _ zqA;have eb_10q10:=hs19 k10q10 _ zqA;simp+decide only[Xp,VN,QF,QR,Xe,↓qc,↓Xa,↓qa,Nat.reduceAdd];apply hK;clear hK K;refine awp_rseq [0,1,4,5,6,7,8,9,10,14,140] (by rfl) fun K hK=>?_;simp+decide only[Qe,XF,QJ,Xt,YJ,Yy,Ze,Zt,↓qc,↓Xv,Qa qjz Yo,Qm eb_10q10,Nat.reduceAdd]
    (refine We (V:= .bool (Uz t)) (f:=_) (cap:=_) (xs:=_) (by first|rfl|(simp+decide only[QI,VZ,gv,nthDst,Zy,Zw])) (fun hg=>⟨rfl,?_⟩) (fun hg=>qhz w0 hm _ t htx) ?_;· (simp+decide only[QI,qaT,Xt,VH]at hg;simp+decide only[QI,Zr,absS,absV,XH,QW,evs,JE,hg]<;>try rfl))
    simp+decide only[qV,Xt,YS,↓Qd];apply hK;clear hK K;refine qz (b:=_) rfl (fun hb5=>?_) (fun hb5=>?_)
    ·try simp only[qG]at hb5
     have hVb:isV l j=true:=by rw[hVV];exact hb5.2
     obtain⟨w',hw'⟩:=Option.isSome_iff_exists.1 hb5.1;have hwg:m.getD []=w':=by rw[hw'];rfl
     have himp:ZK qZ c=some (m.getD []):=by rw[hwg,<-hw',hmm]
     have hdj:[B,one k4 b4].Pairwise disj:=(hS19.pick [0,8] (by decide) (by simp)).2;have hcall:=hbk h19q1 (Wl [B,one k4 b4]) kp ks v ov bv pv op pp tp bp E O c (m.getD []) 0 j (Sep.fold (ps:=[B,one k4 b4]) (hS19.pick [0,8,1,2,3,4,5,6,7] (by decide) (by simp))) ⟨hv.mono (Xy hdj B (by simp)),hP.open_,hP.isG,hjl⟩ hC hF hO (by omega) (.inr hVb) hfew;by_cases hbad:∃f,BodyRO l dd O c (m.getD []) 0 j (.bad f)
     ·skip
      refine qi ?_;refine YE 3 (by rfl) (by rfl) ?_;simp only[Ki,Bh];simp+decide only[Qe,↓qc];refine⟨⟨_,_,by rfl,?_⟩,by intro i;first|trivial|exact .inr trivial|exact .inr rfl⟩;obtain⟨f,hf⟩:=hbad;refine(hcall.bad fun x h' ⟨_,c',j',_,_,_,_,_,y,_⟩=>by cases y.one hf).mono (fun _ _ q=>q) fun x h' ⟨f',q1,q2,q3⟩=>⟨f',hbad0 _ (hgo _ (LoopR.implBad hE0 hEn hS0 hVb himp q1)),q2,(Xy hdj B (by simp)).trans q3⟩
     refine awp_rseq [0,1,4,5,6,7,8,9] (by rfl) fun K hK=>?_;simp+decide only[Qe,↓qc];refine qE (by rfl) (by rfl) (hcall.ok fun x h' ⟨f,q,_⟩=>hbad ⟨f,q⟩) fun x21q3 h21q3 hx21q3=>?_;obtain⟨rfl,c',j',ov',op',bv',bp',E',hR,hjj,hp1,hp2,hp3,hp4,hbn,hC',hP',hS'⟩:=hx21q3;have hS':=(hS'.unfold hdj).pick [0,2,3,4,5,6,7,8,1] (by decide) (by simp);have hLoop:∃(c2:Cur) (j2:Nat) (ov2 pv2 bv2:AVal) (op2 pp2 tp2 bp2 E2:AHeap),StI w0 l B kp ks k4 b4 v ov2 pv2 bv2 op2 pp2 tp2 bp2 E2 O (32-dd) c2 j2 h21q3/\j<j2/\∀r,LoopRO l dd O ph c2 j2 r->LoopRO l dd O ph (qch l i) (i+1) r:=⟨c',j',ov',pv,bv',op',pp,tp,bp',E',⟨hS',⟨hv,hP'.open_,hP'.isG,hP'.at_⟩,hC',qpw hfew hp1 hbn hjj⟩,hjj,fun r hr=>hgo r (LoopR.impl hE0 hEn hS0 hVb himp hR hr)⟩
     simp+decide only[qV];apply hK;clear hK K;refine Qk ?_;obtain⟨c2,j2,ov2,pv2,bv2,op2,pp2,tp2,bp2,E2,g1,g2,g3⟩:=hLoop;exact⟨⟨c2,j2,ov2,pv2,bv2,op2,pp2,tp2,bp2,E2,_⟩,rfl,Vi _,⟨g1,by simp only;omega,g3⟩,by have:=g1.par.at_;simp only;omega⟩
    ·try simp only[qG]at hb5
     have hnI:isV l j=true->ZK qZ c=none:=fun z=>by
      rw[<-hmm];cases hm0:m with
      |none=>rfl
      |some w'=>
       exfalso;rw[hVV]at z;rcases hb5 with y|y
       ·rw[hm0]at y;cases y
       ·rw[z]at y;cases y
     refine qF ?_;change Awp _ _ _ _ _ _ _;refine qi ?_;refine awp_rseq [0,1,4,5,6,7,8,9,150] (by rfl) fun K hK=>?_;simp+decide only[qV,QJ,↓qo,Qa qjz Yo,Qm eb_10q10,Nat.reduceAdd];refine QC (V:= .bool (Uz t)) (by rfl) (by rfl) (qhz w0 hm _ t htx) ?_;simp+decide only[Qe,XF,Xt,YJ,Yy,↓qc,↓Qy]
     (refine We (V:= .bool (qdi l O j)) (f:=_) (cap:=_) (xs:=_) (by first|rfl|(simp+decide only[QI,VZ,gv,nthDst,Zy,Zw])) (fun hg=>⟨rfl,?_⟩) (fun hg=>c_outer w0 ha _ kp v ov l j O eb_p (hv.mono zqB) (hP.open_.isL (hS19.in_ (i:=2) rfl)) hF (by omega) (by omega) (by omega) hjl) ?_;· (simp+decide only[QI,qaT,Xt,VH]at hg;simp+decide only[QI,Zr,absS,absV,XH,QW,evs,JE,hg]<;>try rfl))
     simp+decide only[qV,Xt,YS,↓Qd];apply hK;clear hK K;refine qz (b:=_) rfl (fun hb6=>?_) (fun hb6=>?_)
     ·try simp only[qG]at hb6
      have hZ1:StI w0 l B kp ks k4 b4 v ov pv bv op pp tp bp E O (32-dd) c j h19q1:=⟨hS19.pick [0,1,2,3,4,5,6,7,8] (by decide) (by simp),hP,hC,hfew⟩
      have hZ2:=hgo _ (LoopR.leave hE0 hEn hS0 hnI (by rw[hVV];exact hb6));have hZ3:=hij;refine Qk ?_;change Awp _ _ _ _ _ _ _;refine JR [0,4,5,6,9] ?_;exact hrest _ _ _ _ _ _ _ _ _ _ _ _ hZ1 hZ3 hZ2
     ·try simp only[qG]at hb6
      have hnV:isV l j=false:=by rw[hVV];exact hb6.1
      have hdj:[B,one k4 b4].Pairwise disj:=(hS19.pick [0,8] (by decide) (by simp)).2;have hu:=Xy hdj;have hS20:=Sep.fold (ps:=[B,one k4 b4]) (hS19.pick [0,8,1,2,3,4,5,6,7] (by decide) (by simp));refine qF ?_;change Awp _ _ _ _ _ _ _;by_cases hbb:c.bodies≠[]
      ·skip
       refine YE 2 (by rfl) (by rfl) ?_;simp only[Ki,Bh];simp+decide only[Qe,↓qc];refine⟨⟨_,_,by rfl,?_⟩,by intro i;first|trivial|exact .inr trivial|exact .inr rfl⟩;refine(c_tokBad w0 _ (Wl [B,one k4 b4]) kp ks v ov bv pv op pp tp bp E c (32-dd) j l ph hS20 (hv.mono (hu B (by simp))) hC (by omega) hjl hbb).mono (fun _ _ q=>q) fun x h' ⟨q1,q2⟩=>⟨_,hbad0 _ (hgo _ (LoopR.tokBad hE0 hEn hS0 hnV hb6.2 (by unfold qat;rw[if_pos hbb]))),q1,Br (hS19.in_ (i:=0) rfl) q2⟩
      refine Qv [0,1,4,5,6,7,8,9] (by rfl) ?_;simp+decide only[Qe,↓qc];refine qE (by rfl) (by rfl) (c_tokOk w0 ha _ (Wl [B,one k4 b4]) kp ks v ov bv pv op pp tp bp E c _ (32-dd) j _ l ph hS20 (hv.mono (hu B (by simp))) hC (by omega) hjlt (Decidable.not_not.1 hbb) hph1 hph2 (tok_ex (Decidable.not_not.1 hbb)).choose_spec.choose_spec hfew hlo) fun x23q2 h23q2 hx23q2=>?_;obtain⟨rfl,pv',pp',tp',E',hC',hS'⟩:=hx23q2;have hS':=(hS'.unfold hdj).pick [0,2,3,4,5,6,7,8,1] (by decide) (by simp);have hok:=(tok_ex (l:=l) (ph:=ph) (j:=j) (Decidable.not_not.1 hbb)).choose_spec.choose_spec;obtain⟨hfw,hjj⟩:=few_tok hfew (qsG hC hfew (by omega)).1 (Decidable.not_not.1 hbb) hok;have hLoop:∃(c2:Cur) (j2:Nat) (ov2 pv2 bv2:AVal) (op2 pp2 tp2 bp2 E2:AHeap),StI w0 l B kp ks k4 b4 v ov2 pv2 bv2 op2 pp2 tp2 bp2 E2 O (32-dd) c2 j2 h23q2/\j<j2/\∀r,LoopRO l dd O ph c2 j2 r->LoopRO l dd O ph (qch l i) (i+1) r:=⟨_,_,ov,pv',bv,op,pp',tp',bp,E',⟨hS',⟨hv,hP.open_,hP.isG,tok_le (Decidable.not_not.1 hbb) hjlt hok⟩,hC',hfw⟩,hjj,fun r hr=>hgo r (LoopR.tok hE0 hEn hS0 hnV hb6.2 hok hr)⟩
      simp+decide only[qV];try simp only[QL]
      obtain⟨c2,j2,ov2,pv2,bv2,op2,pp2,tp2,bp2,E2,g1,g2,g3⟩:=hLoop;exact⟨⟨c2,j2,ov2,pv2,bv2,op2,pp2,tp2,bp2,E2,_⟩,rfl,Vi _,⟨g1,by simp only;omega,g3⟩,by have:=g1.par.at_;simp only;omega⟩
 ·skip
  have hE0:isE l j=true:=by
   have z:(!isE l j)=false:=by rw[<-hb_9];exact hb1
   simpa using z
  have hZ1:StI w0 l B kp ks k4 b4 v ov pv bv op pp tp bp E O (32-dd) c j H:=⟨hS,hP,hC,hfew⟩
  have hZ2:=hgo _ (LoopR.stop hE0);have hZ3:=hij;refine Qk ?_;change Awp _ _ _ _ _ _ _;refine JR [0,4,5,6,9] ?_;exact hrest _ _ _ _ _ _ _ _ _ _ _ _ hZ1 hZ3 hZ2
end Go.Proofs.YtgiadjbiimkbiaaGreatDoor
namespace Go.AM
theorem qmJ{α:Type}{es:Nat}(y:α):∀{xs:List (List α)},(∀x∈xs,x.length=es)->∀(i j:Nat),i<xs.length->j<es->xs.flatten.set (i*es+j) y=(xs.set i ((xs.getD i []).set j y)).flatten
 |[],_,i,j,hi,_=>by simp at hi
 |x::xs,h,0,j,_,hj=>by
  have hx:=h x Je;rw[Vp,K7,Jp,List.set_append_left _ _ (by omega),VE,Vp];rfl
 |x::xs,h,i+1,j,hi,hj=>by
  have hx:=h x Je;rw[Vp,BM _ _ (by rw[Vq];omega),show(i+1)*es+j-x.length=i*es+j by rw[Vq];omega,qmJ y (fun z hz=>h z (Jf _ hz)) i j (by simpa using hi) hj,Kj,Vp];rfl
theorem qkO{α:Type}{es:Nat}:∀(ys:List α) {xs:List (List α)},(∀x∈xs,x.length=es)->∀(i j:Nat),i<xs.length->j+ys.length<=es->setAt xs.flatten (i*es+j) ys=(xs.set i (setAt (xs.getD i []) j ys)).flatten
 |[],xs,h,i,j,hi,_=>by
  simp only[setAt];congr 1;rw[Ko,JB hi];exact(List.set_getElem_self hi).symm
 |y::ys,xs,h,i,j,hi,hj=>by
  simp only[KX]at hj;simp only[setAt];have hl:(xs.getD i []).length=es:=by
   rw[Ko,JB hi];exact h _ (Vw hi)
  rw[qmJ y h i j hi (by omega),Kw,qkO ys (xs:=xs.set i ((xs.getD i []).set j y)) (fun z hz=>?_) i (j+1) (by rw[BH];exact hi) (by omega),List.set_set]
  ·congr 3
   simp[Ko,hi]
  ·rcases BU hz with hz|hz
   ·exact h z hz
   ·rw[hz,BH];exact hl
theorem GrowV.open_{v:AVal}{p:AHeap}{es:Nat}{xs:List (List AVal)}{x:List AVal}(hg:GrowV es v p (xs++[x]))(hG:isG v=true):
 ∃k,v= .slice (.own k) 0 (xs.length+1) (.grow es)/\p=one k ⟨xs.flatten++x,0⟩/\GrowV es (.slice (.own k) 0 xs.length (.grow es)) (one k ⟨xs.flatten,0⟩) xs:=by
 rcases hg with⟨rfl,_,e⟩|⟨k,c,rfl,hc,rfl,hw,hl⟩
 ·simp at e
 ·have hfl:(xs++[x]).flatten=xs.flatten++x:=by simp
  rw[hfl]at hl|-
  rw[Jb,JF]at hc|-
  rcases hc with rfl|rfl
  ·cases hG
  ·rw[Ya,Ky]at hl
   exact⟨k,rfl,rfl,GrowV.new rfl (.inr rfl) (fun y hy=>hw y (Vd _ hy)) hl.1 rfl⟩
end Go.AM
namespace Go.Proofs.YtgiadjbiimkbiaaGreatDoor
open Go.AM
open Go.Proofs
open Go.Col (Str FaultC okF)
open Go.Tok (TokC)
open Go.Stm
open Go.RowKit (Below)
set_option maxRecDepth 100000
structure CpG where
 m:Nat
 qs:List (PhrC×AVal)
 H:AHeap
theorem ph_clip{w0:World}{h:AHeap}{v:AVal}{l:List PhrC}(hp:PhV w0 h v l):PhV w0 h (ZP v) l:=by
 obtain⟨qs,a,b,c⟩:=hp;exact⟨qs,a,b.clip,c⟩
theorem bd_clip{w0:World}{S:AVal->List StC->Prop}{h:AHeap}{v:AVal}{l:List BodC}(hp:BdV w0 S h v l):BdV w0 S h (ZP v) l:=by
 obtain⟨qs,a,b,c⟩:=hp;exact⟨qs,a,b.clip,c⟩
set_option maxHeartbeats 16000000 in
theorem k_stmC(w0:World)(hm:MaxL w0)(ha:Asp w0)(l:List TokC)(hl:l.length<=65537)(hsh:Short l)(dd:Nat)(hdd:dd<=32)(B:AHeap)(kp ks k4:Nat)(v:AVal)(O0:List Str)(bd ph:Str)(i:Nat)(hF:Fair O0)(hO:O0.length+1=dd)(hvi:isV l i=true)
 (hfo:Qg (l.getD i noT).text=(ph,bd)) (H:AHeap) (ov pv bv:AVal) (op pp tp bp E:AHeap) (c:Cur) (cl:Bool) (j:Nat) (hI:StI w0 l B kp ks k4 qeR v ov pv bv op pp tp bp E (O0++[bd]) (32-dd) c j H) (hij:i<j) (hR:LoopRO l dd (O0++[bd]) ph (qch l i) (i+1) (.ok (c,cl) j)):
 Awp Tryz.prog w0 ⟨201,[],GP w0 201 [] [] (qlD B fun f=>StRO l dd O0 i (.bad f))⟩ (Wv 9 (qjD (Wv 1 (qbV Tryz.f51)))) (qfG (qcU Tryz.prog w0 [.cell 4 82] (qtr w0 l B kp v O0 dd i))) [(0, .ptr (.own kp) 0),(4, .ptr (.own k4) 0),(5, .int .i64 i),(6, .ptr (.own ks) 0),(9, .bool cl)] (H):=by
 obtain⟨hS,hP,hC,hfew⟩:=hI;have eb_p:H kp=some _:=hS.at_ (i:=1) rfl;have eb_s:H ks=some _:=hS.at_ (i:=3) rfl;have ne_p_s:kp≠ks:=hS.ne (i:=1) (j:=3) rfl rfl (by decide);have hs_H:Sub B H:=hS.in_ (i:=0) rfl;have hv:=hP.toks;have hlv:=hv.live;have hjl:=hP.at_;have hopn:=hP.open_;have hos:IsStrs w0 H ov (O0++[bd]):=hopn.isL (hS.in_ (i:=2) rfl);have nos:=WC hos;have hsl:=fun k:IntKind=>qmg (k:=k) hos (n:=O0.length) (by rw[Jb];omega);rw[Jb,JF]at nos;rw[JI]at hopn;obtain⟨ko,rfl,rfl,hov2⟩:=hopn.open_ hP.isG;rw[Jn]at hov2 eb_p hS nos hsl;obtain⟨ov2,hove⟩:∃ov2,ov2=AVal.slice (.own ko) 0 O0.length (.grow 1):=⟨_,rfl⟩
 have hsl2:∀k:IntKind,Wm Tryz.prog 22 (.slice (.own ko) 0 (O0.length+1) (.grow 1)) none (some (.int k O0.length)) none=⟨True,ov2⟩:=fun k=>by rw[hsl k,hove];rfl
 rw[<-hove]at hov2;have ne_p_o:kp≠ko:=hS.ne (i:=1) (j:=2) rfl rfl (by decide);have hol:=hov2.live;have hwo:IntKind.i64.wrap (((O0.length+1:Nat):Int)-1)=(O0.length:Int):=by rw[wrap_i64 (by omega) (by omega)];omega
 obtain⟨hpl,hps,hpc⟩:=hC.pv_ok;obtain⟨hbl,hbs,hbc,nb⟩:=hC.bv_len;change Awp _ _ _ (Code.seq _ _) _ _ _;refine qlS 14 [0,4,5,6,9] mixed (by kernel_rfl) (by rfl) (by rfl) fun K hK=>?_;simp+decide only[QK,XI,Qh,Xh,WW,↓qc,↓Qf,↓qh,qiw,↓qo,qf ag22,↓Qi,QV Tryz.underlying22,↓qd,Qm eb_p,hwo];try simp+decide only[qV,qY,Xh,qal,↓qbJ,evO,pSlice_gr Tryz.underlying22 sz9,qnw,qmS,qbI,↓Qf,↓qh,qiw]
 repeat (with_reducible refine zqP ?_)
 refine qN (v:=ov2) (by rfl) (by rw[hove];show AVal.slice (.own ko) _ _ _=AVal.slice _ _ _ _;congr 1;all_goals simp) eb_p sz22 hol (by rw[hov2.cells];rfl) (by simp only[QF];omega) (Jq _) (by rw[hov2.cells];simp[Qt,hov2.scal]) ?_;simp only[Xo,WB,hov2.cells];simp+decide only[qV];apply hK;clear hK K;refine qi ?_;refine Awp.trunc (k:=ko) (cs:=(O0.map strC).flatten) (xs:=strC bd) ((Vg _ _ ne_p_o.symm).trans (hS.at_ (i:=2) rfl)) ?_;obtain⟨H25,hH25⟩:∃H25,H25=(H.set kp (parB3 v j ov2)).set ko ⟨(O0.map strC).flatten,0⟩:=⟨_,rfl⟩
 refine BO (h':=H25) (by rw[hH25];exact Vi _) ?_;have hS1:=(hS.put (i:=1) rfl (parB3 v j ov2)).put (i:=2) rfl ⟨(O0.map strC).flatten,0⟩;rw[<-hH25]at hS1;simp only[Xo]at hS1;have eb_p:H25 kp=some _:=hS1.at_ (i:=1) rfl;have eb_s:H25 ks=some _:=hS1.at_ (i:=3) rfl;have hs_H25:Sub B H25:=hS1.in_ (i:=0) rfl;refine awp_rseq [0,4,5,6,171] (by rfl) fun K hK=>?_;simp+decide only[Qe,VN,QJ,↓qo,Qa qgH WF,↓qc,Qm eb_s,Nat.reduceAdd,hpl,hbl];refine qE (by rfl) (by rfl) (c_whole w0 ha _ c pv bv (32-dd) cl (qnS hC (hS1.in_ (i:=4) rfl) (hS1.in_ (i:=5) rfl) (hS1.in_ (i:=7) rfl)) (qnT hC (hS1.in_ (i:=6) rfl) (hS1.in_ (i:=7) rfl)) (by have:=hfew.2.2;omega) (qsG hC hfew (by omega))) fun x25q2 h25q2 hx25q2=>?_;obtain⟨rfl,hs25⟩:=hx25q2;have hS2:=hS1.forget hs25;have hs_h25q2:Sub B h25q2:=Br zqC hs25;have hr_h25q2:Sub H25 h25q2:=Br zqC hs25;have eb_p:=hs25 kp _ zqA;have eb_s:=hs25 ks _ zqA;simp+decide only[Zi,YF,Zf,↓qdf];apply hK;clear hK K;refine qz (b:=_) rfl (fun hb1=>?_) (fun hb1=>?_)
 ·try simp only[qG]at hb1
  refine YE 2 (by rfl) (by rfl) ?_;simp only[Ki,Bh];simp+decide only[Qe,↓qc];refine⟨⟨_,_,by rfl,?_⟩,by intro i;first|trivial|exact .inr trivial|exact .inr rfl⟩;exact(qev w0 _ B kp v ov2 l j 4 i zqA zqB hv (by omega) (by omega)).mono (fun _ _ q=>q) fun x h' ⟨q1,q2⟩=>⟨_,StR.part (by omega) (by rw[hfo];exact hR) hb1,q1,Br (by assumption) q2⟩
 ·try simp only[qG]at hb1
  refine qF ?_;change Awp _ _ _ _ _ _ _;refine qi ?_;obtain⟨qs0,w,ts,tv,hph,hg0,hgt,hqE⟩:=hC.ph;obtain⟨kh,ch,rfl,hch,rfl⟩:=qfL hg0;have hS3:=(Sep.fold (ps:=[tp,E]) (hS2.pick [5,7,0,1,2,3,4,6,8] (by decide) (by simp))).pick [1,2,3,4,5,6,0,7] (by decide) (by simp);have hu:=Xy (ps:=[tp,E]) (hS2.pick [5,7] (by decide) (by simp)).2;obtain⟨E',hE'⟩:∃E',E'=Wl [tp,E]:=⟨_,rfl⟩
  rw[<-hE']at hS3 hu;obtain⟨q0,hq0⟩:∃q0,q0=qs0++[((⟨w,ts⟩:PhrC),tv)]:=⟨_,rfl⟩
  have hq1:q0.map (·.1)=c.phrases:=by rw[hq0,hph,JI];rfl
  have hq2:∀q∈q0,IsL w0 E' 5 q.2 (q.1.toks.map Xg):=fun q hq=>by
   rw[hq0]at hq;rcases JV.1 hq with z|z
   ·exact(hqE q z).mono (hu E (by simp))
   ·rw[V4.1 z];exact hgt.isL (hu tp (by simp))
  have hqn:q0.length=qs0.length+1:=by rw[hq0,Jb];rfl
  have hqf:(qs0.map phC).flatten++[AVal.str w,tv]=(q0.map phC).flatten:=by rw[hq0];simp[phC]
  rw[hqf]at hS3;rw[<-hqn]at hpl hps hpc hch eb_s hS3;have nq0:∀H:AHeap,Zl Tryz.prog H 79 (.slice (.own kh) 0 q0.length ch)=⟨True, .int .i64 q0.length⟩:=fun H=>by
   have:=(hg0.isL (w0:=w0) (Vi _)).len Tryz.underlying79 H
   rwa [Jb,Jn,JF,<-hqn]at this
  have hqs:q0.length<=l.length:=by rw[hqn];have:=hfew.1;rw[hph,Jb,Jn,JF]at this;omega
  refine awp_rseq [4,6,176,177,178] (by rfl) fun K hK=>?_;simp+decide only[Qe,QU,Qh,YI,↓qh,↓qo,qf qdr,↓Qi,QV Tryz.underlying79,↓qc,Qm eb_s,hpl];apply hK;clear hK K;refine qI ?_;refine Qj [4,6,176,177,178] (fun g:CpG=>[(4, .ptr (.own k4) 0),(6, .ptr (.own ks) 0),(176, .slice (.own kh) 0 q0.length ch),(177, .int .i64 q0.length),(178, .int .i64 g.m)]) (fun g:CpG=>g.H) (fun g:CpG=>g.m<=q0.length/\g.qs.length=q0.length/\g.qs.map (·.1)=c.phrases/\(∀q∈g.qs,IsL w0 E' 5 q.2 (q.1.toks.map Xg))/\Sep [B,one kp (parB3 v j ov2),one ko ⟨(O0.map strC).flatten,0⟩,one ks (curB c (.slice (.own kh) 0 q0.length ch) bv),one kh ⟨(g.qs.map phC).flatten,0⟩,bp,E',one k4 qeR] g.H) (fun g:CpG=>q0.length-g.m) ⟨0,q0,_⟩ (by rfl) (Vi _) ⟨Jq _,rfl,hq1,hq2,hS3⟩ ?_;rintro⟨m,qm,H⟩ ⟨hm1,hm2,hm3,hm4,hS⟩;simp only at hm1 hm2 hm3 hm4 hS|-
  have eb_s:H ks=some _:=hS.at_ (i:=3) rfl;have hs_H:Sub B H:=hS.in_ (i:=0) rfl;refine awp_rseq [4,6,176,177,178,179] (by rfl) fun K hK=>?_;simp+decide only[XP,QH,qj,QY,↓qd];apply hK;clear hK K;refine qi (qz (b:=_) rfl (fun hb2=>?_) (fun hb2=>?_))
  ·try simp only[qG]at hb2
   have hmm:m<qm.length:=by omega
   have hqm:GrowV 2 (.slice (.own kh) 0 q0.length ch) (one kh ⟨(qm.map phC).flatten,0⟩) (qm.map phC):=by
    refine GrowV.new (by rw[Jn,hm2]) hch qeZ (Wp.2 fun x hx=>?_) rfl;obtain⟨q,hq,rfl⟩:=JK.1 hx;show(true && (q.2.live && true))=true
    rw[(hm4 q hq).live];rfl
   obtain⟨q,hqe⟩:∃q,q=qm.getD m qej:=⟨_,rfl⟩
   have hqmem:q∈qm:=by rw[hqe,Ko,JB hmm];exact Vw hmm
   have hqL:=hqm.isL (w0:=w0) (hS.in_ (i:=4) rfl);rw[<-hm2]at hqL;obtain⟨e0,e1⟩:=qeJ hqL hmm;rw[<-hqe,Jp]at e0 e1;have hqt:=(hm4 q hqmem).mono (hS.in_ (i:=6) rfl);have hql:=hqt.live;have hqs1:=hqt.scal;have hqc:=hqt.cells;have hck:=hqt.clip;have hckl:=hck.live;have hcks:=hck.scal;have hckc:=hck.cells;have eb_h:H kh=some _:=hS.at_ (i:=4) rfl;have ne_s_h:ks≠kh:=hS.ne (i:=3) (j:=4) rfl rfl (by decide);have hset:setAt (qm.map phC).flatten (m*2+1) [ZP q.2]=((qm.set m (q.1,ZP q.2)).map phC).flatten:=by
    rw[qkO [ZP q.2] qeZ m 1 (by rw[Jn];exact hmm) (by simp),BV];congr 2;rw[getD_map qej hmm,<-hqe];rfl
   have hwm:IntKind.i64.wrap ((m:Int)+1)=((m+1:Nat):Int):=by rw[wrap_i64 (by omega) (by omega)];omega
   have hmq:((m:Int)<(q0.length:Int))=True:=eq_true (by omega);have hml:(qm.map phC).flatten.length=qm.length*2:=qee qm;refine qF ?_;change Awp _ _ _ _ _ _ _;refine qi ?_;refine qI ?_;refine awp_rseq [4,6,16,17,176,177,178] (by rfl) fun K hK=>?_;simp+decide only[Qe,VN,QJ,Xc,↓qc,↓qJ,qg Tryz.underlying79 qbA,↓qo,Qa ag84 qbA,e0,e1,hql];repeat (with_reducible refine zqP ?_)
   refine Qp ze84 (cs:=[.str [], .nilSlice]) (by rfl) fun k29q3 hk29q3=>?_;have hn_29q3:H k29q3=none:=by first|assumption|(simp only[Bd]at hk29q3;simp only[hk29q3])
   have hf_29q3:B k29q3=none:=Be hs_H hn_29q3;have ne_29q3_s:k29q3≠ks:=Bf hn_29q3 eb_s;simp+decide only[qP,VN,Xc,↓qa];refine qN (by rfl) (by rfl) zqA qbA (by rfl) (by rfl) zqD (Jq _) (by first|rfl|(simp+decide only[QI,BL,Yk,VN,YW,Qt,hqs1])) ?_;simp only[QT,Bg];simp+decide only[Zi,Xc];apply hK;clear hK K;refine qgk 8 mixed (by kernel_rfl) (by rfl) ?_;simp only[Ki,Bh,Vr,Vn];simp+decide only[Qe,qY,Xc,YI,ZJ,qbm,↓ZU,↓qcW,qf qdr,↓qjC,qf qbK,ne_29q3_s.symm,Qm eb_s,hql];refine qbg (V:=ZP q.2) (by rfl) (by rfl) (qhA w0 _ q.2 _ (hqt.mono zqB)) ?_;simp+decide only[qV,qY,Xc,qbm,XZ,↓qdZ,qg Tryz.underlying79 qbA,↓ZU,hmq];repeat (with_reducible refine zqP ?_)
   refine qN (v:=ZP q.2) (by rfl) (by rfl) ((Vg _ _ (Bf hn_29q3 eb_h).symm).trans eb_h) sz39 hckl (by rw[hckc];rfl) (by simp only[QF];omega) (Jq _) (by rw[hckc];simp[Qt,hcks]) ?_;simp only[hckc,hset];simp+decide only[qV,Xc];change Awp _ _ _ _ _ _ _;refine Qv [4,6,176,177,178] (by rfl) ?_;simp+decide only[QK,Xi,↓qd,↓qc,hwm];try simp only[QL]
   refine⟨⟨m+1,qm.set m (q.1,ZP q.2),(H.set k29q3 ⟨[.str q.1.words,q.2],0⟩).set kh ⟨((qm.set m (q.1,ZP q.2)).map phC).flatten,0⟩⟩,rfl,Vi _,⟨by simp only;omega,by simp only;rw[BH];exact hm2,?_,fun x hx=>?_,?_⟩,by simp only;omega⟩
   ·simp only
    rw[BV,<-hm3];have:(qm.map (·.1))[m]?=some q.1:=by
     rw[List.getElem?_map,JB hmm];have:qm[m]=q:=by rw[hqe,Ko,JB hmm];rfl
     rw[this];rfl
    refine List.ext_getElem? fun x=>?_;rw[K3];by_cases z:m=x
    ·subst z
     rw[if_pos rfl,if_pos (by rw[Jn];exact hmm),this]
    ·rw[if_neg z]
   ·rcases BU hx with z|z
    ·exact hm4 x z
    ·rw[z];exact(hm4 q hqmem).clip
   ·have hSa:=(hS.lay hn_29q3 ⟨[.str q.1.words,q.2],0⟩).put (i:=4) rfl ⟨((qm.set m (q.1,ZP q.2)).map phC).flatten,0⟩
    exact hSa.pick [0,1,2,3,4,5,6,7] (by decide) (by simp)
  ·try simp only[qG]at hb2
   have hmm:m=q0.length:=by omega
   have hqm:GrowV 2 (.slice (.own kh) 0 q0.length ch) (one kh ⟨(qm.map phC).flatten,0⟩) (qm.map phC):=by
    refine GrowV.new (by rw[Jn,hm2]) hch qeZ (Wp.2 fun x hx=>?_) rfl;obtain⟨q,hq,rfl⟩:=JK.1 hx;show(true && (q.2.live && true))=true
    rw[(hm4 q hq).live];rfl
   have hu2:=Xy (ps:=[one kh ⟨(qm.map phC).flatten,0⟩,bp,E']) (hS.pick [4,5,6] (by decide) (by simp)).2;obtain⟨E2,hE2⟩:∃E2,E2=Wl [one kh ⟨(qm.map phC).flatten,0⟩,bp,E']:=⟨_,rfl⟩
   rw[<-hE2]at hu2;have hS4:=(Sep.fold (ps:=[one kh ⟨(qm.map phC).flatten,0⟩,bp,E']) (hS.pick [4,5,6,0,1,2,3,7] (by decide) (by simp))).pick [1,2,3,4,0,5] (by decide) (by simp);rw[<-hE2]at hS4;have hpF:PhV w0 E2 (.slice (.own kh) 0 q0.length ch) c.phrases:=⟨qm,hm3.symm,hqm.isL (hu2 _ (by simp)),fun q hq=>(hm4 q hq).mono (hu2 E' (by simp))⟩
   have hbF:BdV w0 (StsV w0 (32-dd) E2) E2 bv c.bodies:=by
    obtain⟨bs,p1,p2,p3⟩:=hC.bd;exact⟨bs,p1,p2.isL (hu2 bp (by simp)),fun b hb=>⟨(p3 b hb).1.mono ((hu E (by simp)).trans (hu2 E' (by simp))),(p3 b hb).2.mono ((hu E (by simp)).trans (hu2 E' (by simp)))⟩⟩
   have hpH:=hpF.mono (hS4.in_ (i:=4) rfl);obtain⟨qb,hqb1,hqb2,hqb3⟩:=id (hbF.mono (S':=StsV w0 (32-dd) H) (hS4.in_ (i:=4) rfl) fun _ _=>StsV.mono (hS4.in_ (i:=4) rfl));obtain⟨qp,hqp1,hqp2,hqp3⟩:=id hpH;have hcp:=hqp2.clip;have hcb:=hqb2.clip;have hcpl:=hcp.live;have hcbl:=hcb.live;have eb_4:H k4=some _:=hS4.at_ (i:=5) rfl;have ne_s_4:ks≠k4:=hS4.ne (i:=3) (j:=5) rfl rfl (by decide);refine Qk ?_;change Awp _ _ _ _ _ _ _;refine qgi 7 [4,6] mixed (by kernel_rfl) (by rfl) fun K hK=>?_;simp only[Ki,Bh,Vr,Vn];simp+decide only[qV,qY,YI,ZJ,↓ZU,↓qcW,qf qdr,Qm eb_s,hpl];refine qbg (V:=ZP (.slice (.own kh) 0 q0.length ch)) (by rfl) (by rfl) (c_clipPh w0 _ _ _ hqp2) ?_;simp+decide only[qV,qY,YR,ZJ,↓ZU,↓qcW,qf qdp,Qm eb_s,hbl];refine qbg (V:=ZP bv) (by rfl) (by rfl) (c_clipBd w0 _ _ _ hqb2) ?_;simp+decide only[qV,qY,YI,↓ZU];refine qN (v:=ZP (.slice (.own kh) 0 q0.length ch)) (by rfl) (by rfl) eb_s sz79 hcpl (by rw[hcp.cells];rfl) (by simp only[QF];omega) (Jq _) (by rw[hcp.cells];simp[Qt,hcp.scal]) ?_;simp only[Xo,WB,hcp.cells];simp+decide only[qV,qY,YR,↓qh];refine qN (v:=ZP bv) (by rfl) (by rfl) (Vh _ _ _) sz80 hcbl (by rw[hcb.cells];rfl) (by simp only[QF];omega) (Jq _) (by rw[hcb.cells];simp[Qt,hcb.scal]) ?_;simp only[Xo,WB,hcb.cells,Bg];simp+decide only[qV];apply hK;clear hK K;refine awp_rseq [4] (by rfl) fun K hK=>?_;simp+decide only[Zi,QJ,↓qo,Qa qgH WF,Nat.reduceAdd,hcpl,hcbl];refine qN (v:= .agg [.str c.verb, .int .i64 c.line, .int .i64 c.col,ZP (.slice (.own kh) 0 q0.length ch),ZP bv]) (by rfl) (by rfl) ((Vg _ _ ne_s_4.symm).trans eb_4) WF (by simp+decide only[J6,allLive,qdk,qem,qfc]) (by rfl) (by simp only[BL,QF,qeR];omega) (Jq _) (by show(true && (true && (true && ((ZP (.slice (.own kh) 0 q0.length ch)).scal && ((ZP bv).scal && true)))))=true;rw[hcp.scal,hcb.scal];rfl) ?_;simp only[QT,qeR,Nat.reduceAdd];simp+decide only[Zi];apply hK;clear hK K;refine qW ?_;try simp only[XB,qpc]
   refine Qb (?_) ?_
   ·simp+decide only[Kj,VE,Ka,BL,Jp,setAt,VZ,ev,J6,and_true,Yv,true_and,QB,cellsAt,VX,allLive,Kn,qdk,qem,Wt,qfc,qel,qek,qcK,qgy,qaf,Ul,qbk,qbj,qgw,qcJ,qcI,qgs,qgr,VN,qaj,WV,Qa qgH WF,qgp,Nat.reduceAdd,Nat.reduceAdd,hcpl,hcbl]
   simp+decide only[Zi,qaj,qkr,Qa qgH WF,qgp,Nat.reduceAdd,Nat.reduceAdd,hcpl,hcbl];have hS6:=((hS4.put (i:=3) rfl ⟨[.str c.verb, .int .i64 c.line, .int .i64 c.col,ZP (.slice (.own kh) 0 q0.length ch),ZP bv],0⟩).put (i:=5) rfl ⟨[.str c.verb, .int .i64 c.line, .int .i64 c.col,ZP (.slice (.own kh) 0 q0.length ch),ZP bv],0⟩).pick [0,1,2,4] (by decide) (by simp);exact⟨_,Vi _,hdd,c.done,j,ov2,one ko ⟨(O0.map strC).flatten,0⟩,E2,ZP (.slice (.own kh) 0 q0.length ch),ZP bv,StR.ok (by omega) (by rw[hfo];exact hR) hb1,hij,rfl,ph_clip hpF,bd_clip hbF,⟨hv,hov2,by rw[hove];rfl,hjl⟩,hS6⟩
theorem k_stm(w0:World)(hm:MaxL w0)(ha:Asp w0)(l:List TokC)(hl:l.length<=65537)(hsh:Short l)(dd:Nat)(hdd:dd<=33)(hd0:0<dd)(hli:dd<=32->qnd w0 l (dd+1)):StmK w0 l dd:=
 k_stmA w0 l hl dd hdd fun hd32 H B kp ks k4 v ov pv bv op pp tp bp E O i hI hF hO hvi=>by
  have hfair:=qkM (l.getD i noT).text;refine k_stmB w0 hm ha l hl hsh dd hd32 hd0 (k_body w0 hm ha l hl hsh dd hd32 hd0 (hli hd32)) B kp ks k4 qeR v (O++[(Qg (l.getD i noT).text).2]) O _ _ i _ _ (hF.snoc _) (by rw[Jb,JF];exact hO) (by rw[BQ,List.getLast?_concat];rfl) hfair.1.1 hfair.1.2 (fun f hf=>StR.bad (by omega) hf) ov pv bv op pp tp bp E H hI fun H ov pv bv op pp tp bp E c cl j hI hij hR=>?_;exact k_stmC w0 hm ha l hl hsh dd hd32 B kp ks k4 v O _ _ i hF hO hvi rfl H ov pv bv op pp tp bp E c cl j hI hij hR
theorem k_all(w0:World)(hm:MaxL w0)(ha:Asp w0)(l:List TokC)(hl:l.length<=65537)(hsh:Short l):∀n dd:Nat,dd+n=33->0<dd->qnd w0 l dd
 |0,dd,hn,h0=>k_list w0 hm l hl hsh dd (by omega) (k_stm w0 hm ha l hl hsh dd (by omega) h0 fun h=>by omega)
 |n+1,dd,hn,h0=>k_list w0 hm l hl hsh dd (by omega) (k_stm w0 hm ha l hl hsh dd (by omega) h0 fun _=>k_all w0 hm ha l hl hsh n (dd+1) (by omega) (by omega))
theorem c_list(w0:World)(hm:MaxL w0)(ha:Asp w0)(l:List TokC)(hl:l.length<=65537)(hsh:Short l):qnd w0 l 1:=k_all w0 hm ha l hl hsh 32 1 (by omega) (by omega)
end Go.Proofs.YtgiadjbiimkbiaaGreatDoor
namespace Go.AM
section
variable {P:Program}
theorem Leaves.mono{fn:Func}{tmps:Array Value}{R R':Ending->World->Prop}(hr:∀e w,R e w->R' e w):∀{ds:List Deferred} {u:FrameMode} {w:World},Leaves P fn tmps R ds u w->Leaves P fn tmps R' ds u w
 |[], .returning,w,⟨v,h1,h2⟩=>⟨v,h1,hr _ _ h2⟩
 |[], .panicking ch,w,h=>hr _ _ h
 |[], .run,w,h=>h
 |d::ds,u,w,⟨hu,fv,cap,f,args,h1,h2,h3⟩=>⟨hu,fv,cap,f,args,h1,h2,h3.mono fun e u' w' q=>by
   cases e with
   |returned v=>exact Leaves.mono hr q
   |panicked ch=>exact Leaves.mono hr q
   |outgrown=>exact hr _ _ q⟩
theorem qlg{fn:Func}{R R':Ending->World->Prop}(hr:∀e w,R e w->R' e w){e:Exit}{a:Act}{w:World}(h:bodyPostD P fn R e a w):bodyPostD P fn R' e a w:=by
 cases e<;>simp only[bodyPostD]at h|- <;>first
  |exact h.elim
  |exact Leaves.mono hr h
  |exact hr _ _ h
end
def RetR(w0:World)(R:AVal->AHeap->Prop)(Ps:PMap):Ending->World->Prop:=fun e w'=>∃v,e= .returned v/\∃χ x h',Ps.le χ/\HRel w0 χ h' w'/\VR χ x v/\R x h'
theorem RetR.up{w0:World}{R:AVal->AHeap->Prop}{fi Ps:PMap}(hl:fi.le Ps){e:Ending}{w:World}(h:RetR w0 R Ps e w):RetR w0 R fi e w:=by
 obtain⟨v,h1,χ,x,h',h2,h3⟩:=h;exact⟨v,h1,χ,x,h',JP hl h2,h3⟩
def GC(P:Program)(w0:World)(fn:Func)(R:AVal->AHeap->Prop):Exit->PMap->Act->World->Prop:=fun e Ps a w=>bodyPostD P fn (RetR w0 R Ps) e a w
theorem qtk{P:Program}{w0:World}{f:FuncId}{args:List AVal}{h:AHeap}{R:AVal->AHeap->Prop}{fn:Func}{c:Code}{rs:List ResultVar}{k:Nat}(hf:P.funcs[f]?=some fn)
 (hname:(fn.name== "runtime.NumGoroutine")=false) (hb:fn.body=some c) (hn:fn.ntmps=k) (hrs:fn.results=rs.toArray) (hargs:args.length<=k)
 (hc:Awp P w0 ⟨k,[],GC P w0 fn R⟩ c (fun _ _ _=>False) (qU 0 args) h):ACall P w0 f args h R:=by
 intro fi vals w hr hv;refine .inl ⟨fn,hf,hname,by rw[hb];rfl,?_⟩;have hl:=Xw hv;refine calls_of_wp_defers hf hb (wp_mono (hc fi _ w hr ⟨?_,rfl,fun i=>?_⟩) fun e a' w' q=>?_)
 ·simp[hn]
  omega
 ·have:=(qbw fi args vals 0 i hv).2 undef (Jq i)
  by_cases hi:i<vals.length
  ·have e:(vals.toArray++Ju (fn.ntmps-vals.toArray.size) undef).getD i undef=vals.getD i undef:=by
    simp[Ku,Jv,hi,Ko]
   rw[e];simpa using this
  ·have e:(vals.toArray++Ju (fn.ntmps-vals.toArray.size) undef).getD i undef=undef:=by
    simp[Ku,Jv,hi,V8];split<;>simp
   rw[e];have e2:vals.getD (i-0) undef=undef:=by simp[Ko,Kr (Kt hi)]
   rw[e2]at this;exact this
 ·rcases q with⟨_,_,_,_,_,_,q⟩|⟨_,Ps,hl1,q⟩
  ·exact q.elim
  ·exact qlg (fun e w q=>q.up hl1) q
def dOf(f:FuncId)(vs:List Value):Deferred:={target:= .fn (.func f) vs.toArray,args:= #[]}
def retQ(P1:Slots->AHeap->Prop):Exit->Slots->AHeap->Prop
 | .ret,s,h=>P1 s h
 |_,_,_=>False
theorem qtc{P:Program}{w0:World}{k id:Nat}{l pre:List Oper}{x:Operand}{ts:Array TypeId}{ty:TypeId}{pos:String}{af:Array Edge}{rest:Code}{s s₀:Slots}{h:AHeap}{fn:Func}{R Rp:AVal->AHeap->Prop}{P1:Slots->AHeap->Prop}{f:FuncId}{cap:List AVal}
 (hl:l=pre++[⟨none, .defer ⟨.value x,#[],ts⟩,ty,pos,af,none⟩]) (hd:Qo k l=true)
 (hc:Ql P w0 l pre s h (fun s' h'=>ev s' x= .func f cap/\∀d,Awp P w0 ⟨k,[d],GP w0 k [d] s₀ Rp⟩ rest (retQ P1) s' h'))
 (hret:∀(Ps:PMap) (vs:List Value) (s':Slots) (h':AHeap) (a:Act) (w:World) (G:Exit->PMap->Act->World->Prop),VRs Ps cap vs->HRel w0 Ps h' w->SRel Ps ⟨k,[dOf f vs],G⟩ s' a->P1 s' h'->Leaves P fn a.tmps (RetR w0 R Ps) [dOf f vs] .returning w)
 (hpan:∀(Ps:PMap) (vs:List Value) (v:Value) (y:AVal) (h':AHeap) (a:Act) (w:World) (G:Exit->PMap->Act->World->Prop),VRs Ps cap vs->HRel w0 Ps h' w->VR Ps y v->Rp y h'->SRel Ps ⟨k,[dOf f vs],G⟩ s₀ a->Leaves P fn a.tmps (RetR w0 R Ps) [dOf f vs] (.panicking [{v,recovered:=false}]) w):
 Awp P w0 ⟨k,[],GC P w0 fn R⟩ (.seq (.region id l.toArray false) rest) (fun _ _ _=>False) s h:=by
 have hdp:Qo k pre=true:=by
  have:∀(p q:List Oper),Qo k (p++q)=true->Qo k p=true:=by
   intro p q hp;induction p with
   |nil=>rfl
   |cons o p ih=>
    simp only[Ky,Kh,Qo]at hp|-
    exact⟨hp.1,ih hp.2⟩
  exact this pre _ (hl ▸ hd)
 intro fi a w hr hs;refine wp_seq (wp_region ?_);rw[KC,V9];have hlen:l.length=pre.length+1:=by rw[hl];simp
 rw[hlen,List.range'_concat];refine qdS (P:=P) (w0:=w0) l ⟨k,[],GC P w0 fn R⟩ _ hd pre 0 fi s h a w _ _ (fun j hj=>by rw[hl,Jp,Bb hj]) hdp hc hr hs ?_;intro Ps s' h' a' w' hle hr' hs' ⟨em,hk⟩;have hat:l.toArray[0+1*pre.length]?=some ⟨none, .defer ⟨.value x,#[],ts⟩,ty,pos,af,none⟩:=by
  rw[Jp,Nat.one_mul,hl];simp
 simp only[wpOps,hat];rw[if_pos (by simp[Region.wanted])];refine .inl ?_;have hvx:=hs'.ev x;rw[em]at hvx;simp only[VR]at hvx;obtain⟨vs,hfe,hcap⟩:=hvx;have hx:(execOp a'.eval ⟨none, .defer ⟨.value x,#[],ts⟩,ty,pos,af,none⟩).run P w'= .ok (.defer (dOf f vs)) w':=by
  simp[execOp,resolve,hfe,Deferred.ofValue,dOf]
 simp only[Oper.wp,hx,Oper.upon_defer,Act.put,Exit.then];refine wp_mono (hk (dOf f vs) Ps _ w' hr' ⟨hs'.size,by rw[hs'.defers],hs'.val⟩) fun e a'' w'' q=>?_;rcases q with⟨χ,s'',h'',e1,e2,e3,e4⟩|⟨ha,χ,e1,q⟩
 ·cases e<;>simp only[retQ]at e4<;>first
   |exact e4.elim
   |skip
  refine .inr ⟨trivial,χ,JP hle e1,?_⟩;have:=hret χ vs s'' h'' a'' w'' _ (qaV e1 _ _ hcap) e2 e3 e4;simp only[GC,bodyPostD];rw[e3.defers];exact this
 ·obtain⟨v,rfl,χ2,y,h2,g1,g2,g3,g4,g5⟩:=q
  refine .inr ⟨trivial,χ,JP hle e1,?_⟩;have:=hpan χ2 vs v y h2 a'' w'' (fun _ _ _ _=>False) (qaV (JP e1 g1) _ _ hcap) g2 g3 g4 g5;simp only[GC,bodyPostD];rw[g5.defers];exact Leaves.mono (fun e w q=>q.up g1) this
section
variable {P:Program} {w0:World} {n:FrameK} {s:Slots} {h:AHeap} {Q:Exit->Slots->AHeap->Prop}
theorem awp_ta{id d:Nat}{l pre post:List Oper}{x:Operand}{t ti:TypeId}{ty:TypeId}{pos:String}{af:Array Edge}
 (hl:l=pre++⟨some d, .typeAssert x t ti true,ty,pos,af,none⟩::post) (hd:Qo n l=true) (hta:∀(y:Value) (w:World),(Instr.typeAssert (.iface ti y) t ti true).run P w= .ok (.tuple #[y, .bool true]) w)
 (hc:Ql P w0 l pre s h (fun s' h'=>∃y,ev s' x= .iface ti y/\Ql P w0 l post (putD s' (some d) (.tuple [y, .bool true])) h' (fun s'' h''=>Q .normal s'' h''))):
 Awp P w0 n (.region id l.toArray false) Q s h:=by
 have happ:∀(p q:List Oper),Qo n (p++q)=true->Qo n p=true/\Qo n q=true:=by
  intro p q hp;induction p with
  |nil=>exact⟨rfl,hp⟩
  |cons o p ih=>
   simp only[Ky,Kh,Qo]at hp|-
   exact⟨⟨hp.1,(ih hp.2).1⟩,(ih hp.2).2⟩
 have h1:=happ pre _ (hl ▸ hd);have hdx:d<n.sz/\Qo n post=true:=by
  have:=h1.2;simp only[Us,Qo]at this;exact this
 intro fi a w hr hs;refine wp_region ?_;rw[KC,V9];have hlen:l.length=pre.length+(post.length+1):=by rw[hl];simp
 rw[hlen,<-Ba];refine qdS (P:=P) (w0:=w0) l n _ hd pre 0 fi s h a w _ _ (fun j hj=>by rw[hl,Jp,Bb hj]) h1.1 hc hr hs ?_;intro Ps s' h' a' w' hle hr' hs' ⟨y,hy,hk⟩;have hat:l.toArray[0+pre.length]?=some ⟨some d, .typeAssert x t ti true,ty,pos,af,none⟩:=by
  rw[Jp,hl];simp
 rw[Bc];simp only[wpOps,hat];rw[if_pos (by simp[Region.wanted])];refine .inl ?_;have hyv:=hs'.ev x;rw[hy]at hyv;simp only[VR]at hyv;obtain⟨yv,hye,hyy⟩:=hyv;have hx:(execOp a'.eval ⟨some d, .typeAssert x t ti true,ty,pos,af,none⟩).run P w'= .ok (.value (.tuple #[yv, .bool true])) w':=by
  simp[execOp,hye,hta]
 simp only[Oper.wp,hx,Oper.upon_value];have hs2:=hs'.put d hdx.1 (x:= .tuple [y, .bool true]) (v:= .tuple #[yv, .bool true]) (by simp only[VR,VRs];exact⟨_,rfl,_,_,rfl,hyy,_,_,rfl,rfl,rfl⟩);have:=qdS (P:=P) (w0:=w0) l n [] hd post (0+pre.length+1) Ps _ h' _ w' _ (AQ w0 n fi Q) (fun j hj=>by
  rw[hl,Jp,BN (by omega),show pre.length+1+j-pre.length=j+1 by omega];rfl) hdx.2 hk hr' hs2 (fun χ s'' h'' a'' w'' e1 e2 e3 e4=> .inl ⟨χ,s'',h'',JP hle e1,e2,e3,e4⟩)
 rwa [JE]at this
theorem qdu{ops:List Oper}{i:Nat}{o:Oper}{fi:PMap}{a:Act}{w:World}{Q:Exit->Act->World->Prop}{K:Act->World->Prop}(ho:ops[i]?=some o)(hg:o.guard=none)(hd:(match o.dst with|some d=>decide (d<n.sz)|none=>true)=true)
 (hp:(pop P w0 h s o.op).pre) (hr:HRel w0 fi h w) (hs:SRel fi n s a) (hK:∀a',SRel fi n (putD s o.dst (pop P w0 h s o.op).val) a'->K a' w):wpOp P ops.toArray Q i K a w:=by
 obtain⟨r,h1,h2⟩:=qid o hp hr hs;have hx:=h1 w (Same.refl w);have ho':ops.toArray[i]?=some o:=by simpa using ho
 unfold wpOp;simp only[ho'];rw[if_pos (by simp[Region.wanted,hg])];refine .inl ?_;unfold Oper.wp;rw[hx,Oper.upon_value];exact hK _ (hs.putD hd h2)
end
end Go.AM
namespace Go.Proofs.YtgiadjbiimkbiaaGreatDoor
open Go.AM
open Go.Proofs
open Go.Col (Str FaultC okF)
open Go.Tok (TokC)
open Go.Stm
open Go.RowKit (Below)
set_option maxRecDepth 100000
theorem qsR(p q:Addr)(w:World):CallsD Tryz.prog 28 #[.pointer (some p), .pointer (some q)] .returning w fun e u' w'=>e= .returned (.tuple #[])/\u'= .returning/\w'=w:=by
 refine callsD_of_wpS Tryz.func28 rfl fun c₀ cs hu=>?_;apply wpS_seq;apply wpS_region;simp[wpOpsS,go_sem,recoverD,hu,Tryz.ntmps28,Exit.thenS];apply wpS_seq;apply wpS_region;simp[wpOpsS,go_sem,Exit.thenS];refine wpS_cond (t:=false) (by simp[Act.eval,Ju]) ?_;simp only[if_false,KV];refine wpS_of_wp (wp_skip ?_);cases c₀
 simp_all [bodyPostS,results,Tryz.results28]
def ClosR(B:AHeap)(k2 k3:Nat)(f:FaultC):AVal->AHeap->Prop:=fun r h'=>r= .tuple []/\h' k2=some ⟨[.nilSlice],0⟩/\h' k3=some ⟨[.int .i64 f.e, .int .i64 f.line, .int .i64 f.col],0⟩/\Sub B h'
theorem l_clos(w0:World)(H B:AHeap)(k2 k3:Nat)(hB:Sub B H)(hB2:B k2=none)(hB3:B k3=none)(b2 b3:AVal)(y1 y2 y3:AVal)(f:FaultC)(eb_2:H k2=some ⟨[b2],0⟩)(eb_3:H k3=some ⟨[y1,y2,y3],0⟩)(ne_2_3:k2≠k3):
 Awp Tryz.prog w0 11 (Wv 1 (qbV Tryz.f28)) (qcU Tryz.prog w0 [] (ClosR B k2 k3 f)) [(0, .ptr (.own k2) 0),(1, .ptr (.own k3) 0),(2, .iface 48 (faultV f))] (H):=by
 have hs_H:Sub H H:=Vi _;change Awp _ _ _ (Code.seq _ _) _ _ _;refine awp_rseq [0,1,2,5] (by rfl) fun K hK=>?_;simp+decide only[Qe,Za,cond_true,↓qc,↓qd,qsu,qrV Tryz.underlying20,faultV];apply hK;clear hK K;refine qz (b:=_) rfl (fun hb1=>?_) (fun hb1=>?_)
 ·try simp only[qG]at hb1
  refine awp_rseq [1,2] (by rfl) fun K hK=>?_;refine qN (by rfl) (by rfl) zqA sz45 (by rfl) (by rfl) zqD (Jq _) (by rfl) ?_;simp only[QT];simp+decide only[qV];apply hK;clear hK K;refine awp_ta (qhH (i:=1) (by rfl)) (by rfl) (fun y w=>?_) ?_
  ·simp[Instr.typeAssert,qM Tryz.underlying48]
  simp only[Ki,Bh,Vr,Vn];simp+decide only[QI,Zr,UL,true_and,QB,Slots.keep,VX,Kn,qcE,QF,QR,↓qc,↓Xa];refine⟨_,rfl,?_⟩;refine⟨(by show(0:Nat)<2;decide),(by show(1:Nat)<2;decide),?_⟩;refine qN (v:= .agg [.int .i64 f.e, .int .i64 f.line, .int .i64 f.col]) (by rfl) (by rfl) ((Vg _ _ ne_2_3.symm).trans eb_3) qaZ (by rfl) (by rfl) (by simp only[BL,QF];omega) (Jq _) (by rfl) ?_;simp only[QT,Nat.reduceAdd];rw[QB];exact⟨qC,_,Vi _,rfl,(Vg _ _ ne_2_3).trans (Vh _ _ _),Vh _ _ _,(hB.off hB2 _).off hB3 _⟩
 ·cases hb1
theorem catch_bad(w0:World)(fi:PMap)(w:World)(H B:AHeap)(k2 k3:Nat)(hB:Sub B H)(hB2:B k2=none)(hB3:B k3=none)(b2 b3:AVal)(y1 y2 y3:AVal)(f:FaultC)(p2 p3 vf:Value)(eb_2:H k2=some ⟨[b2],0⟩)(eb_3:H k3=some ⟨[y1,y2,y3],0⟩)(ne_2_3:k2≠k3)(hr:HRel w0 fi H w)
 (h2:VR fi (.ptr (.own k2) 0) p2) (h3:VR fi (.ptr (.own k3) 0) p3) (hf:VR fi (.iface 48 (faultV f)) vf):
 CallsD Tryz.prog 28 #[p2,p3] (.panicking [{v:=vf,recovered:=false}]) w fun e u' w'=>∃r,e= .returned r/\u'= .panicking [{v:=vf,recovered:=true}]/\∃Ps h',fi.le Ps/\HRel w0 Ps h' w'/\h' k2=some ⟨[.nilSlice],0⟩/\h' k3=some ⟨[.int .i64 f.e, .int .i64 f.line, .int .i64 f.col],0⟩/\Sub B h':=by
 refine callsD_of_wpS Tryz.func28 rfl fun c₀ cs hu=>?_;apply wpS_seq;apply wpS_region;simp[wpOpsS,go_sem,recoverD,hu,Tryz.ntmps28,Exit.thenS];have hl:=l_clos w0 H B k2 k3 hB hB2 hB3 b2 b3 y1 y2 y3 f eb_2 eb_3 ne_2_3 fi;refine wpS_of_wp (wp_mono (hl _ w hr ⟨?_,?_,fun i=>?_⟩) fun e a' w' q=>?_)
 ·simp;rfl
 ·rfl
 ·match i with
  |0=>exact h2
  |1=>exact h3
  |2=>exact hf
  |i+3=>
   have:VZ [(0,AVal.ptr (.own k2) 0),(1, .ptr (.own k3) 0),(2, .iface 48 (faultV f))] (i+3)= .dead:=by simp[VZ]
   rw[this];simp[VR]
 ·rcases q with⟨Ps,s',h',e1,e2,e3,e4⟩|⟨_,_,_,q⟩
  ·cases e<;>simp only[qcU]at e4<;>first
    |exact e4.elim
    |skip
   all_goals
    obtain⟨hp,h'',hsub,-,g2,g3,g4⟩:=e4;simp only[bodyPostS];refine⟨e3.defers, .panicking [{v:=vf,recovered:=true}],rfl, .tuple #[],?_,⟨_,rfl⟩,rfl,Ps,e1,h'',e2.forget hsub,g2,g3,g4⟩;simp[results,Tryz.results28]
  ·exact q.elim
end Go.Proofs.YtgiadjbiimkbiaaGreatDoor
namespace Go.AM
theorem flat_nil{es:Nat}(hes:es≠0){xs:List (List AVal)}(hw:∀x∈xs,x.length=es)(h:xs.flatten=[]):xs=[]:=by
 have:=Xu hw;rw[h,JD]at this;rcases BD.1 this.symm with e|e
 ·exact Kg e
 ·exact absurd e hes
section
variable {P:Program} {w0:World} {ops rest:List Oper} {s:Slots} {H:AHeap} {K:Slots->AHeap->Prop} {dst:Option Tmp} {ty:TypeId} {pos:String} {af:Array Edge} {ts:Array TypeId} {t u e:TypeId} {d:TypeDesc} {x y:Operand} {v v':AVal} {p:AHeap} {es by' i:Nat} {z:Value} {xs ys:List (List AVal)} {ps:List AHeap}
theorem Zu(h0:ts[0]?=some t)(h1:ts[1]?=some u)(ht:P.underlying t=some (.slice e))(hu:P.underlying u=some d)(hd:∀k,d≠ .int k)
 (hs:ZI P e=some es) (hb:qcV P e=some by') (hz:Ud P e=some z) (hzs:z.cells.size=es) (hes:es≠0)
 (hx:ev s x=v) (hg:GrowV es v p xs) (hG:isG v=true) (hi:ps[i]?=some p) (hS:Sep ps H) (hy:ev s y=v') (hv':IsL w0 H es v' ys) (hsc:Qt ys.flatten=true)
 (hl:(xs.length+ys.length)*by'<=140737488355328) (hl':xs.length+ys.length<4611686018427387904)
 (hkk:∀u p' H',GrowV es u p' (xs++ys)->isG u=true->Sep (ps.set i p') H'->Ql P w0 ops rest (putD s dst u) H' K):
 Ql P w0 ops (⟨dst, .call ⟨.builtin .append,[x,y].toArray,ts⟩,ty,pos,af,none⟩::rest) s H K:=by
 have hw:∀x∈xs++ys,x.length=es:=fun x hx=>by
  rcases JV.1 hx with h|h
  ·exact hg.wide x h
  ·exact hv'.wide x h
 have hal:allLive (xs++ys).flatten=true:=by rw[Bp,Ya,(hg.isL (w0:=w0) (hS.in_ hi)).allLive,hv'.allLive];rfl
 have fin:∀(h₀:AHeap) (b':Option Buf) (h':AHeap),(∀j q,j≠i->ps[j]?=some q->Sub q h₀)->qjo h₀ es b'->qjw b'=(xs++ys).flatten->Sub (qga h₀ b') h'->Ql P w0 ops rest (putD s dst (qfZ es b')) h' K:=by
  intro h₀ b' h' hq o1 o2 o3;cases b' with
  |none=>
   have e0:xs++ys=[]:=flat_nil hes hw o2.symm;refine hkk _ emp h' (.inl ⟨rfl,rfl,e0⟩) rfl (hS.turn (fun j c hj=>by cases hj) fun j q hj hjq=>⟨(hq j q hj hjq).trans o3,(qpC q).symm⟩)
  |some b=>
   obtain⟨kb,cells⟩:=b;obtain⟨n1,n2,n3⟩:=o1;have hcl:cells=(xs++ys).flatten:=o2;subst hcl;have hlen2:(xs++ys).flatten.length / es=(xs++ys).length:=by rw[Xu hw,Vm _ (Vl hes)]
   simp only[qfZ,hlen2];refine hkk _ (one kb ⟨(xs++ys).flatten,0⟩) h' (GrowV.new rfl (.inr rfl) hw hal rfl) rfl (hS.turn (fun j c hj=>by obtain⟨rfl,rfl⟩:=qii hj;exact o3 _ _ (Vh _ _ _)) fun j q hj hjq=>?_);have hsub:=hq j q hj hjq;have hqn:q kb=none:=hsub.none n1;refine⟨(Br (hsub.off hqn ⟨(xs++ys).flatten,0⟩) o3),fun x=>?_⟩;by_cases ex:x=kb
   ·subst ex;exact .inr hqn
   ·exact .inl (qkA _ ex)
 rcases hg with⟨rfl,rfl,rfl⟩|⟨k,c,rfl,hc,rfl,hw1,hl1⟩
 ·refine qcn (zs:=[]) (h₀:=H) (b:=none) h0 h1 ht hu hd hs hb hz hzs hes (by rw[hx];rfl) trivial rfl (fun x hx=>by cases hx) (Vi _) hy hv' hsc (by simpa using hl) (by simpa using hl') fun b' h' o1 o2 o3=>?_
  exact fin H b' h' (fun j q _ hq=>hS.in_ hq) o1 (by simpa using o2) o3
 ·have hcg:c= .grow es:=by
   rcases hc with rfl|rfl
   ·cases hG
   ·rfl
  subst hcg;have hk:=hS.at_ hi;have hlen:xs.flatten.length / es=xs.length:=by rw[Xu hw1,Vm _ (Vl hes)]
  refine qcn (zs:=xs) (h₀:=H.del k) (b:=some ⟨k,xs.flatten⟩) h0 h1 ht hu hd hs hb hz hzs hes (by rw[hx];simp only[qfZ,hlen]) ⟨by simp[BA],by simp only;rw[Xu hw1];exact BC _ _,hl1⟩ rfl hw1 ?_ hy hv' hsc hl hl' fun b' h' o1 o2 o3=>?_
  ·intro j d hj
   by_cases e:j=k
   ·subst e
    rw[show qga (H.del j) (some ⟨j,xs.flatten⟩)=(H.del j).set j ⟨xs.flatten,0⟩from rfl,Vh]at hj;rw[<-hj];exact hk
   ·rw[show qga (H.del k) (some ⟨k,xs.flatten⟩)=(H.del k).set k ⟨xs.flatten,0⟩from rfl,Vg _ _ e]at hj
    simpa[BA,e]using hj
  ·refine fin (H.del k) b' h' (fun j q hj hq=>?_) o1 o2 o3
   have hqk:=hS.not hi hq (fun e=>hj e.symm);intro a b hab;have:a≠k:=fun e=>by subst e;rw[hqk]at hab;cases hab
   simpa[BA,this]using hS.in_ hq _ _ hab
end
end Go.AM
