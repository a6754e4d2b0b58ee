/-
  Texts of this proof, joined: SnG, SnH, SnI, BmJ, SnJ, SnK, SnL, SnM, SnN, SoA, SoB, SoC, SoD, SoE, SoF, SoG, SoH, SoI, SoJ, SoK, SoL, SoM, SoN, SoO, SoP.
  Conditions: none.
-/
import Derived.Test.YtgiadjbiimkbiaaGreatDoorBb
import Derived.Laws.EntriesVeiled
import Derived.WalkSmall
import Derived.Recover
set_option linter.unusedSimpArgs false
set_option linter.unnecessarySimpa false
set_option linter.unusedVariables false
open Bool renaming and_eq_true->Ky,false_eq_true->KX,false_or->VJ,true_and->Vz,false_and->VI,not_eq_true'->Jj,or_eq_false_iff->VD,and_eq_false_imp->Bu,and_true->J8,not_eq_true->BP,or_eq_true->JJ,not_eq_false'->VE
open List renaming mem_singleton->V9,mem_cons->KY,mem_cons_of_mem->Jh,mem_append->JX,size_toArray->KC,length_cons->KZ,mem_cons_self->Jg,eq_nil_of_length_eq_zero->Kg,mem_map->JM,getD->Ko,getElem?_eq_none->Kr,cons_append->Kh,range_eq_range'->Be,range'_append_1->Bf,getElem?_append_left->Bg,range'_succ->Bh,getElem?_cons_zero->Kz,getElem?_cons_succ->KM,drop_succ_cons->VU,map_eq_nil_iff->V5,length_map->Jp,drop_zero->Vp,drop_eq_getElem_cons->Ve,any_cons->Bp,getElem?_eq_getElem->JD,getElem_mem->VY,drop_of_length_le->Bq,map_append->JK,map_cons->Ke,find?_cons->Br,append_assoc->Jb,length_append->Jd,append_nil->JG,length_pos_iff->Bv,flatten_append->Vv,length_nil->JF,getElem?_eq_some_iff->Jz,pairwise_iff_getElem->BG,pairwise_append->BH,length_set->BI,getElem_set->BJ,getElem?_set->K5,pairwise_cons->BK,mem_append_left->Vf,flatten_cons->VS,mem_map_of_mem->BL,drop_length->Vd,set_append_right->BM,length_singleton->JH,getElem?_append_right->BN,getLastD_eq_getLast?->BQ,mem_or_eq_of_mem_set->BU,map_set->BV
open Array renaming getD_eq_getD_getElem?->Ku,getElem?_push->Ba,getElem?_eq_some_iff->Bb,replicate->Jw,getElem?_append->Jy,getElem?_replicate->Bd
open Nat renaming le_refl->KL,add_assoc->Kw,eq_zero_or_pos->Bc,le_trans->Vg,add_zero->K8,zero_le->Js,le_of_not_lt->Kt,zero_add->Jr,le_of_ble_eq_true->V7,mul_one->Bo,lt_or_ge->KU,zero_mul->K9,mul_div_cancel->Vo,pos_of_ne_zero->Vn,mul_mod_left->BD,mul_eq_zero->BF,le_of_lt->BS,succ_mul->VT
open Go.AM.PMap renaming le_trans->JR
open Go.AM.AHeap renaming set_none->Bi,ne_some->Bl,set_set->Bn,set_ne->Vi,set_same->Vj,del->BC
open Go.AM.Sub renaming none->Bj,set->Vl,refl->Vk,trans->Bt
open Int renaming toNat_natCast->Vw,toNat_zero->Bz
open Go.AM.Slots renaming put->V8
open Go.AM.IsL renaming own->BA
open Go.AM.Awp renaming forget->BO,keep->JU
open Go.Stm.BodyR renaming bare->BR
namespace Go.Proofs.YtgiadjbiimkbiaaGreatDoor
open Go.AM
open Go.Proofs
open Go.Col (Str FaultC okF)
open Go.Tok (TokC)
open Go.Stm
open Go.RowKit
open Go.Shelf
set_option maxRecDepth 100000
attribute [local go_sem] Oper.semAt_some
theorem qfd{P:Program}{f:FuncId}{args:List AVal}{vals:List Value}{w:World}{V:AVal}{val:Value}(hv:VRs (fun _=>none) args vals)(hc:ACall P w f args (fun _=>none) (fun x h'=>x=V/\h'=fun _=>none))
 (hV:∀Ps v,VR Ps V v->v=val) (hcalls:∃fn,P.funcs[f]?=some fn/\fn.body.isSome=true):Calls P f vals.toArray w fun e w'=>e= .returned val/\Below w.heap.size w w':=by
 rcases hc _ vals w (HRel.start w) hv with⟨fn,_,_,_,h4⟩|⟨v,w',h1,_⟩
 ·refine h4.mono fun e w' ⟨v,he,Ps,x,h',e1,e2,e3,e4,e5⟩=>?_
  subst he e4;exact⟨by rw[hV Ps v e3],e2.below⟩
 ·exfalso
  obtain⟨fn,g1,g2⟩:=hcalls;have hb:¬fn.body=none:=fun e=>by rw[e]at g2;cases g2
  simp only[callFunc,Sem.run_bind,run_program,Result.andThen_ok,g1]at h1;split at h1
  ·simp at h1
  ·simp[hb]at h1
theorem rd_below{w W:World}(hb:Below w.heap.size w W)(h:AHeap){l:AM.Loc}{o:Nat}(hl:(rd w (fun _=>none) l o).live=true):rd W h l o=rd w (fun _=>none) l o:=by
 cases l with
 |own k=>simp[AM.rd,AVal.live]at hl
 |base b=>
  simp only[AM.rd]at hl|-
  by_cases hlt:b<w.heap.size
  ·have h2:b<W.heap.size:=Nat.lt_of_lt_of_le hlt hb.size
   simp only[if_true,hlt,h2];rw[hb.cell (p:=⟨b,o,none⟩) hlt]
  ·simp[hlt,AVal.live]at hl
theorem qkl{w W:World}(hb:Below w.heap.size w W)(h:AHeap){l:AM.Loc}:∀(n o:Nat),allLive (cellsAt w (fun _=>none) l o n)=true->cellsAt W h l o n=cellsAt w (fun _=>none) l o n
 |0,_,_=>rfl
 |n+1,o,hl=>by
  simp only[cellsAt,allLive,Ky]at hl|-
  rw[rd_below hb h hl.1,qkl hb h n _ hl.2]
theorem qnG{w W:World}(hb:Below w.heap.size w W){es:Nat}{v:AVal}{xs:List (List AVal)}(hv:IsL w (fun _=>none) es v xs)(h:AHeap):IsL W h es v xs:=by
 cases hv with
 |nil=>exact .nil
 |mk l o n c xs hn hw hc hl hcap=>exact .mk l o n c xs hn hw ((qkl hb h _ _ (by rw[hc];exact hl)).trans hc) hl hcap
structure PAt(w:World)(bp op:Nat)(vl:Value)(at_:Nat)(l:List TokC):Prop where
 c0:w.cell? ⟨bp,op,none⟩=some vl
 c1:w.cell? ⟨bp,op+1,none⟩=some (.int .i64 at_)
 tok:IsL w (fun _=>none) 5 (absS vl) (l.map Zb)
theorem PAt.below{w W:World}{bp op:Nat}{vl:Value}{at_:Nat}{l:List TokC}(hp:PAt w bp op vl at_ l)(hb:Below w.heap.size w W):PAt W bp op vl at_ l:=by
 have hlt:bp<w.heap.size:=qgn hp.c0;exact⟨(hb.cell (p:=⟨bp,op,none⟩) hlt).trans hp.c0,(hb.cell (p:=⟨bp,op+1,none⟩) hlt).trans hp.c1,qnG hb hp.tok _⟩
theorem qkG{w:World}{b o:Nat}{v:Value}(hc:w.cell? ⟨b,o,none⟩=some v)(h:AHeap):rd w h (.base b) o=absS v:=by
 simp only[if_true,AM.rd,qgn hc,hc]
theorem k_fits(w:World)(ha:Asp w)(bq bp op:Nat)(vl:Value)(at_:Nat)(l:List TokC)(hP:PAt w bp op vl at_ l)(hq:w.cell? ⟨bq,0,none⟩=some (.pointer (some ⟨bp,op,none⟩)))(form:Str)(hl:l.length<=1000000)(hat:at_<=l.length)(hf:form.length<=1000000)(hfa:asciiB form=true):
 Calls Tryz.prog 97 #[.string ⟨⟨form⟩⟩, .pointer (some ⟨bq,0,none⟩)] w fun e w'=>e= .returned (.int .i64 (UE l at_ form))/\Below w.heap.size w w':=
 qfd (args:=[.str form, .ptr (.base bq) 0]) (vals:=[.string ⟨⟨form⟩⟩, .pointer (some ⟨bq,0,none⟩)]) (V:= .int .i64 (UE l at_ form)) (by simp only[VRs,VR,Xf];exact⟨_,_,rfl,rfl,_,_,rfl,⟨_,rfl,rfl⟩,rfl⟩)
  (c_fits w ha _ bq 0 bp op (absS vl) l at_ form (fun h=>qkG hq h) (fun h=>qkG hP.c0 h) (fun h=>qkG hP.c1 h) (fun h=>qnG (Below.refl _ _) hP.tok h) hl hat hf hfa) (fun Ps v hv=>hv) ⟨_,Tryz.func97,rfl⟩
theorem k_canon(w:World)(ha:Asp w)(form:Str)(hf:form.length<=1000000)(hfa:asciiB form=true):
 Calls Tryz.prog 99 #[.string ⟨⟨form⟩⟩] w fun e w'=>e= .returned (.string ⟨⟨qbj form⟩⟩)/\Below w.heap.size w w':=
 qfd (args:=[.str form]) (vals:=[.string ⟨⟨form⟩⟩]) (V:= .str (qbj form)) (by simp only[VRs,VR];exact⟨_,_,rfl,rfl,rfl⟩) (c_canon w ha _ form hf hfa) (fun Ps v hv=>hv) ⟨_,Tryz.func99,rfl⟩
theorem qlp{s:Str}:∀p∈qaW s,p.length<=s.length/\∀b∈p,b∈s:=by
 have go:∀(s acc:Str),∀p∈Xd 59 acc s,p.length<=acc.length+s.length/\∀b∈p,b∈acc\/b∈s:=by
  intro s;induction s with
  |nil=>
   intro acc p hp;simp only[Xd,V9]at hp;subst hp;exact⟨by simp,fun b hb=> .inl hb⟩
  |cons c s ih=>
   intro acc p hp;rw[Xd]at hp;split at hp
   ·rcases KY.1 hp with q|q
    ·subst q;exact⟨by simp,fun b hb=> .inl hb⟩
    ·obtain⟨h1,h2⟩:=ih [] p q
     refine⟨by simp only[Xo]at h1|-;omega,fun b hb=>?_⟩;rcases h2 b hb with z|z
     ·cases z
     ·exact .inr (Jh _ z)
   ·obtain⟨h1,h2⟩:=ih _ p hp
    refine⟨by simp only[Zd]at h1|-;omega,fun b hb=>?_⟩;rcases h2 b hb with z|z
    ·rcases JX.1 z with y|y
     ·exact .inl y
     ·rw[V9.1 y];exact .inr (by simp)
    ·exact .inr (Jh _ z)
 intro p hp;obtain⟨h1,h2⟩:=go s [] p hp;exact⟨by simpa using h1,fun b hb=>(h2 b hb).resolve_left (by simp)⟩
theorem qpR{s:Str}(h:asciiB s=true):∀p∈qaW s,asciiB p=true:=fun p hp=>by
 unfold asciiB at h|-
 rw[List.all_eq_true]at h|-
 exact fun b hb=>h b ((qlp p hp).2 b hb)
attribute [local go_sem] Oper.semAt_some
structure SpJ(W0:World)(bS:Nat)(rec:LoopState->Option Code->Loop)(r:Str)(W:World):Prop where
 os:W.os=W0.os
 tape:W.tape=W0.tape
 output:W.output=W0.output
 size:W0.heap.size+2<=W.heap.size
 block:∀k,k<W0.heap.size->k≠bS->W.heap[k]?=W0.heap[k]?
 cell:W.heap[bS]?=some (.cells #[.string ⟨⟨r⟩⟩] 9 (0,0))
 recd:W.heap[W0.heap.size+1]?=some (.loop (rec .ready none))
 dfr:W.heap[W0.heap.size]?=some (.deferred (some []))
theorem heap_setCell_same(W:World)(b:Nat)(c v:Value)(t:TypeId)(h:W.heap[b]?=some (.cells #[c] t (0,0))):(W.setCell ⟨b,0,none⟩ v).heap[b]?=some (.cells #[v] t (0,0)):=by
 simp only[if_true,World.setCell,Array.getElem?_modify,h];rfl
theorem cell_of_one{W:World}{b:Nat}{c:Value}{t:TypeId}(h:W.heap[b]?=some (.cells #[c] t (0,0))):W.cell? ⟨b,0,none⟩=some c/\W.frozen? ⟨b,0,none⟩=false:=by
 constructor
 ·simp[World.cell?,h]
 ·simp[World.frozen?,h]
theorem qli{w V:World}{B:Nat}{s:Str}{n:Nat}{T:Array Value}(HB:Hid (B=w.heap.size))(h1:V.heap[B+1]?=some (.cells #[.string ⟨⟨s⟩⟩] 9 (0,0)))(h2:V.heap[B+2]?=some (.cells #[.int .i64 n] 3 (0,0)))
 (hD:V.heap[B+7]?=some (.deferred (some []))) (hB:Below B w V) (t4:T.getD 4 undef= .pointer (some ⟨B+1,0,none⟩):=by rfl) (t5:T.getD 5 undef= .pointer (some ⟨B+2,0,none⟩):=by rfl):
 bodyPostM Fence.wide 0 Tryz.prog Tryz.f72 (fun e w'=>e= .returned (.tuple #[.string ⟨⟨s⟩⟩, .int .i64 n])/\Below w.heap.size w w') .ret {tmps:=T,defers:=[{target:= .collected (B+7),args:= #[]}]} V:=by
 refine⟨by simp, .inl ⟨_,_,rfl,run_takeDeferred hD,?_⟩⟩;obtain⟨c1,-⟩:=cell_of_one ((World.putObj_heap_other (o:= .deferred none) (show B+1≠B+7 by omega)).trans h1);obtain⟨c2,-⟩:=cell_of_one ((World.putObj_heap_other (o:= .deferred none) (show B+2≠B+7 by omega)).trans h2);have hB':=HB.out;refine⟨.tuple #[.string ⟨⟨s⟩⟩, .int .i64 n],?_,rfl,?_⟩
 ·rw[Ku]at t4 t5
  simp[results,Tryz.f72,go_sem,c1,c2,t4,t5]
 ·rw[<-hB']
  exact⟨hB.os,hB.tape,hB.output,by rw[World.putObj_size];exact hB.size,fun k hk=>(World.putObj_heap_other (by omega)).trans (hB.block k hk)⟩
theorem k_stands(w:World)(ha:Asp w)(bp op:Nat)(vl:Value)(at_:Nat)(l:List TokC)(hP:PAt w bp op vl at_ l)(forms:Str)(hl:l.length<=1000000)(hat:at_<=l.length)(hf:forms.length<=1000000)(hfa:asciiB forms=true):
 Calls Tryz.prog 72 #[.pointer (some ⟨bp,op,none⟩), .string ⟨⟨forms⟩⟩] w fun e w'=>e= .returned (.tuple #[.string ⟨⟨(Qs l at_ forms).1⟩⟩, .int .i64 (Qs l at_ forms).2])/\Below w.heap.size w w':=by
 refine(callsIn_wide (n:=0)).1 ?_;refine callsIn_of_wp_marks Tryz.func72 rfl trivial ?_ rfl;simp only[Xo,Xv,Tryz.ntmps72,KC,Nat.reduceAdd,Nat.reduceSub,Array.replicate_succ,Array.replicate_zero,List.push_toArray,List.append_toArray];have hsp:=k_SplitSeq ⟨⟨forms⟩⟩
 gi_wp2_with (refine⟨trivial,rfl,?_⟩;gi_at_call 98;refine(callsIn_wide.2 (hsp _)).mono ?_;rintro e' w' ⟨rfl,hw'⟩;subst hw')
 obtain⟨W0,hW0⟩:∃W0,(((((((w.alloc (Obj.cells #[Value.pointer (some ⟨bp,op,none⟩)] 94)).alloc (Obj.cells #[Value.string ⟨#[]⟩] 9)).alloc (Obj.cells #[Value.int IntKind.i64 0] 3)).alloc
  (Obj.cells #[Value.func (Fn.func 97) #[] #[Value.pointer (some ⟨w.heap.size,0,none⟩)]] 185)).alloc (Obj.cells #[Value.string ⟨⟨forms⟩⟩] 9)).alloc (Obj.cells #[Value.string ⟨#[59]⟩] 9)).alloc (Obj.cells #[Value.int IntKind.i64 0] 3))=W0:=⟨_,rfl⟩
 obtain⟨B,hB⟩:∃B,B=w.heap.size:=⟨_,rfl⟩
 have z:W0.heap.size=B+7/\Below B w W0/\W0.heap[B]?=some (.cells #[.pointer (some ⟨bp,op,none⟩)] 94 (0,0))/\W0.heap[B+1]?=some (.cells #[.string ⟨#[]⟩] 9 (0,0))/\W0.heap[B+2]?=some (.cells #[.int .i64 0] 3 (0,0))/\
  W0.heap[B+3]?=some (.cells #[.func (.func 97) #[] #[.pointer (some ⟨B,0,none⟩)]] 185 (0,0))/\W0.heap[B+4]?=some (.cells #[.string ⟨⟨forms⟩⟩] 9 (0,0))/\W0.heap[B+5]?=some (.cells #[.string ⟨#[59]⟩] 9 (0,0))/\W0.heap[B+6]?=some (.cells #[.int .i64 0] 3 (0,0)):=by
  subst hW0 hB;have hp:∀(A:World) (o:Obj) (k:Nat),(A.alloc o).heap[k]?=if k=A.heap.size then some o else A.heap[k]?:=fun A o k=>by
   show(A.heap.push o)[k]?=_
   rw[Ba]
  refine⟨by simp,?_,?_,?_,?_,?_,?_,?_,?_⟩
  ·repeat (first|exact Below.refl _ _|refine Below.alloc ?_ (by first|exact KL _|(simp only[World.size_alloc];omega)) _)
  all_goals (simp only[hp,World.size_alloc];repeat (first|rfl|rw[if_pos (by omega)]|rw[if_neg (by omega)]))
 rw[hW0];clear hW0 hsp;obtain⟨z0,zb,z1,z2,z3,z4,z5,z6,z7⟩:=z;simp only[<-hB,Kw,Nat.reduceAdd];have HB:Hid (B=w.heap.size):=hB;clear hB;refine wpIn_rangeFunc ?_;intro fn hfn;have eg:∀args w,(callFunc 122 args).run Tryz.prog w= .ok (.enter 122 args) w:=enters_of Tryz.func122 (by kernel_rfl) rfl;generalize hT:(#[Value.pointer (some ⟨bp,op,none⟩),Value.string ⟨⟨forms⟩⟩,Value.pointer (some ⟨B,0,none⟩),undef,Value.pointer (some ⟨B+1,0,none⟩),Value.pointer (some ⟨B+2,0,none⟩),Value.pointer (some ⟨B+3,0,none⟩),undef,undef,
  Value.func (Fn.func 97) #[] #[Value.pointer (some ⟨B,0,none⟩)],Value.string ⟨⟨forms⟩⟩,Value.func (Fn.func 122) #[] #[Value.pointer (some ⟨B+5,0,none⟩),Value.pointer (some ⟨B+4,0,none⟩),Value.pointer (some ⟨B+6,0,none⟩)],
  undef,undef,undef,undef,undef,undef,undef,undef,undef]:Array Value)=T
 generalize hA:Code.region 3 _ false=assign;generalize hC:Code.block 1 _=body;obtain⟨rec,hrec⟩:∃rec:LoopState->Option Code->Loop,rec=fun st pe=>{state:=st,pending:=pe,fn,tmps:=T,params:= #[12],assign,body,defers:=W0.heap.size}:=⟨_,rfl⟩
 obtain⟨W1,hW1⟩:∃W1,(W0.alloc (.deferred (some []))).alloc (.loop (rec .ready none))=W1:=⟨_,rfl⟩
 refine⟨W0.heap.size+1,[{target:= .collected W0.heap.size,args:= #[]}],W1,{target:= .fn (.func 122) #[Value.pointer (some ⟨B+5,0,none⟩),Value.pointer (some ⟨B+4,0,none⟩),Value.pointer (some ⟨B+6,0,none⟩)],args:= #[.func (.yield (W0.heap.size+1)) #[] #[]]},W1,122,
  #[.func (.yield (W0.heap.size+1)) #[] #[],Value.pointer (some ⟨B+5,0,none⟩),Value.pointer (some ⟨B+4,0,none⟩),Value.pointer (some ⟨B+6,0,none⟩)],W1,?_,?_,?_,?_,(fun h=>by simp[Fence.wide]at h),?_⟩
 ·rw[<-hW1,hrec];exact run_enterLoop_outer _ _ _ _ _
 ·subst hT
  simp only[resolve];simp[go_sem]
 ·intro f' hf';trivial
 ·simp[invoke,go_sem,eg]
 have hJ0:SpJ W0 (B+4) rec forms W1:=by
  have hp:∀(A:World) (o:Obj) (k:Nat),(A.alloc o).heap[k]?=if k=A.heap.size then some o else A.heap[k]?:=fun A o k=>by
   show(A.heap.push o)[k]?=_
   rw[Ba]
  subst hW1;refine⟨rfl,rfl,rfl,by simp,fun k hk _=>?_,?_,?_,?_⟩
  ·rw[hp,hp,if_neg (by simp only[World.size_alloc];omega),if_neg (by omega)]
  ·rw[hp,hp,if_neg (by simp only[World.size_alloc];omega),if_neg (by omega)];exact z5
  ·rw[hp,if_pos (by simp only[World.size_alloc])]
  ·rw[hp,hp,if_neg (by simp only[World.size_alloc];omega),if_pos rfl]
 refine(split_in (W0.heap.size+1) (B+4) (B+5) (B+6) (SpJ W0 (B+4) rec) (fun p W=>Below B w W/\W.heap[B+1]?=some (.cells #[.string ⟨⟨qbj p⟩⟩] 9 (0,0))/\W.heap[B+2]?=some (.cells #[.int .i64 (UE l at_ p)] 3 (0,0))/\
  W.heap[W0.heap.size+1]?=some (.loop (rec .done (some .ret)))/\W.heap[W0.heap.size]?=some (.deferred (some []))) (fun p=>decide (0<UE l at_ p)) ?_ ?_ forms hf ?_ W1 hJ0).mono ?_
 ·intro r W hJ
  have g5:=hJ.block (B+5) (by omega) (by omega);have g6:=hJ.block (B+6) (by omega) (by omega);rw[z6]at g5;rw[z7]at g6;exact⟨(cell_of_one hJ.cell).1,(cell_of_one hJ.cell).2,(cell_of_one g5).1,(cell_of_one g6).1⟩
 ·intro r r' W hJ
  refine⟨hJ.os,hJ.tape,hJ.output,by rw[World.size_setCell];exact hJ.size,fun k hk hne=>?_,heap_setCell_same W (B+4) _ _ _ hJ.cell,?_,?_⟩
  ·rw[Below.heap_setCell _ _ _ _ hne];exact hJ.block k hk hne
  ·rw[Below.heap_setCell _ _ _ _ (show W0.heap.size+1≠B+4 by omega)];exact hJ.recd
  ·rw[Below.heap_setCell _ _ _ _ (show W0.heap.size≠B+4 by omega)];exact hJ.dfr
 ·intro r p W hJ hp
  have hpl:=(qlp p hp).1;have hpa:=qpR hfa p hp;have hy:=run_yield (P:=Tryz.prog) (args:= #[.string ⟨⟨p⟩⟩]) hJ.recd (by rw[hrec];rfl);have hyf:(rec .ready none).fn=fn/\(rec .ready none).assign=assign/\(rec .ready none).body=body/\(rec .ready none).state= .ready/\(rec .ready none).tmps=T/\(rec .ready none).params= #[12]:=by rw[hrec];exact⟨rfl,rfl,rfl,rfl,rfl,rfl⟩
  obtain⟨y1,y2,y3,y4,y5,y6⟩:=hyf;rw[y1,y2,y3,y5,y6]at hy;refine⟨fn,_,assign,body,hy,roundIn_of_wpIn trivial ?_⟩;clear hy;subst hA;subst hT
  gi_wp2
  refine⟨_,run_beginRound hJ.recd y4,?_⟩;obtain⟨Wb,hWb⟩:∃Wb,W.putObj (W0.heap.size+1) (.loop {rec .ready none with state:= .busy})=Wb:=⟨_,rfl⟩
  rw[hWb];have hlt:W0.heap.size+1<W.heap.size:=(Bb.1 hJ.recd).1;have u1:Wb.heap[W0.heap.size+1]?=some (.loop {rec .ready none with state:= .busy}):=by rw[<-hWb];exact World.putObj_heap_same hlt
  have u2:∀k,k≠W0.heap.size+1->Wb.heap[k]?=W.heap[k]?:=fun k hk=>by rw[<-hWb];exact World.putObj_heap_other hk
  have u3:∀k,k<B+7->k≠B+4->Wb.heap[k]?=W0.heap[k]?:=fun k hk hne=>by rw[u2 k (by omega)];exact hJ.block k (by omega) hne
  have u4:Wb.heap.size=W.heap.size:=by rw[<-hWb];simp
  have u5:Below B w Wb:=⟨by rw[<-hWb];exact hJ.os.trans zb.os,by rw[<-hWb];exact hJ.tape.trans zb.tape,by rw[<-hWb];exact hJ.output.trans zb.output,by have:=zb.size;have:=hJ.size;omega,fun k hk=>by rw[u3 k (by omega) (by omega)];exact zb.block k hk⟩
  have haW:Asp Wb:=by have hB:=HB.out;subst hB;exact ha.later u5
  have hPW:PAt Wb bp op vl at_ l:=by have hB:=HB.out;subst hB;exact hP.below u5
  have v0:=cell_of_one ((u3 B (by omega) (by omega)).trans z1);have v3:=cell_of_one ((u3 (B+3) (by omega) (by omega)).trans z4);have hft:=k_fits Wb haW B bp op vl at_ l hPW v0.1 p hl hat (by omega) hpa;have HC:Hid (∀A,Asp A->Calls Tryz.prog 99 #[.string ⟨⟨p⟩⟩] A fun e w'=>e= .returned (.string ⟨⟨qbj p⟩⟩)/\Below A.heap.size A w'):=fun A hA=>k_canon A hA p (by omega) hpa;obtain⟨c3,-⟩:=v3;subst hC;have fin:∀(jump:Option Code) (V:World),Below Wb.heap.size Wb V\/(V.heap[W0.heap.size+1]?=Wb.heap[W0.heap.size+1]?/\V.heap[W0.heap.size]?=Wb.heap[W0.heap.size]?)->
   (Instr.endRound (W0.heap.size+1) jump).run Tryz.prog V= .ok (.bool jump.isNone) (V.putObj (W0.heap.size+1) (.loop (rec (if jump.isNone then .ready else .done) jump)))/\
   (V.putObj (W0.heap.size+1) (.loop (rec (if jump.isNone then .ready else .done) jump))).heap[W0.heap.size+1]?=some (.loop (rec (if jump.isNone then .ready else .done) jump))/\
   (V.putObj (W0.heap.size+1) (.loop (rec (if jump.isNone then .ready else .done) jump))).heap[W0.heap.size]?=some (.deferred (some [])):=fun jump V hV=>by
   have hv1:V.heap[W0.heap.size+1]?=some (.loop {rec .ready none with state:= .busy}):=by
    rcases hV with hV|⟨hV,-⟩
    ·rw[hV.block _ (by omega)];exact u1
    ·rw[hV];exact u1
   have hv2:V.heap[W0.heap.size]?=some (.deferred (some [])):=by
    rcases hV with hV|⟨-,hV⟩
    ·rw[hV.block _ (by omega),u2 _ (by omega)];exact hJ.dfr
    ·rw[hV,u2 _ (by omega)];exact hJ.dfr
   have:=run_endRound (P:=Tryz.prog) jump hv1;refine⟨?_,World.putObj_heap_same (Bb.1 hv1).1,(World.putObj_heap_other (by omega)).trans hv2⟩;rw[this,hrec]
  have HF:Hid _:=fin;clear fin;rcases Bc (UE l at_ p)with hz|hz
  ·gi_wp2_with (refine⟨trivial,rfl,?_⟩;gi_at_call 97;refine(CallsIn.inRound _ (callsIn_wide.2 hft)).mono ?_;rintro e' V ⟨rfl,hV⟩)
   obtain⟨f1,f2,f3⟩:=HF.out none V (.inl hV);refine⟨_,_,f1, .inl ⟨by simp[hz],rfl,?_⟩⟩;have g0:∀k,k<Wb.heap.size->k≠W0.heap.size+1->(V.putObj (W0.heap.size+1) (.loop (rec (if (none:Option Code).isNone then .ready else .done) none))).heap[k]?=Wb.heap[k]?:=fun k hk hne=>by
    rw[World.putObj_heap_other hne,hV.block k hk]
   refine⟨?_,?_,?_,?_,fun k hk hne=>?_,?_,f2,f3⟩
   ·show V.os=W0.os;rw[hV.os,<-hWb];exact hJ.os
   ·show V.tape=W0.tape;rw[hV.tape,<-hWb];exact hJ.tape
   ·show V.output=W0.output;rw[hV.output,<-hWb];exact hJ.output
   ·rw[World.putObj_size];have:=hV.size;have:=hJ.size;omega
   ·rw[g0 k (by omega) (by omega)];exact u3 k (by omega) hne
   ·rw[g0 _ (by omega) (by omega),u2 _ (by omega)];exact hJ.cell
  ·have hz':decide (0<UE l at_ p)=true:=by simp[hz]
   have m1:=(u3 (B+1) (by omega) (by omega)).trans z2;have m2:=(u3 (B+2) (by omega) (by omega)).trans z3;have HA:Hid (Asp Wb):=haW;have HZ:Hid (B+7+2<=Wb.heap.size):=by have:=hJ.size;unfold Hid;omega
   clear haW hPW
   gi_wp2_with (refine⟨trivial,rfl,?_⟩;gi_at_call 97;refine(CallsIn.inRound _ (callsIn_wide.2 hft)).mono ?_;rintro e' V ⟨rfl,hV⟩)
   refine⟨trivial,rfl,(CallsIn.inRound _ (callsIn_wide.2 (HC.out V (HA.out.later hV)))).mono ?_⟩;rintro e' V2 ⟨rfl,hV2⟩;have hVV:Below Wb.heap.size Wb V2:=hV.trans (hV2.mono hV.size);have hz2:=HZ.out;have n1:=(hVV.block (B+1) (by omega)).trans m1;have n2:=(hVV.block (B+2) (by omega)).trans m2;obtain⟨n1c,n1f⟩:=cell_of_one n1;obtain⟨n2c,n2f⟩:=cell_of_one n2;clear hz2
   gi_wp2
   obtain⟨V3,hV3⟩:∃V3,(V2.setCell ⟨B+1,0,none⟩ (Value.string ⟨⟨qbj p⟩⟩)).setCell ⟨B+2,0,none⟩ (Value.int .i64 (UE l at_ p))=V3:=⟨_,rfl⟩
   rw[hV3];have hz2:=HZ.out;have q0:∀k,k≠B+1->k≠B+2->k<Wb.heap.size->V3.heap[k]?=Wb.heap[k]?:=fun k k1 k2 k3=>by
    rw[<-hV3,Below.heap_setCell _ _ _ _ k2,Below.heap_setCell _ _ _ _ k1,hVV.block k k3]
   obtain⟨f1,f2,f3⟩:=HF.out (some .ret) V3 (.inr ⟨q0 _ (by omega) (by omega) (by omega),q0 _ (by omega) (by omega) (by omega)⟩);refine⟨_,_,f1, .inr ⟨hz',rfl,?_,?_,?_,f2,f3⟩⟩
   ·refine⟨?_,?_,?_,?_,fun k hk=>?_⟩
    ·show V3.os=w.os;rw[<-hV3];exact hVV.os.trans u5.os
    ·show V3.tape=w.tape;rw[<-hV3];exact hVV.tape.trans u5.tape
    ·show V3.output=w.output;rw[<-hV3];exact hVV.output.trans u5.output
    ·rw[World.putObj_size,<-hV3,World.size_setCell,World.size_setCell];exact Vg u5.size hVV.size
    ·rw[World.putObj_heap_other (by omega),q0 k (by omega) (by omega) (by omega)];exact u5.block k hk
   ·rw[World.putObj_heap_other (by omega),<-hV3,Below.heap_setCell _ _ _ _ (show B+1≠B+2 by omega)]
    exact heap_setCell_same V2 _ _ _ _ n1
   ·rw[World.putObj_heap_other (by omega),<-hV3]
    refine heap_setCell_same _ _ (.int .i64 0) _ _ ?_;rw[Below.heap_setCell _ _ _ _ (show B+2≠B+1 by omega)];exact n2
 ·rintro e W2 ⟨⟨v,rfl⟩,h⟩
  have pend:∀st j,(rec st j).pending=j:=fun st j=>by rw[hrec]
  have stat:∀st j,(rec st j).state=st:=fun st j=>by rw[hrec]
  have out:∀(st:LoopState) (j:Option Code),st≠ .busy->W2.heap[W0.heap.size+1]?=some (.loop (rec st j))->∃V,(Instr.endLoop (W0.heap.size+1)).run Tryz.prog W2= .ok j V/\(∀k,k≠W0.heap.size+1->V.heap[k]?=W2.heap[k]?)/\V.os=W2.os/\V.tape=W2.tape/\V.output=W2.output/\V.heap.size=W2.heap.size:=fun st j hst hl=>by
   refine⟨_,(run_endLoop (P:=Tryz.prog) hl (by rw[stat];exact hst)).trans (by rw[pend]),fun k hk=>World.putObj_heap_other hk,rfl,rfl,rfl,by simp⟩
  clear hrec pend stat hJ0 hW1;subst hT;rcases h with⟨r,hJ,hfd⟩|⟨p,⟨j1,j2,j3,j4,j5⟩,hfd⟩
  ·have hst:Qs l at_ forms=([],0):=by unfold Qs;rw[hfd]
   obtain⟨V,e1,e2,e3,e4,e5,e6⟩:=out .ready none (by simp) hJ.recd;refine⟨none,V,e1,?_⟩;have i1:V.heap[B+1]?=some (.cells #[.string ⟨#[]⟩] 9 (0,0)):=by rw[e2 _ (by omega),hJ.block _ (by omega) (by omega)];exact z2
   have i2:V.heap[B+2]?=some (.cells #[.int .i64 0] 3 (0,0)):=by rw[e2 _ (by omega),hJ.block _ (by omega) (by omega)];exact z3
   have iD:V.heap[W0.heap.size]?=some (.deferred (some [])):=by rw[e2 _ (by omega)];exact hJ.dfr
   have iB:Below B w V:=⟨by rw[e3,hJ.os];exact zb.os,by rw[e4,hJ.tape];exact zb.tape,by rw[e5,hJ.output];exact zb.output,by have:=zb.size;have:=hJ.size;omega,fun k hk=>by rw[e2 k (by omega),hJ.block k (by omega) (by omega)];exact zb.block k hk⟩
   obtain⟨i1c,i1f⟩:=cell_of_one i1;obtain⟨i2c,i2f⟩:=cell_of_one i2;clear out hJ e1 e2 e3 e4 e5 e6
   gi_wp2
   obtain⟨V2,hV2⟩:∃V2,(V.setCell ⟨B+1,0,none⟩ (Value.string ⟨#[]⟩)).setCell ⟨B+2,0,none⟩ (Value.int .i64 0)=V2:=⟨_,rfl⟩
   rw[hV2];have q1:V2.heap[B+1]?=some (.cells #[.string ⟨#[]⟩] 9 (0,0)):=by
    rw[<-hV2,Below.heap_setCell _ _ _ _ (show B+1≠B+2 by omega)];exact heap_setCell_same V _ _ _ _ i1
   have q2:V2.heap[B+2]?=some (.cells #[.int .i64 0] 3 (0,0)):=by
    rw[<-hV2];refine heap_setCell_same _ _ (.int .i64 0) _ _ ?_;rw[Below.heap_setCell _ _ _ _ (show B+2≠B+1 by omega)];exact i2
   have qD:V2.heap[B+7]?=some (.deferred (some [])):=by
    rw[<-hV2,Below.heap_setCell _ _ _ _ (show B+7≠B+2 by omega),Below.heap_setCell _ _ _ _ (show B+7≠B+1 by omega),<-z0];exact iD
   have qB:Below B w V2:=by rw[<-hV2];exact(iB.setCell (p:=⟨B+1,0,none⟩) (by simp) _).setCell (p:=⟨B+2,0,none⟩) (by simp) _
   rw[hst];exact qli HB q1 q2 qD qB
  ·have hst:Qs l at_ forms=(qbj p,UE l at_ p):=by unfold Qs;rw[hfd]
   obtain⟨V,e1,e2,e3,e4,e5,e6⟩:=out .done (some .ret) (by simp) j4;refine⟨some .ret,V,e1,?_⟩;have iD:V.heap[W0.heap.size]?=some (.deferred (some [])):=by rw[e2 _ (by omega)];exact j5
   have iB:Below B w V:=⟨by rw[e3];exact j1.os,by rw[e4];exact j1.tape,by rw[e5];exact j1.output,by rw[e6];exact j1.size,fun k hk=>by rw[e2 k (by omega)];exact j1.block k hk⟩
   have i1:V.heap[B+1]?=some (.cells #[.string ⟨⟨qbj p⟩⟩] 9 (0,0)):=by rw[e2 _ (by omega)];exact j2
   have i2:V.heap[B+2]?=some (.cells #[.int .i64 (UE l at_ p)] 3 (0,0)):=by rw[e2 _ (by omega)];exact j3
   clear out e1 e2 e3 e4 e5 e6
   gi_wp2
   rw[hst];exact qli HB i1 i2 (by rw[<-z0];exact iD) iB
end Go.Proofs.YtgiadjbiimkbiaaGreatDoor
namespace Go.Proofs.YtgiadjbiimkbiaaGreatDoor
open Go.AM
open Go.Proofs
open Go.Col (Str FaultC okF)
open Go.Tok (TokC)
open Go.Stm
open Go.RowKit (Below)
set_option maxRecDepth 100000
def qpU:AVal->Bool
 | .bool _=>true
 | .int _ _=>true
 | .str _=>true
 |_=>false
theorem rigid_abs{fi:PMap}{x:AVal}{u:Value}(hr:qpU x=true)(h:VR fi x u):absS u=x:=by
 cases x<;>simp only[KX,qpU]at hr<;>simp only[VR]at h<;>subst h<;>rfl
theorem qjR{w:World}{fi:PMap}{b:Nat}:∀{xs:List AVal} {vs:List Value} {o:Nat},VRs fi xs vs->(∀x∈xs,qpU x=true)->(∀j v,vs[j]?=some v->w.cell? ⟨b,o+j,none⟩=some v)->cellsAt w (fun _=>none) (.base b) o xs.length=xs
 |[],_,_,_,_,_=>rfl
 |x::xs,vs,o,h,hr,hc=>by
  simp only[VRs]at h;obtain⟨v,vs',rfl,h1,h2⟩:=h;simp only[cellsAt,KZ];have h0:=hc 0 v rfl;rw[K8]at h0;rw[qkG h0,rigid_abs (hr x Jg) h1,qjR h2 (fun y hy=>hr y (Jh _ hy)) fun j u hj=>by
   have:=hc (j+1) u (by simpa using hj)
   rwa [show o+1+j=o+(j+1) by omega]]
theorem isL_rebase{wz w:World}{fi:PMap}{h:AHeap}{es:Nat}{v:AVal}{vl:Value}{xs:List (List AVal)}(hr:HRel wz fi h w)(hv:IsL wz h es v xs)(hx:VR fi v vl)(hg:∀x∈xs.flatten,qpU x=true):IsL w (fun _=>none) es (absS vl) xs:=by
 cases hv with
 |nil=>simp only[VR]at hx;subst hx;exact .nil
 |mk l o n c xs hn hw hc hl hcap=>
  obtain⟨ad,cap,rfl,had⟩:=Yn hx;have hcp:n<=cap:=by
   cases c with
   |exact c=>
    simp only[VR]at hx;obtain⟨a',e1,_⟩:=hx;cases e1;exact hcap
   |grow es=>
    simp only[VR]at hx;obtain⟨k,p,c',a',_,_,e1,hle,_⟩:=hx;cases e1;exact hle
  by_cases h0:n=0
  ·subst h0
   have hxs:xs=[]:=Kg hn.symm;subst hxs;have hsp:cap≠0->ad.spot=none:=fun hc0=>by
    cases c with
    |exact c=>
     simp only[VR]at hx;obtain⟨a',e1,e2⟩:=hx;cases e1;rw[qcu (e2 (.inl hc0))]
    |grow es=>
     simp only[VR]at hx;obtain⟨k,p,c',a',_,_,e1,_,e2⟩:=hx;cases e1;rw[(e2 hc0).1]
   obtain⟨b,of,sp⟩:=ad;have e:absS (.slice (some ⟨b,of,sp⟩) 0 cap)= .slice (.base b) of 0 (.exact cap):=by
    cases sp with
    |none=>rfl
    |some s=>
     by_cases hc0:cap=0
     ·subst hc0;rfl
     ·exact absurd (hsp hc0) (by simp)
   rw[e];exact .mk _ _ _ _ _ rfl (fun x hx=>by cases hx) (by simp[cellsAt]) rfl (Js _)
  ·have ha:=had h0
   obtain⟨vs,e1,e2,e3⟩:=qeH hr l (n*es) o ad ha (by rw[hc];exact hl);rw[hc]at e2;have hsp:=qcu ha;have hlen:xs.flatten.length=n*es:=by rw[flatten_len hw,hn]
   have:=qjR (w:=w) (b:=ad.block) (o:=ad.off) e2 hg fun j u hj=>by
    have:=e3 j u hj;rw[hsp]at this;by_cases hj0:j=0
    ·subst hj0;simpa[Addr.add]using this
    ·simpa[Addr.add,hj0]using this
   rw[hlen]at this;obtain⟨b,of,sp⟩:=ad;simp only[true_and,Addr.mk.injEq]at hsp;subst hsp;exact .mk _ _ _ _ _ hn hw this hl hcp
theorem tok_rigid(l:List TokC):∀x∈(l.map Zb).flatten,qpU x=true:=by
 intro x hx;obtain⟨y,hy,hm⟩:=List.mem_flatten.1 hx;obtain⟨t,_,rfl⟩:=JM.1 hy;simp only[Zb,KY,List.not_mem_nil,or_false]at hm;rcases hm with rfl|rfl|rfl|rfl|rfl<;>rfl
theorem qfC(wz:World)(ha:Asp wz)(h:AHeap)(lp:AM.Loc)(op:Nat)(v:AVal)(l:List TokC)(at_:Nat)(forms:Str)(h0:rd wz h lp op=v)(h1:rd wz h lp (op+1)= .int .i64 at_)(hv:IsL wz h 5 v (l.map Zb))
 (hl:l.length<=1000000) (hat:at_<=l.length) (hf:forms.length<=1000000) (hfa:asciiB forms=true):
 ACall Tryz.prog wz 72 [.ptr lp op, .str forms] h (fun r h'=>r= .tuple [.str (Qs l at_ forms).1, .int .i64 (Qs l at_ forms).2]/\h'=h):=by
 intro fi vals w hr hvs;simp only[VRs,VR]at hvs;obtain⟨u,vs',rfl,⟨a,ea,rfl⟩,u2,vs2,rfl,rfl,rfl⟩:=hvs;have hsp:=qcu ea;obtain⟨a0,vl,q1,q2,q3,-⟩:=hr.rd lp op (by rw[h0];exact hv.live);rw[ea]at q1;cases q1;rw[h0]at q3;obtain⟨a1,vl1,r1,r2,r3,-⟩:=hr.rd lp (op+1) (by rw[h1];rfl);rw[Yt ea]at r1;cases r1;rw[h1]at r3;simp only[VR]at r3;subst r3;obtain⟨b,o,sp⟩:=a;simp only[true_and,Addr.mk.injEq]at hsp;subst hsp;have hP:PAt w b o vl at_ l:=⟨q2,by simpa[Addr.add]using r2,isL_rebase hr hv q3 (tok_rigid l)⟩
 exact .inl ⟨_,Tryz.func72,rfl,rfl,(k_stands w (ha.later hr.below) b o vl at_ l hP forms hl hat hf hfa).mono fun e w' ⟨e1,e2⟩=>⟨_,e1,fi,_,h,fi.le_refl,hr.later e2,by simp only[VR,VRs];exact⟨_,rfl,_,_,rfl,rfl,_,_,rfl,rfl,rfl⟩,rfl,rfl⟩⟩
end Go.Proofs.YtgiadjbiimkbiaaGreatDoor
namespace Go.AM
open Go.RowKit (Below)
def ACallE(P:Program)(wz:World)(f:FuncId)(args:List AVal)(h:AHeap)(R Rp:AVal->AHeap->Prop):Prop:=
 ∀(fi:PMap) (vals:List Value) (w:World),HRel wz fi h w->VRs fi args vals->
  ∃fn,P.funcs[f]?=some fn/\(fn.name== "runtime.NumGoroutine")=false/\fn.body.isSome=true/\Calls P f vals.toArray w fun e w'=>
   (∃v,e= .returned v/\∃Ps x h',fi.le Ps/\HRel wz Ps h' w'/\VR Ps x v/\R x h')\/(∃v,e= .panicked [{v,recovered:=false}]/\∃Ps x h',fi.le Ps/\HRel wz Ps h' w'/\VR Ps x v/\Rp x h')
abbrev APanic(P:Program)(wz:World)(f:FuncId)(args:List AVal)(h:AHeap)(Rp:AVal->AHeap->Prop):Prop:=ACallE P wz f args h (fun _ _=>False) Rp
section
variable {P:Program} {wz:World} {f:FuncId} {args:List AVal} {h:AHeap} {R R' Rp Rp':AVal->AHeap->Prop}
theorem ACallE.mono(hc:ACallE P wz f args h R Rp)(hr:∀x h',R x h'->R' x h')(hp:∀x h',Rp x h'->Rp' x h'):ACallE P wz f args h R' Rp':=fun fi vals w h1 h2=>by
 obtain⟨fn,a,b,c,d⟩:=hc fi vals w h1 h2;refine⟨fn,a,b,c,d.mono fun e w' q=>?_⟩;rcases q with⟨v,e1,Ps,x,h',e2,e3,e4,e5⟩|⟨v,e1,Ps,x,h',e2,e3,e4,e5⟩
 ·exact .inl ⟨v,e1,Ps,x,h',e2,e3,e4,hr _ _ e5⟩
 ·exact .inr ⟨v,e1,Ps,x,h',e2,e3,e4,hp _ _ e5⟩
theorem ACallE.ok(hc:ACallE P wz f args h R Rp)(hp:∀x h',¬Rp x h'):ACall P wz f args h R:=fun fi vals w h1 h2=>by
 obtain⟨fn,a,b,c,d⟩:=hc fi vals w h1 h2;refine .inl ⟨fn,a,b,c,d.mono fun e w' q=>?_⟩;rcases q with q|⟨v,e1,Ps,x,h',e2,e3,e4,e5⟩
 ·exact q
 ·exact(hp _ _ e5).elim
theorem ACallE.bad(hc:ACallE P wz f args h R Rp)(hr:∀x h',¬R x h'):APanic P wz f args h Rp:=hc.mono (fun x h' q=>hr x h' q) fun _ _ q=>q
end
def GP(wz:World)(k:Nat)(ds:List Deferred)(s₀:Slots)(Rp:AVal->AHeap->Prop):Exit->PMap->Act->World->Prop:=fun e Ps a w=>
 ∃v,e= .panic [{v,recovered:=false}]/\∃χ x h',Ps.le χ/\HRel wz χ h' w/\VR χ x v/\Rp x h'/\SRel χ ⟨k,ds,fun _ _ _ _=>False⟩ s₀ a
theorem qbm{P:Program}{wz:World}{f:FuncId}{args:List AVal}{h:AHeap}{R Rp:AVal->AHeap->Prop}{fn:Func}{c:Code}{rs:List ResultVar}{k:Nat}(hf:P.funcs[f]?=some fn)
 (hname:(fn.name== "runtime.NumGoroutine")=false) (hb:fn.body=some c) (hn:fn.ntmps=k) (hrs:fn.results=rs.toArray) (hargs:args.length<=k)
 (hc:Awp P wz ⟨k,[],GP wz k [] [] Rp⟩ c (qdN P wz rs R) (qU 0 args) h):ACallE P wz f args h R Rp:=by
 intro fi vals w hr hv;refine⟨fn,hf,hname,by rw[hb];rfl,?_⟩;have hl:=XA hv;refine calls_of_wp hf hb (wp_mono (hc fi _ w hr ⟨?_,rfl,fun i=>?_⟩) fun e a' w' q=>?_)
 ·simp[hn]
  omega
 ·have:=(qbO fi args vals 0 i hv).2 undef (Js i)
  by_cases hi:i<vals.length
  ·have e:(vals.toArray++Jw (fn.ntmps-vals.toArray.size) undef).getD i undef=vals.getD i undef:=by
    simp[Ku,Jy,hi,Ko]
   rw[e];simpa using this
  ·have e:(vals.toArray++Jw (fn.ntmps-vals.toArray.size) undef).getD i undef=undef:=by
    simp[Ku,Jy,hi,Bd];split<;>simp
   rw[e];have e2:vals.getD (i-0) undef=undef:=by simp[Ko,Kr (Kt hi)]
   rw[e2]at this;exact this
 ·rcases q with⟨Ps,s',h',e1,e2,e3,e4⟩|⟨_,Ps,hl1,v,rfl,χ,x,h',g1,g2,g3,g4,g5⟩
  ·cases e<;>simp only[qdN]at e4<;>first
    |exact e4.elim
    |skip
   all_goals
    obtain⟨hp,h'',hsub,hR⟩:=e4;have hrs':rs=fn.results.toList:=by rw[hrs]
    rw[hrs']at hp hR;obtain⟨v,f1,f2⟩:=qeu e2 e3 fn hp;exact⟨e3.defers,v,f1, .inl ⟨v,rfl,Ps,_,h'',e1,e2.forget hsub,f2,hR⟩⟩
  ·exact⟨g5.defers, .inr ⟨v,rfl,χ,x,h',JR hl1 g1,g2,g3,g4⟩⟩
section
variable {P:Program} {wz:World} {k:Nat} {ds:List Deferred} {s₀:Slots} {s:Slots} {h:AHeap} {Rp:AVal->AHeap->Prop} {Q:Exit->Slots->AHeap->Prop} {dst:Option Tmp} {ty:TypeId} {pos:String} {af:Array Edge}
theorem dsts_pre:∀(p q:List Oper),Qv k (p++q)=true->Qv k p=true:=by
 intro p q hp;induction p with
 |nil=>rfl
 |cons o p ih=>
  simp only[Ky,Kh,Qv]at hp|-
  exact⟨hp.1,ih hp.2⟩
theorem qnW{n:FrameK}{id:Nat}{l pre post:List Oper}{o:Oper}(hl:l=pre++o::post)(hg:o.guard=none)(hd:Qv n l=true)
 (hc:Qp P wz l pre s h (fun s' h'=>∀(fi:PMap) (a:Act) (w:World) (nx:Act->World->Prop) (Q':Exit->Act->World->Prop),HRel wz fi h' w->SRel fi n s' a->(∀e a' w',abrupt e->(∃Ps,fi.le Ps/\n.G e Ps a' w')->Q' e a' w')->o.wp P a w nx Q')):
 Awp P wz n (.region id l.toArray false) Q s h:=by
 have hdp:Qv n pre=true:=dsts_pre pre _ (hl ▸ hd);intro fi a w hr hs;refine wp_region ?_;rw[KC,Be];have hlen:l.length=pre.length+(post.length+1):=by rw[hl];simp
 rw[hlen,<-Bf];refine qed (P:=P) (wz:=wz) l n _ hd pre 0 fi s h a w _ _ (fun j hj=>by rw[hl,Jr,Bg hj]) hdp hc hr hs ?_;intro Ps s' h' a' w' hle hr' hs' hk;have hat:l.toArray[0+pre.length]?=some o:=by
  rw[Jr,hl];simp
 rw[Bh];simp only[wpOps,hat];rw[if_pos (by simp[Region.wanted,hg])];refine .inl ?_;exact hk Ps a' w' _ _ hr' hs' fun e a'' w'' he ⟨χ,h1,h2⟩=> .inr ⟨he,χ,JR hle h1,h2⟩
theorem awp_callP0{id:Nat}{l pre post:List Oper}{fo:Operand}{args:Array Operand}{ts:Array TypeId}(hl:l=pre++⟨dst, .call ⟨.value fo,args,ts⟩,ty,pos,af,none⟩::post)(hd:Qv k l=true)
 (hc:Qp P wz l pre s h (fun s' h'=>(∃f cap,ev s' fo= .func f cap/\APanic P wz f (evs s' args.toList++cap) h' Rp)/\∀i,s₀.get i=s'.get i\/s₀.get i= .dead)):
 Awp P wz ⟨k,ds,GP wz k ds s₀ Rp⟩ (.region id l.toArray false) Q s h:=by
 refine qnW (n:=⟨k,ds,GP wz k ds s₀ Rp⟩) hl rfl hd (awp_rseq.aOps_mono (fun s' h' hk fi a w nx Q' hr hs hq=>?_) hc);obtain⟨⟨f,cap,hf,hcall⟩,hs0⟩:=hk;have hv:=hs.evs args.toList;have hfv:=hs.ev fo;rw[hf]at hfv;simp only[VR]at hfv;obtain⟨vs,hfe,hcap⟩:=hfv;obtain⟨fn,g1,g2,g3,g4⟩:=hcall fi (args.toList.map a.eval++vs) w hr (qbJ hv hcap);have hx:(execOp a.eval ⟨dst, .call ⟨.value fo,args,ts⟩,ty,pos,af,none⟩).run P w= .ok (.enter f (args.toList.map a.eval++vs).toArray) w:=by
  have hb:¬fn.body=none:=fun e=>by rw[e]at g3;cases g3
  have hn':¬fn.name= "runtime.NumGoroutine":=by simpa using g2
  have ea:args.map a.eval=(args.toList.map a.eval).toArray:=map_toArray _ _;simp only[execOp,resolve,hfe,Deferred.ofValue,Sem.run_bind,Sem.run_pure,Result.andThen_ok,invoke];rw[ea];simp[callFunc,g1,hn',hb]
 unfold Oper.wp;rw[hx,Oper.upon_enter];refine g4.mono fun e w' q=>?_;rcases q with⟨v,_,Ps,x,h'',_,_,_,q⟩|⟨v,rfl,Ps,x,h'',q1,q2,q3,q4⟩
 ·exact q.elim
 ·refine hq _ _ _ trivial ⟨Ps,q1,v,rfl,Ps,x,h'',Ps.le_refl,q2,q3,q4,⟨hs.size,hs.defers,fun i=>?_⟩⟩
  rcases hs0 i with e|e
  ·rw[e];exact WG q1 _ _ (hs.val i)
  ·rw[e];simp[VR]
theorem qsz{id:Nat}{l pre post:List Oper}{x:Operand}(hl:l=pre++⟨dst, .panic x,ty,pos,af,none⟩::post)(hd:Qv k l=true)
 (hc:Qp P wz l pre s h (fun s' h'=>(∃t y,ev s' x= .iface t y/\Rp (.iface t y) h')/\∀i,s₀.get i=s'.get i\/s₀.get i= .dead)):
 Awp P wz ⟨k,ds,GP wz k ds s₀ Rp⟩ (.region id l.toArray false) Q s h:=by
 refine qnW (n:=⟨k,ds,GP wz k ds s₀ Rp⟩) hl rfl hd (awp_rseq.aOps_mono (fun s' h' hk fi a w nx Q' hr hs hq=>?_) hc);obtain⟨⟨t,y,hx,hR⟩,hs0⟩:=hk;have hxv:=hs.ev x;rw[hx]at hxv;have hxv':=hxv;simp only[VR]at hxv';obtain⟨v,hv,_⟩:=hxv';unfold Oper.wp;have he:(execOp a.eval ⟨dst, .panic x,ty,pos,af,none⟩).run P w= .halt (.panic (.iface t v)) w:=by
  simp only[execOp,hv,Sem.run_bind,run_panic_iface];rfl
 rw[he,Oper.upon_panic];refine hq _ _ _ trivial ⟨fi,fi.le_refl,_,rfl,fi, .iface t y,h',fi.le_refl,hr,by rw[<-hv];exact hxv,hR,⟨hs.size,hs.defers,fun i=>?_⟩⟩;rcases hs0 i with e|e
 ·rw[e];exact hs.val i
 ·rw[e];simp[VR]
theorem qiF{α:Type}{x:α}:∀{l:List α} {i:Nat},l[i]?=some x->l=l.take i++x::l.drop (i+1)
 |[],i,h=>by simp at h
 |y::l,0,h=>by
  simp only[Kz,Option.some.injEq]at h;subst h;rfl
 |y::l,i+1,h=>by
  rw[KM]at h;rw[List.take_succ_cons,VU,Kh,<-qiF h]
theorem YF{id:Nat}{l:List Oper}{fo:Operand}{args:Array Operand}{ts:Array TypeId}(i:Nat)(hl:l[i]?=some ⟨dst, .call ⟨.value fo,args,ts⟩,ty,pos,af,none⟩)(hd:Qv k l=true)
 (hc:Qp P wz l (l.take i) s h (fun s' h'=>(∃f cap,ev s' fo= .func f cap/\APanic P wz f (evs s' args.toList++cap) h' Rp)/\∀i,s₀.get i=s'.get i\/s₀.get i= .dead)):
 Awp P wz ⟨k,ds,GP wz k ds s₀ Rp⟩ (.region id l.toArray false) Q s h:=awp_callP0 (qiF hl) hd hc
theorem qml{id:Nat}{l:List Oper}{x:Operand}(i:Nat)(hl:l[i]?=some ⟨dst, .panic x,ty,pos,af,none⟩)(hd:Qv k l=true)
 (hc:Qp P wz l (l.take i) s h (fun s' h'=>(∃t y,ev s' x= .iface t y/\Rp (.iface t y) h')/\∀i,s₀.get i=s'.get i\/s₀.get i= .dead)):
 Awp P wz ⟨k,ds,GP wz k ds s₀ Rp⟩ (.region id l.toArray false) Q s h:=qsz (qiF hl) hd hc
end
end Go.AM
namespace Go.Proofs.YtgiadjbiimkbiaaGreatDoor
open Go.AM
open Go.Proofs
open Go.Col (Str FaultC okF)
open Go.Tok (TokC)
open Go.Stm
open Go.RowKit (Below)
set_option maxRecDepth 100000
abbrev faultV(f:FaultC):AVal:= .agg [.int .i64 f.e, .int .i64 f.line, .int .i64 f.col]
def FaultP(H:AHeap)(f:FaultC):AVal->AHeap->Prop:=fun x h'=>x= .iface 48 (faultV f)/\Sub H h'
theorem qeI(wz:World)(H B:AHeap)(kp:Nat)(v ov:AVal)(l:List TokC)(i:Int)(e:Int)(at_:Nat)(eb_p:H kp=some ⟨[v, .int .i64 i,ov],0⟩)(hs_H:Sub B H)(hv:IsL wz B 5 v (l.map Zb))(hl:l.length<=1000000)(hat:at_<=1000000):
 APanic Tryz.prog wz 29 [.ptr (.own kp) 0, .int .i64 e, .int .i64 at_] H (FaultP H (qam l e at_)):=by
 have hlv:=hv.live;have nv:=Wn hv;have hE:qam l e at_=if l=[]then⟨e,0,0⟩else⟨e,(l.getD (min at_ (l.length-1)) noT).line,(l.getD (min at_ (l.length-1)) noT).col⟩:=rfl
 obtain⟨F,hF⟩:∃F,F=qam l e at_:=⟨_,rfl⟩
 rw[<-hF]at hE|-
 refine qbm (k:=33) (rs:=[]) Tryz.func29 rfl rfl rfl rfl (V7 rfl) ?_;simp only[qU];refine awp_rseq [0,2,6] (by rfl) fun K hK=>?_;simp+decide only[Qw,XN,Yo,XO,Za,XZ,Xt,WO,Zw,evP,↓qc,↓YJ,↓XL,bld48_0,Nat.reduceAdd];refine Qz qhv (cs:=[.int .i64 0, .int .i64 0, .int .i64 0]) (by rfl) fun k0q2 hk0q2=>?_;have hn_0q2:H k0q2=none:=by first|assumption|(simp only[Bi]at hk0q2;simp only[hk0q2])
 have hf_0q2:B k0q2=none:=Bj hs_H hn_0q2;have ne_0q2_p:k0q2≠kp:=Bl hn_0q2 eb_p;refine qN (by rfl) (by rfl) zqA UF (by rfl) (by rfl) zqD (Js _) (by rfl) ?_;simp only[QZ,Bn];simp+decide only[qR,Nat.reduceAdd];apply hK;clear hK K;refine qo ?_;refine awp_rseq [0,2,6,14] (by rfl) fun K hK=>?_;simp+decide only[Yz,qO,Qm,Xg,WL,↓qc,↓Qg,↓qg,qcR,↓qj,qd qcn,↓Qr,↓qf,ne_0q2_p.symm,Ql eb_p,hlv,nv];apply hK;clear hK K;refine qz (b:=_) rfl (fun hb1=>?_) (fun hb1=>?_)
 ·try simp only[qG]at hb1
  have hn:0<l.length:=by omega
  have hne:l≠[]:=fun q=>by rw[q]at hn;cases hn
  rw[if_neg hne]at hE;obtain⟨lc,o,c,rfl⟩:=Yp hv hn;obtain⟨m,hm⟩:∃m,m=min at_ (l.length-1):=⟨_,rfl⟩
  rw[<-hm]at hE;have hml:m<l.length:=by omega
  have hmi:min (at_:Int) ((l.length:Int)-1)=(m:Int):=by omega
  have hs2:Sub B (H.set k0q2 ⟨[.int .i64 e, .int .i64 0, .int .i64 0],0⟩):=hs_H.trans (Vl hn_0q2);obtain⟨-,-,e2,e3,-⟩:=UI (hv.mono hs2) hml;obtain⟨t,ht⟩:∃t,t=l.getD m noT:=⟨_,rfl⟩
  rw[<-ht]at e2 e3 hE;have e3':rd wz (H.set k0q2 ⟨[.int .i64 e, .int .i64 0, .int .i64 0],0⟩) lc (o+m*5+2+1)= .int .i64 t.col:=e3;refine qgT 16 mixed (by kernel_rfl) (by rfl) (by rfl) ?_;simp+decide only[Yz,Vw,qO,Qm,Xg,XN,evs,UC,↓qc,↓Qg,↓qg,qcR,↓qj,qd qcn,↓Qr,Xp Tryz.underlying39,↓qf,↓ap_min,pop_min,pMin_int,ne_0q2_p.symm,Ql eb_p,hlv];try simp(disch:=omega)only[wrap_i64,wrap_u8]
  try simp+decide only[qR,XD,Vw,↓qI,qh Tryz.underlying39 UA,↓qg,fa44_2,↓qj,Qa ag42 sz42,fa48_1,e2,e3',hmi]
  repeat (with_reducible refine zqP ?_)
  refine qN (by rfl) (by rfl) zqA sz42 (by rfl) (by rfl) zqD (Js _) (by rfl) ?_;simp only[QZ,Bn];simp+decide only[qR,Vw,Nat.reduceAdd];change Awp _ _ _ _ _ _ _;refine qml 2 (by rfl) (by rfl) ?_;simp only[Zu];simp+decide only[qR,Xa,↓qj,Qa qeR UF,↓qea,qdf,Nat.reduceAdd];refine⟨⟨_,_,by rfl,?_⟩,by intro i;first|trivial|exact .inr trivial|exact .inr rfl⟩;rw[hE];exact⟨rfl,zqB⟩
 ·try simp only[qG]at hb1
  rw[if_pos (Kg (by omega))]at hE;refine qE ?_;change Awp _ _ _ _ _ _ _;refine qml 2 (by rfl) (by rfl) ?_;simp only[Zu];simp+decide only[qR,Xa,↓qj,Qa qeR UF,↓qea,qdf,Nat.reduceAdd];refine⟨⟨_,_,by rfl,?_⟩,by intro i;first|trivial|exact .inr trivial|exact .inr rfl⟩;rw[hE];exact⟨rfl,zqB⟩
def Fair(O:List Str):Prop:=∀f∈O,f.length<=1000000/\asciiB f=true
theorem qle{wz:World}{h:AHeap}{v:AVal}{l:List Str}(ht:IsStrs wz h v l)(hn:0<l.length):∃lc o c,v= .slice lc o l.length c:=by
 obtain⟨lc,o,c,e⟩:=ht.open (fun e=>by rw[V5]at e;subst e;simp at hn);rw[Jp]at e;exact⟨lc,o,c,e⟩
theorem qlf{wz:World}{h:AHeap}{lc:AM.Loc}{o:Nat}{c:Cap}{l:List Str}(ht:IsStrs wz h (.slice lc o l.length c) l){i:Nat}(hi:i<l.length):rd wz h lc (o+i)= .str (l.getD i []):=by
 have he:=ht.at0 (i:=i) (by rw[Jp];exact hi) (by decide);rw[Bo,getD_map [] hi]at he;exact he
theorem str_sub{wz:World}{h:AHeap}{v:AVal}{l:List Str}(ht:IsStrs wz h v l){n:Nat}(hn:n<=l.length):IsStrs wz h (qhD 1 v 0 n) (l.take n):=by
 have:=IsL.sub ht (i:=0) (j:=n) (Js _) (by rw[Jp];exact hn);rw[Vp,Nat.sub_zero,<-List.map_take]at this;exact this
theorem qnh{wz:World}{h:AHeap}{v:AVal}{l:List Str}(ht:IsStrs wz h v l){k:IntKind}{n:Nat}(hn:n<=l.length):Ws Tryz.prog 22 v none (some (.int k n)) none=⟨True,qhD 1 v 0 n⟩:=by
 have:=IsL.slice ht Tryz.underlying22 sz9 none (some (.int k n)) (l:=0) (r:=n) rfl (by rw[qay]) (by omega) (by omega) (by rw[Jp];omega);exact this
theorem any_drop{α:Type}{p:α->Bool}{l:List α}{i:Nat}(hi:i<l.length)(d:α):(l.drop i).any p=(p (l.getD i d)||(l.drop (i+1)).any p):=by
 rw[Ve hi,Bp];simp[Ko,hi]
theorem c_outer(wz:World)(ha:Asp wz)(H:AHeap)(kp:Nat)(v ov:AVal)(l:List TokC)(i:Nat)(O:List Str)(eb_p:H kp=some ⟨[v, .int .i64 i,ov],0⟩)(hv:IsL wz H 5 v (l.map Zb))(hov:IsStrs wz H ov O)(hO:Fair O)(hn:0<O.length)(hO2:O.length<=1000000)(hl:l.length<=1000000)(hi:i<=l.length):
 ACall Tryz.prog wz 75 [.ptr (.own kp) 0] H (fun r h'=>r= .bool (qci l O i)/\h'=H):=by
 have hlv:=hov.live;have nv:=qbL hov;have hs_H:Sub H H:=Vk _;obtain⟨n,hnO⟩:∃n,O.length=n+1:=⟨O.length-1,by omega⟩
 have hdl:O.dropLast=O.take n:=by rw[List.dropLast_eq_take,hnO];rfl
 have hwn:IntKind.i64.wrap ((O.length:Int)-1)=(n:Int):=by rw[wrap_i64 (by omega) (by omega)];omega
 have hsl:=fun(k:IntKind)=>qnh (k:=k) hov (n:=n) (by omega);have hov2:=str_sub hov (n:=n) (by omega);have nv2:=qbL hov2;have htl:(O.take n).length=n:=by rw[List.length_take];omega
 rw[htl]at nv2;obtain⟨sv,hsv⟩:∃sv,sv=qhD 1 ov 0 n:=⟨_,rfl⟩
 rw[<-hsv]at hsl hov2 nv2;have hslv:=hov2.live;obtain⟨X,hX⟩:∃X,X=O.take n:=⟨_,rfl⟩
 rw[<-hX]at hov2 htl hdl;have hOX:∀f∈X,f.length<=1000000/\asciiB f=true:=fun f hf=>hO f (by rw[hX]at hf;exact List.mem_of_mem_take hf);have hR:qci l O i=X.any fun f=>decide (0<(Qs l i f).2):=by unfold qci;rw[hdl]
 refine qP (n:=32) (rs:=[.tmp 2]) Tryz.func75 rfl rfl rfl rfl (V7 rfl) ?_;simp only[qU];refine awp_rseq [0] (by rfl) fun K hK=>?_;simp+decide only[qJ,↓qa];apply hK;clear hK K;refine qo ?_;refine qai [0,17,18,19] mixed (by kernel_rfl) (by rfl) (by rfl) fun K hK=>?_;simp+decide only[Yz,qO,Qm,Xg,UC,↓qc,↓Qg,↓qg,qjw,↓qj,qd ag22,↓Qr,↓qf,Ql eb_p,hlv,nv,hwn];try simp+decide only[Qw,Qm,Wz,↓qaz,evO,↓Qr,↓qc,hsl,nv2]
 apply hK;clear hK K;refine qK ?_;refine QD [0,17,18,19] (fun j:Nat=>[(0, .ptr (.own kp) 0),(17,sv),(18, .int .i64 n),(19, .int .i64 j)]) (fun j:Nat=>H) (fun j:Nat=>j<=n/\(X.any fun f=>decide (0<(Qs l i f).2))=(X.drop j).any fun f=>decide (0<(Qs l i f).2)) (fun j:Nat=>n-j) 0 (by rfl) (Vk _) ⟨Js _,rfl⟩ ?_;rintro j ⟨hj,hq⟩;refine awp_rseq [0,17,18,19,20] (by rfl) fun K hK=>?_;simp+decide only[Zp,YT,↓qf];apply hK;clear hK K;refine qo (qz (b:=_) rfl (fun hb1=>?_) (fun hb1=>?_))
 ·try simp only[qG]at hb1
  have hj':j<X.length:=by omega
  obtain⟨f,hf⟩:∃f,f=X.getD j []:=⟨_,rfl⟩
  obtain⟨hf1,hf2⟩:=hOX f (by rw[hf,Ko,JD hj'];exact VY hj');have hst:=any_drop (p:=fun f=>decide (0<(Qs l i f).2)) hj' [];rw[<-hf]at hst;obtain⟨lc,o,c,hse⟩:=qle hov2 (by omega);have hov3:=hov2;rw[hse]at hov3;have ef:=qlf hov3 hj';rw[<-hf]at ef;rw[htl]at hse;have hwj:IntKind.i64.wrap ((j:Int)+1)=((j+1:Nat):Int):=by rw[wrap_i64 (by omega) (by omega)];omega
  refine qE ?_;change Awp _ _ _ _ _ _ _;refine qo ?_;refine qK ?_;refine awp_rseq [0,4,17,18,19] (by rfl) fun K hK=>?_;simp+decide only[qJ,Xa,Vw,Bo,↓qI,qh Tryz.underlying22 sz9,↓qj,qd ag9,↓qa,hse,ef];repeat (with_reducible refine zqP ?_)
  apply hK;clear hK K;refine awp_rseq [0,6,17,18,19] (by rfl) fun K hK=>?_;simp+decide only[Qw,↓qc];refine QM (V:= .tuple [.str (Qs l i f).1, .int .i64 (Qs l i f).2]) (by rfl) (by rfl) (qfC wz ha _ (.own kp) 0 v l i f (YG wz eb_p 0) (YG wz eb_p 1) hv hl hi hf1 hf2) ?_;simp+decide only[Xh,Xo,Xi,Xy,↓qc,↓Xr,↓qa,Nat.reduceAdd];apply hK;clear hK K;refine awp_rseq [0,17,18,19,30] (by rfl) fun K hK=>?_;simp+decide only[QH,qO,WL,↓qc,↓qf];apply hK;clear hK K;refine qz (b:=_) rfl (fun hb2=>?_) (fun hb2=>?_)
  ·try simp only[qG]at hb2
   refine awp_rseq [2] (by rfl) fun K hK=>?_;simp+decide only[qJ,↓qa];apply hK;clear hK K;refine qV ?_;try simp only[Xz]
   refine QL H zqC (qA (qC)) ?_;simp+decide only[Xn];rw[hR,hq,hst];have h0:0<(Qs l i f).2:=by omega
   rw[decide_eq_true h0,Bool.true_or]
  ·try simp only[qG]at hb2
   refine qE ?_;change Awp _ _ _ _ _ _ _;refine QK [0,17,18,19] (by rfl) ?_;simp+decide only[QH,ZE,↓qf,↓qc,hwj];try simp only[QT]
   refine⟨j+1,by rw[hse];rfl,Vk _,⟨by omega,?_⟩,by omega⟩;have h0:¬0<(Qs l i f).2:=by omega
   rw[hq,hst,decide_eq_false h0,VJ]
 ·try simp only[qG]at hb1
  refine QC ?_;change Awp _ _ _ _ _ _ _;refine awp_rseq [2] (by rfl) fun K hK=>?_;simp+decide only[qJ,↓qa];apply hK;clear hK K;refine qV ?_;refine QL H zqC (qA (qC)) ?_;simp+decide only[Xn];rw[hR,hq,Bq (by omega)];rfl
theorem sub_off{B H:AHeap}(hs:Sub B H){k:Nat}(hk:B k=Option.none)(X:Blk):Sub B (H.set k X):=fun j d hj=>by
 have e:j≠k:=fun e=>by subst e;rw[hk]at hj;cases hj
 rw[Vi _ _ e];exact hs _ _ hj
def entW(p:(Str×Nat)×Nat):AVal:= .mapE p.2 (.str p.1.1) (.int .u8 p.1.2)
def qog(l:List (Str×Nat)):List AVal:=l.zipIdx.map entW
theorem tabW_snoc(l:List (Str×Nat))(x:Str×Nat):qog (l++[x])=qog l++[.mapE l.length (.str x.1) (.int .u8 x.2)]:=by
 unfold qog;rw[List.zipIdx_append,JK];simp[entW]
theorem qjk(s:Str):∀(l:List (Str×Nat)) (b k:Nat),qdh (.str s) ((l.zipIdx b).map entW) k=some (none)/\(l.find? fun p=>decide (p.1=s))=none\/∃j p,qdh (.str s) ((l.zipIdx b).map entW) k=some (some (j, .int .u8 p.2))/\(l.find? fun p=>decide (p.1=s))=some p
 |[],_,_=> .inl ⟨rfl,rfl⟩
 |x::l,b,k=>by
  rw[List.zipIdx_cons,Ke,entW,qdh,Br];simp only[kEq];by_cases h:x.1=s
  ·right
   refine⟨k,x,?_,?_⟩
   ·simp[h]
   ·simp[h]
  ·have h':¬s=x.1:=fun e=>h e.symm
   simp only[decide_false,h,h'];exact qjk s l (b+1) (k+1)
theorem mFind_new{s:Str}{l:List (Str×Nat)}(h:s∉l.map (·.1)):qdh (.str s) (qog l) 0=some none:=by
 rcases qjk s l 0 0 with q|⟨j,p,-,q⟩
 ·exact q.1
 ·exfalso
  apply h;have h1:=List.find?_some q;have h2:=List.mem_of_find?_eq_some q;exact JM.2 ⟨p,h2,by simpa using h1⟩
theorem word_new{i j:Nat}(hi:i<3){ws:List Str}(hw:ws=Lib.fields (wordTs.getD i []))(hj:j<ws.length):ws.getD j []∉(UD i++(ws.take j).map fun w=>(w,i+1)).map (·.1):=by
 have hs:=qef hi;rw[<-hw]at hs;have hp:∀a b:Nat,a<=b->b<=3->∃t,UD b=UD a++t:=by
  intro a b hab hb;induction b with
  |zero=>rw[Nat.le_zero.1 hab];exact⟨[],by simp⟩
  |succ b ih=>
   rcases KU a (b+1)with h|h
   ·obtain⟨t,e⟩:=ih (by omega) (by omega)
    rw[qef (by omega),e];exact⟨t++(Lib.fields (wordTs.getD b [])).map fun w=>(w,b+1),by rw[Jb]⟩
   ·rw[show a=b+1 by omega];exact⟨[],by simp⟩
 obtain⟨t,e⟩:=hp (i+1) 3 hi (KL _);have hn:=qsO;rw[e,hs]at hn;have hd:ws=ws.take j++ws.getD j []::ws.drop (j+1):=by
  rw[show ws.getD j []=ws[j] by simp[Ko,hj],<-Ve hj,List.take_append_drop]
 intro hm;generalize ws.getD j []=x at hd hm;rw[hd]at hn;simp only[Ke,JK,List.map_map]at hn hm;rw[Jb,Jb,<-Jb,List.nodup_append]at hn;exact hn.2.2 x hm x (by simp) rfl
structure TbG where
 i:Nat
 H:AHeap
structure TcG where
 j:Nat
 H:AHeap
theorem qsN:∀t∈wordTs,t.length<=10000/\asciiB t=true:=by decide+kernel
theorem word_at{i:Nat}(hi:i<3):(wordTs.getD i []).length<=10000/\asciiB (wordTs.getD i [])=true:=qsN _ (by
 rw[Ko,JD (by simpa[wordTs]using hi)];exact VY _)
set_option maxHeartbeats 4000000 in
theorem c_table(wz:World)(ha:Asp wz)(h:AHeap):
 ACall Tryz.prog wz 129 [] h (fun r h'=>∃k c,r= .map k/\h' k=some (Yg c (qog (UD 3)))/\h k=none/\Sub h h'):=by
 refine qP (n:=29) (rs:=[.tmp 0]) Tryz.func129 rfl rfl rfl rfl (V7 rfl) ?_;simp only[qU];refine awp_rseq [] (by rfl) fun K hK=>?_;simp+decide only[qJ,↓qa];apply hK;clear hK K;refine awp_rseq [1] (by rfl) fun K hK=>?_;refine qpw fun k1q0 hk1q0=>?_;try have hf_1q0:h k1q0=none:=by first|assumption|(simp only[Bi]at hk1q0;simp only[hk1q0])
 simp+decide only[qJ,↓qa];apply hK;clear hK K;refine qo ?_;refine awp_rseq [1,7,8,9] (by rfl) fun K hK=>?_;refine Qd (cs:=(wordTs.map AVal.str)) (by kernel_rfl) fun k2q0 hk2q0=>?_;have ne_2q0_1q0:k2q0≠k1q0:=by simp only[Bi]at hk2q0;simp only[Ua,hk2q0]
 try have hf_2q0:h k2q0=none:=by first|assumption|(simp only[Bi]at hk2q0;simp only[hk2q0])
 simp+decide only[Qw,Qm,↓Qr,Xp Tryz.underlying22,↓qc];apply hK;clear hK K;refine qK ?_;refine QD [1,7,8,9] (fun g:TbG=>[(1, .map k1q0),(7, .slice (.own k2q0) 0 3 (.exact 3)),(8, .int .i64 3),(9, .int .i64 g.i)]) (fun g:TbG=>g.H) (fun g:TbG=>g.i<=3/\Sub h g.H/\g.H k1q0=some (Yg (UD g.i).length (qog (UD g.i)))/\g.H k2q0=some ⟨wordTs.map AVal.str,0⟩) (fun g:TbG=>3-g.i) ⟨0,_⟩ (by rfl) (Vk _) ⟨Js _,zqB,zqA,zqA⟩ ?_;rintro⟨i,H⟩ ⟨hi,hs_H,eb_1q0,eb_2q0⟩;simp only at hi hs_H eb_1q0 eb_2q0|-
 refine awp_rseq [1,7,8,9,10] (by rfl) fun K hK=>?_;simp+decide only[Zp,YT,↓qf];apply hK;clear hK K;refine qo (qz (b:=_) rfl (fun hb1=>?_) (fun hb1=>?_))
 ·try simp only[qG]at hb1
  have hi3:i<3:=by omega
  obtain⟨t,ht⟩:∃t,t=wordTs.getD i []:=⟨_,rfl⟩
  have et:=qgZ (wz:=wz) eb_2q0 (i:=i) hi3;rw[<-ht,YG wz eb_2q0]at et;obtain⟨hw1,hw2⟩:=word_at hi3;have hstp:=qef hi3;rw[<-ht]at hw1 hw2 hstp;obtain⟨ws,hws⟩:∃ws,ws=Lib.fields t:=⟨_,rfl⟩
  rw[<-hws]at hstp;have hnew:=fun j hj=>word_new (j:=j) hi3 (ws:=ws) (by rw[hws,ht]) hj;have hwl:ws.length<=10001:=by rw[hws];exact Vg (fields_few t) (by omega)
  refine qE ?_;change Awp _ _ _ _ _ _ _;refine qo ?_;refine qK ?_;refine awp_rseq [1,2,3,7,8,9] (by rfl) fun K hK=>?_;simp+decide only[Xh,Xa,Vw,Bo,↓qc,↓qI,qh Tryz.underlying22 sz9,↓qj,qd ag9,↓qa,Ql eb_2q0,et];repeat (with_reducible refine zqP ?_)
  apply hK;clear hK K;refine awp_rseq [1,2,7,8,9,15,16,17] (by rfl) fun K hK=>?_;simp+decide only[Qw,↓qc];refine qM (by rfl) (by rfl) (qfD wz ha _ t (by omega) hw2) fun x5q1 h5q1 hx5q1=>?_;obtain⟨kw,hkw,rfl,e5⟩:=hx5q1;rw[<-hws]at e5|-
  have hsw:Sub H h5q1:=by rw[e5];exact Vl hkw
  have hw5:h5q1 kw=some ⟨ws.map AVal.str,0⟩:=by rw[e5];exact Vj _ _ _
  have lw:=qbL (qeo (wz:=wz) hw5);have ne_w:kw≠k1q0:=fun e=>by rw[e,eb_1q0]at hkw;cases hkw
  have hs_h5q1:Sub h h5q1:=Bt zqC hsw;have hr_h5q1:Sub H h5q1:=Bt zqC hsw;have eb_1q0:=hsw k1q0 _ zqA;have eb_2q0:=hsw k2q0 _ zqA;simp+decide only[Qw,Qm,↓Qr,Xp Tryz.underlying22,↓qc];apply hK;clear hK K;refine qK ?_;refine QD [1,2,7,8,9,15,16,17] (fun g:TcG=>[(1, .map k1q0),(2, .int .i64 i),(7, .slice (.own k2q0) 0 3 (.exact 3)),(8, .int .i64 3),(9, .int .i64 i),(15, .slice (.own kw) 0 ws.length (.exact ws.length)),(16, .int .i64 ws.length),(17, .int .i64 g.j)]) (fun g:TcG=>g.H) (fun g:TcG=>g.j<=ws.length/\Sub h g.H/\g.H k1q0=some (Yg (UD i++(ws.take g.j).map fun w=>(w,i+1)).length (qog (UD i++(ws.take g.j).map fun w=>(w,i+1))))/\g.H k2q0=some ⟨wordTs.map AVal.str,0⟩/\g.H kw=some ⟨ws.map AVal.str,0⟩) (fun g:TcG=>ws.length-g.j) ⟨0,_⟩ (by rfl) (Vk _) ⟨Js _,hs_h5q1,by simpa using eb_1q0,eb_2q0,hw5⟩ ?_;rintro⟨j,H2⟩ ⟨hj,hs_H2,eb_1q0',eb_2q0',eb_w⟩;simp only at hj hs_H2 eb_1q0' eb_2q0' eb_w|-
  refine awp_rseq [1,2,7,8,9,15,16,17,18] (by rfl) fun K hK=>?_;simp+decide only[Zp,YT,↓qf];apply hK;clear hK K;refine qo (qz (b:=_) rfl (fun hb2=>?_) (fun hb2=>?_))
  ·try simp only[qG]at hb2
   have hj':j<ws.length:=by omega
   have nw:=hnew j hj';obtain⟨w,hw⟩:∃w,w=ws.getD j []:=⟨_,rfl⟩
   have ew:=qgZ (wz:=wz) eb_w hj';rw[<-hw,YG wz eb_w]at ew;rw[<-hw]at nw;have htk:ws.take (j+1)=ws.take j++[w]:=by rw[List.take_add_one,JD hj',hw];simp[Ko,hj']
   obtain⟨pl,hpl⟩:∃pl,pl=UD i++(ws.take j).map fun w=>(w,i+1):=⟨_,rfl⟩
   rw[<-hpl]at eb_1q0' nw;have hsn:=tabW_snoc pl (w,i+1);have hwr:IntKind.u8.wrap (i:Int)=i:=wrap_u8 (by omega) (by omega);have hwr2:IntKind.u8.wrap (1+(i:Int))=((i+1:Nat):Int):=by rw[wrap_u8 (by omega) (by omega)];omega
   have hwj:IntKind.i64.wrap ((j:Int)+1)=((j+1:Nat):Int):=by rw[wrap_i64 (by omega) (by omega)];omega
   refine qE ?_;change Awp _ _ _ _ _ _ _;refine qo ?_;refine qK ?_;refine awp_rseq [1,2,5,7,8,9,15,16,17] (by rfl) fun K hK=>?_;simp+decide only[qJ,Xa,Vw,Bo,↓qI,qh Tryz.underlying22 sz9,↓qj,qd ag9,↓qa,Ql eb_w,ew];repeat (with_reducible refine zqP ?_)
   apply hK;clear hK K;refine QK [1,2,7,8,9,15,16,17] (by rfl) ?_;simp+decide only[QH,qF,ZI,↓qc,↓qbG _ _ _ (qjy Tryz.underlying3 Tryz.underlying208),UO,qcz Tryz.underlying3 Tryz.underlying208,↓qf,hwr,hwr2];refine qsC Tryz.underlying214 (by rfl) eb_1q0' (by rfl) (mFind_new nw) ?_;simp+decide only[qR];change Awp _ _ _ _ _ _ _;refine QK [1,2,7,8,9,15,16,17] (by rfl) ?_;simp+decide only[QH,ZE,↓qf,↓qc,hwj];try simp only[QT]
   refine⟨⟨j+1,H2.set k1q0 (Yg (pl.length+1) (qog (pl++[(w,i+1)])))⟩,rfl,by rw[hsn];exact Vk _,⟨hj',sub_off hs_H2 hf_1q0 _,?_,(Vi _ _ ne_2q0_1q0).trans eb_2q0',(Vi _ _ ne_w).trans eb_w⟩,by simp only;omega⟩;simp only;rw[Vj,htk,JK,<-Jb,<-hpl,Jd];rfl
  ·try simp only[qG]at hb2
   have hj':j=ws.length:=by omega
   rw[hj',List.take_length,<-hstp]at eb_1q0';have hwi:IntKind.i64.wrap ((i:Int)+1)=((i+1:Nat):Int):=by rw[wrap_i64 (by omega) (by omega)];omega
   refine QC ?_;change Awp _ _ _ _ _ _ _;refine QK [1,7,8,9] (by rfl) ?_;simp+decide only[QH,ZE,↓qf,↓qc,hwi];try simp only[QT]
   exact⟨⟨i+1,H2⟩,rfl,Vk _,⟨hi3,hs_H2,eb_1q0',eb_2q0'⟩,by simp only;omega⟩
 ·try simp only[qG]at hb1
  have hi3:i=3:=by omega
  rw[hi3]at eb_1q0;refine QC ?_;change Awp _ _ _ _ _ _ _;refine awp_rseq [0] (by rfl) fun K hK=>?_;simp+decide only[Xh,↓qc,↓qa];apply hK;clear hK K;refine qV ?_;refine Qk (qA (qC)) ?_;simp+decide only[Xn];exact⟨H,Vk _,_,_,rfl,eb_1q0,hf_1q0,hs_H⟩
theorem look_tab{h:AHeap}{km c:Nat}{l:List (Str×Nat)}{s:Str}(hm:h km=some (Yg c (qog l))):qba Tryz.prog h 214 (.map km) (.str s) false=⟨True, .int .u8 ((l.find? fun p=>decide (p.1=s)).elim 0 (·.2):Nat)⟩:=by
 rcases qjk s l 0 0 with⟨q1,q2⟩|⟨j,p,q1,q2⟩
 ·rw[qrp Tryz.underlying214 ze208 hm (by rfl) q1,qjV,q2]
  rfl
 ·rw[qtn Tryz.underlying214 ze208 hm (by rfl) q1,qjV,q2]
  rfl
theorem qsh(wz:World)(ha:Asp wz)(h:AHeap)(s:Str):ACall Tryz.prog wz 124 [.str s] h (fun r h'=>r= .int .u8 (qce s:Nat)/\Sub h h'):=by
 refine qP (n:=6) (rs:=[.tmp 2]) Tryz.func124 rfl rfl rfl rfl (V7 rfl) ?_;simp only[qU];refine awp_rseq [0] (by rfl) fun K hK=>?_;simp+decide only[qJ,↓qa];apply hK;clear hK K;refine awp_rseq [2] (by rfl) fun K hK=>?_;refine qM (by rfl) (by rfl) (c_table wz ha _) fun x1q0 h1q0 hx1q0=>?_;obtain⟨k,c,rfl,eb_t,hkt,hs1⟩:=hx1q0;have hlk:=look_tab (s:=s) eb_t;simp+decide only[Xh,↓qc,↓ap_lookup,qtj,↓qa,hlk];apply hK;clear hK K;refine qV ?_;refine Qk (qA (qC)) ?_;simp+decide only[Xn];exact⟨h,by first|exact hs1|exact Vk _,rfl,Vk _⟩
end Go.Proofs.YtgiadjbiimkbiaaGreatDoor
namespace Go.AM
section
variable {P:Program} {wz:World} {ops rest:List Oper} {s:Slots} {h:AHeap} {K:Slots->AHeap->Prop} {dst:Option Tmp} {ty:TypeId} {pos:String} {af:Array Edge}
theorem qaO{fo:Operand}{args:Array Operand}{ts:Array TypeId}{j:Nat}{want:Bool}{g:AVal}{f:FuncId}{cap xs:List AVal}{V:AVal}(hg:gv s ops j=g)(hk:Wv g=true)
 (hf:QG g want=true->ev s fo= .func f cap/\evs s args.toList++cap=xs) (hc:QG g want=true->ACall P wz f xs h (fun x h'=>x=V/\Sub h h'))
 (hr:∀H,Sub h H->Qp P wz ops rest (putD s dst (Qf (QG g want) V)) H K):
 Qp P wz ops (⟨dst, .call ⟨.value fo,args,ts⟩,ty,pos,af,some (j,want)⟩::rest) s h K:=by
 subst hg;unfold gv at hk hf hc hr;cases hj:nthDst ops j with
 |none=>rw[hj]at hk;cases hk
 |some d=>
  simp only[hj]at hk hf hc hr;refine qkJ hj rfl hk (fun hb=>?_) (fun hb=>?_)
  ·refine qM (hf hb).1 (hf hb).2 (hc hb) fun x h' ⟨e1,e2⟩=>?_
   subst e1;have:=hr h' e2;simpa[hb,Qf]using this
  ·have:=hr h (Vk _)
   simpa[hb,Qf]using this
end
end Go.AM
namespace Go.Proofs.YtgiadjbiimkbiaaGreatDoor
open Go.AM
open Go.Proofs
open Go.Col (Str FaultC okF)
open Go.Tok (TokC)
open Go.Stm
open Go.RowKit (Below)
set_option maxRecDepth 100000
def qmJ(s:Str):List Str->Nat->Int
 |[],_=> -1
 |t::ts,i=>if t=s then i else qmJ s ts (i+1)
theorem idxS_in(s:Str):∀(ts:List Str) (i:Nat),decide (0<=qmJ s ts i)=ts.contains s
 |[],i=>rfl
 |t::ts,i=>by
  rw[qmJ,List.contains_cons];by_cases h:t=s
  ·subst h
   simp
  ·have h':(s==t)=false:=by simpa using fun e=>h e.symm
   rw[if_neg h,h',VJ];exact idxS_in s ts (i+1)
theorem c_indexS(wz:World)(h:AHeap)(v:AVal)(ts:List Str)(s:Str)(hv:IsStrs wz h v ts)(hl:ts.length<=1000000):
 ACall Tryz.prog wz 132 [v, .str s] h (fun r h'=>r= .int .i64 (qmJ s ts 0)/\h'=h):=by
 have hlv:=hv.live;have nv:=qbL hv;refine qP (n:=19) (rs:=[.tmp 4]) Tryz.func132 rfl rfl rfl rfl (V7 rfl) ?_;simp only[qU];refine awp_rseq [0,1] (by rfl) fun K hK=>?_;simp+decide only[qJ,↓qa];apply hK;clear hK K;refine qo ?_;refine awp_rseq [0,1,7,8] (by rfl) fun K hK=>?_;simp+decide only[Qw,Qm,↓qc,↓Qr,nv];apply hK;clear hK K;refine qK ?_;refine QD [0,1,7,8] (fun j:Nat=>[(0,v),(1, .str s),(7, .int .i64 ts.length),(8, .int .i64 j)]) (fun j:Nat=>h) (fun j:Nat=>j<=ts.length/\qmJ s ts 0=qmJ s (ts.drop j) j) (fun j:Nat=>ts.length-j) 0 (by rfl) (Vk _) ⟨Js _,rfl⟩ ?_;rintro j ⟨hj,hq⟩;refine awp_rseq [0,1,7,8,9] (by rfl) fun K hK=>?_;simp+decide only[Zp,YT,↓qf];apply hK;clear hK K;refine qo (qz (b:=_) rfl (fun hb1=>?_) (fun hb1=>?_))
 ·try simp only[qG]at hb1
  have hj':j<ts.length:=by omega
  obtain⟨lc,o,c,hse⟩:=qle hv (by omega);have hv3:=hv;rw[hse]at hv3;have ef:=qlf hv3 hj';have hst:qmJ s (ts.drop j) j=if ts.getD j []=s then(j:Int)else qmJ s (ts.drop (j+1)) (j+1):=by
   rw[Ve hj',qmJ];simp[Ko,hj']
  obtain⟨f,hf⟩:∃f,f=ts.getD j []:=⟨_,rfl⟩
  rw[<-hf]at ef hst;have hwj:IntKind.i64.wrap ((j:Int)+1)=((j+1:Nat):Int):=by rw[wrap_i64 (by omega) (by omega)];omega
  refine qE ?_;change Awp _ _ _ _ _ _ _;refine qo ?_;refine qK ?_;refine awp_rseq [0,1,5,7,8] (by rfl) fun K hK=>?_;simp+decide only[Xh,↓qc,↓qa];apply hK;clear hK K;refine awp_rseq [0,1,5,7,8,16] (by rfl) fun K hK=>?_;simp+decide only[XI,Xa,Vw,qF,Qb,qhd,Bo,↓qc,↓qI,qh Tryz.underlying22 sz9,↓qj,qd ag9,↓qf,hse,ef];repeat (with_reducible refine zqP ?_)
  apply hK;clear hK K;refine qz (b:=_) rfl (fun hb2=>?_) (fun hb2=>?_)
  ·try simp only[qG]at hb2
   refine awp_rseq [4] (by rfl) fun K hK=>?_;simp+decide only[Xh,↓qc,↓qa];apply hK;clear hK K;refine qV ?_;try simp only[Xz]
   refine QL h zqC (qA (qC)) ?_;simp+decide only[Xn];rw[hq,hst,if_pos hb2.symm]
  ·try simp only[qG]at hb2
   refine qE ?_;change Awp _ _ _ _ _ _ _;refine QK [0,1,7,8] (by rfl) ?_;simp+decide only[QH,ZE,↓qf,↓qc,hwj];try simp only[QT]
   refine⟨j+1,by rw[hse];rfl,Vk _,⟨by omega,?_⟩,by omega⟩;rw[hq,hst,if_neg (fun e=>hb2 e.symm)]
 ·try simp only[qG]at hb1
  refine QC ?_;change Awp _ _ _ _ _ _ _;refine awp_rseq [4] (by rfl) fun K hK=>?_;simp+decide only[qJ,↓qa];apply hK;clear hK K;refine qV ?_;refine QL h zqC (qA (qC)) ?_;simp+decide only[Xn];rw[hq,Bq (by omega)];rfl
theorem qsp(wz:World)(h:AHeap)(v:AVal)(ts:List Str)(s:Str)(hv:IsStrs wz h v ts)(hl:ts.length<=1000000):
 ACall Tryz.prog wz 130 [v, .str s] h (fun r h'=>r= .bool (ts.contains s)/\h'=h):=by
 have hlv:=hv.live;have e:=idxS_in s ts 0;refine qP (n:=9) (rs:=[.tmp 4]) Tryz.func130 rfl rfl rfl rfl (V7 rfl) ?_;simp only[qU];refine awp_rseq [0,1] (by rfl) fun K hK=>?_;simp+decide only[qJ,↓qa];apply hK;clear hK K;refine awp_rseq [4] (by rfl) fun K hK=>?_;simp+decide only[Qw,↓qc];refine QM (V:= .int .i64 (qmJ s ts 0)) (by rfl) (by rfl) (c_indexS wz _ v ts s hv hl) ?_;simp+decide only[qJ,cond_false,qaf,WA,qO,↓qf,qow,↓qa,e];apply hK;clear hK K;refine qV ?_;refine QL h zqC (qA (qC)) ?_;simp+decide only[Xn];all_goals first|rfl|exact⟨rfl,rfl⟩|(simp+decide only[Ka, *];done)|(trace_state;fail)
theorem c_isS1(wz:World)(h:AHeap)(v vt:AVal)(l:List TokC)(ts:List Str)(i:Nat)(k:UInt8)(hv:IsL wz h 5 v (l.map Zb))(hl:l.length<=1000000)(ht:IsStrs wz h vt ts)(hts:ts.length<=100)(hi:i<l.length):
 ACall Tryz.prog wz 125 [v, .int .i64 i, .int .u8 k.toNat,vt] h (fun r h'=>r= .bool (isK l i k ts)/\h'=h):=by
 have hlv:=hv.live;have nv:=Wn hv;have htl:=ht.live;have hR:isK l i k ts=(decide ((l.getD i noT).kind=k) && ts.contains (l.getD i noT).text):=by unfold isK;rw[if_pos hi]
 obtain⟨lc,o,c,hwe⟩:=Yp hv (by omega);have hv2:=hv;rw[hwe]at hv2;obtain⟨e0,e1,-⟩:=UI hv2 hi;have hkd:decide ((i:Int)<(l.length:Int))=true:=by simpa using hi
 obtain⟨t,htt⟩:∃t,t=l.getD i noT:=⟨_,rfl⟩
 rw[<-htt]at e0 e1 hR;have hk:=Yu t.kind k;rw[hR];refine qP (n:=31) (rs:=[.tmp 8]) Tryz.func125 rfl rfl rfl rfl (V7 rfl) ?_;simp only[qU];refine awp_rseq [0,1,2,3] (by rfl) fun K hK=>?_;simp+decide only[qJ,↓qa,Nat.reduceAdd];apply hK;clear hK K;refine awp_rseq [8] (by rfl) fun K hK=>?_;simp+decide only[QH,Zn,QN,Qe,qF,Yh,Zf,Zz,Xk,Zm,Yw,↓qc,↓Qr,Xp Tryz.underlying39,↓qf,↓Xc,qY,qZ,qW,↓Zv,qpu,qpt,qh Tryz.underlying39 UA,↓QR,qaG,↓XP,qd qmr,↓QI,↓QE,qcT,qd ag9,hwe,hkd,e0,e1,hk];repeat (with_reducible refine zqP ?_)
 (refine Wj (V:= .bool (ts.contains t.text)) (f:=_) (cap:=_) (xs:=_) (by first|rfl|(simp+decide only[ZZ,XT,XK,XJ])) (fun hg=>⟨rfl,?_⟩) (fun hg=>qsp wz _ vt ts t.text ht (by omega)) ?_;· (simp+decide only[ZZ,V8,putD,XT,qaH]at hg;simp+decide only[Zo,absS,absV,Qe,XN,evs,JG,hg]<;>try rfl))
 simp+decide only[qJ,Vz,QN,Qe,XT,VI,ZH,qab,qar,qad,↓QE,↓qa];apply hK;clear hK K;refine qV ?_;refine QL h zqC (qA (qC)) ?_;simp+decide only[Xn];all_goals first|rfl|exact⟨rfl,rfl⟩|(simp+decide only[Ka, *];done)|(trace_state;fail)
theorem c_isS0(wz:World)(h:AHeap)(v vt:AVal)(l:List TokC)(ts:List Str)(i:Nat)(k:UInt8)(hv:IsL wz h 5 v (l.map Zb))(hl:l.length<=1000000)(ht:IsStrs wz h vt ts)(hi:¬i<l.length):
 ACall Tryz.prog wz 125 [v, .int .i64 i, .int .u8 k.toNat,vt] h (fun r h'=>r= .bool (isK l i k ts)/\h'=h):=by
 have hlv:=hv.live;have nv:=Wn hv;have htl:=ht.live;have hR:isK l i k ts=false:=by unfold isK;rw[if_neg hi]
 have hkd:decide ((i:Int)<(l.length:Int))=false:=by simpa using hi
 rw[hR];refine qP (n:=31) (rs:=[.tmp 8]) Tryz.func125 rfl rfl rfl rfl (V7 rfl) ?_;simp only[qU];refine awp_rseq [0,1,2,3] (by rfl) fun K hK=>?_;simp+decide only[qJ,↓qa,Nat.reduceAdd];apply hK;clear hK K;refine awp_rseq [8] (by rfl) fun K hK=>?_;simp+decide only[QH,Zn,Qe,qF,Yh,Zf,Zz,Xk,Yw,↓qc,↓Qr,↓qf,↓Xc,qY,qZ,qW,↓Zv,↓QR,↓XP,↓QI,↓QE,nv,hkd]
 (refine qgu (by rfl) (by rfl) ?_)
 simp+decide only[qJ,XU,XT,VI,ZH,qab,qar,qad,↓QE,↓qa];apply hK;clear hK K;refine qV ?_;refine QL h zqC (qA (qC)) ?_;simp+decide only[Xn];all_goals first|rfl|exact⟨rfl,rfl⟩|(simp+decide only[Ka, *];done)|(trace_state;fail)
theorem qsm(wz:World)(h:AHeap)(v vt:AVal)(l:List TokC)(ts:List Str)(i:Nat)(k:UInt8)(hv:IsL wz h 5 v (l.map Zb))(hl:l.length<=1000000)(ht:IsStrs wz h vt ts)(hts:ts.length<=100):
 ACall Tryz.prog wz 125 [v, .int .i64 i, .int .u8 k.toNat,vt] h (fun r h'=>r= .bool (isK l i k ts)/\h'=h):=by
 by_cases hi:i<l.length
 ·exact c_isS1 wz h v vt l ts i k hv hl ht hts hi
 ·exact c_isS0 wz h v vt l ts i k hv hl ht hi
theorem c_nameS1(wz:World)(ha:Asp wz)(h:AHeap)(v:AVal)(l:List TokC)(i:Nat)(hv:IsL wz h 5 v (l.map Zb))(hl:l.length<=1000000)(hi:i<l.length):
 ACall Tryz.prog wz 123 [v, .int .i64 i] h (fun r h'=>r= .bool (qgC wordsO l i)/\Sub h h'):=by
 have hlv:=hv.live;have nv:=Wn hv;have hR:qgC wordsO l i=(decide ((l.getD i noT).kind=1) && decide (qce (l.getD i noT).text=0)):=by unfold qgC;rw[if_pos hi];rfl
 obtain⟨lc,o,c,hwe⟩:=Yp hv (by omega);have hv2:=hv;rw[hwe]at hv2;obtain⟨e0,e1,-⟩:=UI hv2 hi;have hkd:decide ((i:Int)<(l.length:Int))=true:=by simpa using hi
 obtain⟨t,htt⟩:∃t,t=l.getD i noT:=⟨_,rfl⟩
 rw[<-htt]at e0 e1 hR;have hk:decide ((t.kind.toNat:Int)=1)=decide (t.kind=1):=Yu t.kind 1;have hw:∀n:Nat,decide ((n:Int)=0)=decide (n=0):=fun n=>by
  by_cases h:n=0
  ·subst h;rfl
  ·have:(n:Int)≠0:=by omega
   simp[h]
 rw[hR];refine qP (n:=26) (rs:=[.tmp 4]) Tryz.func123 rfl rfl rfl rfl (V7 rfl) ?_;simp only[qU];refine awp_rseq [0,1] (by rfl) fun K hK=>?_;simp+decide only[qJ,↓qa];apply hK;clear hK K;refine awp_rseq [4] (by rfl) fun K hK=>?_;simp+decide only[QH,Zn,Vw,qO,K8,Qe,qF,Yh,Zf,Zz,Xk,Zm,Yw,↓qc,↓Qr,Xp Tryz.underlying39,↓qf,↓Xc,qY,qZ,qW,↓Zv,qpu,qpt,qh Tryz.underlying39 UA,↓QR,qaG,↓XP,qd qmr,↓QI,↓QE,qcT,qd ag9,hwe,hkd,e0,e1,hk];repeat (with_reducible refine zqP ?_)
 refine qaO (g:= .bool (decide (t.kind=1))) (V:= .int .u8 (qce t.text:Nat)) (f:=124) (cap:=[]) (xs:=[.str t.text]) (by rfl) (by rfl) (fun hg=>⟨rfl,by
  have hg':decide (t.kind=1)=true:=by rwa [WY]at hg
  simp+decide only[Zo,Qe,XN,evs,JG,hg']⟩) (fun hg=>qsh wz ha _ t.text) fun h1q18 hs18=>?_
 have hs_h1q18:Sub h h1q18:=Bt zqC hs18;have hr_h1q18:=hs_h1q18;simp+decide only[qJ,cond_false,qaf,WA,Vz,Vw,qO,K8,Qe,XF,Zf,Xk,Zm,↓QI,qY,qZ,qW,↓QE,↓qa,hw];apply hK;clear hK K;refine qV ?_;refine Qk (qA (qC)) ?_;simp+decide only[Xn];exact⟨h,hs18,Vk _⟩
theorem c_nameS0(wz:World)(h:AHeap)(v:AVal)(l:List TokC)(i:Nat)(hv:IsL wz h 5 v (l.map Zb))(hl:l.length<=1000000)(hi:¬i<l.length):
 ACall Tryz.prog wz 123 [v, .int .i64 i] h (fun r h'=>r= .bool (qgC wordsO l i)/\h'=h):=by
 have hlv:=hv.live;have nv:=Wn hv;have hR:qgC wordsO l i=false:=by unfold qgC;rw[if_neg hi]
 have hkd:decide ((i:Int)<(l.length:Int))=false:=by simpa using hi
 rw[hR];refine qP (n:=26) (rs:=[.tmp 4]) Tryz.func123 rfl rfl rfl rfl (V7 rfl) ?_;simp only[qU];refine awp_rseq [0,1] (by rfl) fun K hK=>?_;simp+decide only[qJ,↓qa];apply hK;clear hK K;refine awp_rseq [4] (by rfl) fun K hK=>?_;simp+decide only[QH,Zn,Ya,qF,Yh,Zf,Zz,Xk,Yw,↓qc,↓Qr,↓qf,↓Xc,qY,qZ,qW,↓Zv,↓QR,↓XP,↓QI,↓QE,nv,hkd]
 (refine qgu (by rfl) (by rfl) ?_)
 simp+decide only[qJ,cond_false,qaf,WA,Vz,Ya,XF,Zf,Xk,↓QI,qY,qZ,qW,↓QE,↓qa];apply hK;clear hK K;refine qV ?_;refine QL h zqC (qA (qC)) ?_;simp+decide only[Xn];all_goals first|rfl|exact⟨rfl,rfl⟩|(simp+decide only[Ka, *];done)|(trace_state;fail)
theorem c_nameS(wz:World)(ha:Asp wz)(h:AHeap)(v:AVal)(l:List TokC)(i:Nat)(hv:IsL wz h 5 v (l.map Zb))(hl:l.length<=1000000):
 ACall Tryz.prog wz 123 [v, .int .i64 i] h (fun r h'=>r= .bool (qgC wordsO l i)/\Sub h h'):=by
 by_cases hi:i<l.length
 ·exact c_nameS1 wz ha h v l i hv hl hi
 ·exact(c_nameS0 wz h v l i hv hl hi).mono fun r h' ⟨e1,e2⟩=>⟨e1,by rw[e2];exact Vk _⟩
theorem isK_some{l:List TokC}{i:Nat}{k:UInt8}{ts:List Str}(h:isK l i k ts=true):i<l.length:=by
 unfold isK at h;by_cases hi:i<l.length
 ·exact hi
 ·rw[if_neg hi]at h;cases h
structure GrG where
 k:Nat
 d:Int
 p:Bool
 H:AHeap
theorem qkD{wz:World}{h:AHeap}{k:Nat}{s:Str}(hk:h k=some ⟨[.str s],0⟩):IsStrs wz h (.slice (.own k) 0 1 (.exact 1)) [s]:=qeo (l:=[s]) hk
theorem qoI{l:List TokC}{i k f:Nat}{d:Int}{p:Bool}(hk:k<l.length)(hf:f=l.length+1-k):
 qbf l i f k d p=if (if isK l k 5 [[40]]=true then d+1 else if isK l k 5 [[41]]=true then d-1 else d)=0 then(k+1-i,if isK l k 5 [[40]]=true then p else if isK l k 5 [[41]]=true then p else if isK l k 5 [[58]]=true/\d=1 then true else p)else qbf l i (l.length+1-(k+1)) (k+1) (if isK l k 5 [[40]]=true then d+1 else if isK l k 5 [[41]]=true then d-1 else d) (if isK l k 5 [[40]]=true then p else if isK l k 5 [[41]]=true then p else if isK l k 5 [[58]]=true/\d=1 then true else p):=by
 obtain⟨g,hg⟩:∃g,f=g+1:=⟨l.length-k,by omega⟩
 rw[hg,qbf,if_pos hk,show l.length+1-(k+1)=g by omega]
set_option maxHeartbeats 2000000 in
theorem c_group(wz:World)(h:AHeap)(v:AVal)(l:List TokC)(i:Nat)(hv:IsL wz h 5 v (l.map Zb))(hl:l.length<=1000000):
 ACall Tryz.prog wz 126 [v, .int .i64 i] h (fun r h'=>r= .tuple [.int .i64 (Wu l i).1, .bool (Wu l i).2]/\Sub h h'):=by
 have hlv:=hv.live;have nv:=Wn hv;have hR:Wu l i=if isK l i 5 [[40]]=true then qbf l i (l.length+1-i) i 0 false else(0,false):=rfl
 obtain⟨R,hR'⟩:∃R,R=Wu l i:=⟨_,rfl⟩
 rw[<-hR']at hR|-
 refine qP (n:=51) (rs:=[.tmp 4, .tmp 5]) Tryz.func126 rfl rfl rfl rfl (V7 rfl) ?_;simp only[qU];refine awp_rseq [0,1] (by rfl) fun K hK=>?_;simp+decide only[qJ,↓qa];apply hK;clear hK K;refine qo ?_;refine awp_rseq [0,1,13] (by rfl) fun K hK=>?_;simp+decide only[Qw,↓qc];refine Qd (cs:=[.str [40]]) (by kernel_rfl) fun k1q2 hk1q2=>?_;try have hf_1q2:h k1q2=none:=by first|assumption|(simp only[Bi]at hk1q2;simp only[hk1q2])
 refine QM (V:= .bool (isK l i 5 [[40]])) (by rfl) (by rfl) (qsm wz _ v _ l [[40]] i 5 (hv.mono zqB) hl (qkD zqA) (by decide)) ?_;simp+decide only[qR,UB,Yc,↓qiG];apply hK;clear hK K;refine qz (b:=_) rfl (fun hb1=>?_) (fun hb1=>?_)
 ·try simp only[qG]at hb1
  rw[if_neg (by rw[hb1];decide)]at hR;refine awp_rseq [4,5] (by rfl) fun K hK=>?_;simp+decide only[qJ,↓qa];apply hK;clear hK K;refine qV ?_;try simp only[Xz]
  refine Qk (qA (qA (qC))) ?_;simp+decide only[qR,Zt];rw[hR];exact⟨h,zqB,rfl,Vk _⟩
 ·try simp only[qG]at hb1
  rw[if_pos hb1]at hR;have hil:=isK_some hb1;refine qE ?_;change Awp _ _ _ _ _ _ _;refine awp_rseq [0,1,6,7] (by rfl) fun K hK=>?_;simp+decide only[qJ,↓qa];apply hK;clear hK K;refine qo ?_;refine awp_rseq [0,1,6,7,8] (by rfl) fun K hK=>?_;simp+decide only[Xh,↓qc,↓qa];apply hK;clear hK K;refine qK ?_;refine QD [0,1,6,7,8] (fun g:GrG=>[(0,v),(1, .int .i64 i),(6, .int .i64 g.d),(7, .bool g.p),(8, .int .i64 g.k)]) (fun g:GrG=>g.H) (fun g:GrG=>i<=g.k/\g.k<=l.length/\ -1<=g.d+g.k/\g.d<=g.k/\Sub h g.H/\R=qbf l i (l.length+1-g.k) g.k g.d g.p) (fun g:GrG=>l.length-g.k) ⟨i,0,false,_⟩ (by rfl) (Vk _) ⟨KL _,by simp only;omega,by simp only;omega,by simp only;omega,zqB,hR⟩ ?_;rintro⟨k,d,p,H⟩ ⟨g1,g2,g3,g4,hs_H,g5⟩;simp only at g1 g2 g3 g4 hs_H g5|-
  refine qo ?_;refine awp_rseq [0,1,6,7,8,18] (by rfl) fun K hK=>?_;simp+decide only[QH,qF,Qm,Zz,↓qc,↓Qr,↓qf,nv];apply hK;clear hK K;refine qz (b:=_) rfl (fun hb2=>?_) (fun hb2=>?_)
  ·try simp only[qG]at hb2
   have hk:k<l.length:=by omega
   have hst:=qoI (i:=i) (d:=d) (p:=p) hk rfl;rw[<-g5]at hst;refine qE ?_;change Awp _ _ _ _ _ _ _;refine qo ?_;refine qK ?_;refine qo ?_;refine qK ?_;refine awp_rseq [0,1,6,7,8,21] (by rfl) fun K hK=>?_;simp+decide only[Qw,↓qc];refine Qd (cs:=[.str [40]]) (by kernel_rfl) fun k7q2 hk7q2=>?_;have hn_7q2:H k7q2=none:=by first|assumption|(simp only[Bi]at hk7q2;simp only[hk7q2])
   have hf_7q2:h k7q2=none:=Bj hs_H hn_7q2;refine QM (V:= .bool (isK l k 5 [[40]])) (by rfl) (by rfl) (qsm wz _ v _ l [[40]] k 5 (hv.mono zqB) hl (qkD zqA) (by decide)) ?_;simp+decide only[qJ,↓qa];apply hK;clear hK K;refine qz (b:=_) rfl (fun hb3=>?_) (fun hb3=>?_)
   ·skip
    simp only[if_pos hb3]at hst;have hwd:IntKind.i64.wrap (d+1)=d+1:=wrap_i64 (by omega) (by omega);refine QK [0,1,6,7,8] (by rfl) ?_;simp+decide only[YH,↓qc,↓qf,↓qa,hwd];change Awp _ _ _ _ _ _ _;refine awp_rseq [0,1,6,7,8,45] (by rfl) fun K hK=>?_;simp+decide only[QH,qO,Zm,↓qc,↓qf];apply hK;clear hK K;refine qz (b:=_) rfl (fun hb4=>?_) (fun hb4=>?_)
    ·try simp only[qG]at hb4
     rw[if_pos hb4]at hst;have hw1:IntKind.i64.wrap ((k:Int)+1)=(k:Int)+1:=wrap_i64 (by omega) (by omega);have hw2:((k+1-i:Nat):Int)=(k:Int)+1-i:=by omega
     refine awp_rseq [4,5] (by rfl) fun K hK=>?_;simp+decide only[ZY,qO,qF,ZI,UC,↓qc,↓qf,↓qa];try simp(disch:=omega)only[wrap_i64,wrap_u8]
     apply hK;clear hK K;refine qV ?_;try simp only[Xz]
     refine Qk (qA (qA (qC))) ?_;simp+decide only[qR,Zt];rw[hst];exact⟨_,Vk _,by rw[hw2],zqB⟩
    ·try simp only[qG]at hb4
     rw[if_neg hb4]at hst;have hw1:IntKind.i64.wrap ((k:Int)+1)=((k+1:Nat):Int):=by rw[wrap_i64 (by omega) (by omega)];omega
     refine qE ?_;change Awp _ _ _ _ _ _ _;refine QK [0,1,6,7,8] (by rfl) ?_;simp+decide only[YH,↓qc,↓qf,↓qa];try simp(disch:=omega)only[wrap_i64,wrap_u8]
     try simp only[QT]
     all_goals first
     |exact⟨⟨k+1,d+1,p,_⟩,rfl,Vk _,⟨by simp only;omega,by simp only;omega,by simp only;omega,by simp only;omega,zqB,hst⟩,by simp only;omega⟩
     |exact⟨⟨k+1,d-1,p,_⟩,rfl,Vk _,⟨by simp only;omega,by simp only;omega,by simp only;omega,by simp only;omega,zqB,hst⟩,by simp only;omega⟩
     |exact⟨⟨k+1,d,true,_⟩,rfl,Vk _,⟨by simp only;omega,by simp only;omega,by simp only;omega,by simp only;omega,zqB,hst⟩,by simp only;omega⟩
     |exact⟨⟨k+1,d,p,_⟩,rfl,Vk _,⟨by simp only;omega,by simp only;omega,by simp only;omega,by simp only;omega,zqB,hst⟩,by simp only;omega⟩
     |(trace_state;fail)
   ·skip
    simp only[if_neg (show ¬isK l k 5 [[40]]=true by rw[hb3];decide)]at hst;refine awp_rseq [0,1,6,7,8,28] (by rfl) fun K hK=>?_;simp+decide only[Qw,↓qc];refine Qd (cs:=[.str [41]]) (by kernel_rfl) fun k9q2 hk9q2=>?_;have ne_9q2_7q2:k9q2≠k7q2:=by simp only[Bi]at hk9q2;simp only[Ua,hk9q2]
    have hn_9q2:H k9q2=none:=by first|assumption|(simp only[Bi]at hk9q2;simp only[hk9q2])
    have hf_9q2:h k9q2=none:=Bj hs_H hn_9q2;refine QM (V:= .bool (isK l k 5 [[41]])) (by rfl) (by rfl) (qsm wz _ v _ l [[41]] k 5 (hv.mono zqB) hl (qkD zqA) (by decide)) ?_;simp+decide only[qJ,↓qa];apply hK;clear hK K;refine qz (b:=_) rfl (fun hb5=>?_) (fun hb5=>?_)
    ·skip
     simp only[if_pos hb5]at hst;have hwd:IntKind.i64.wrap (d-1)=d-1:=wrap_i64 (by omega) (by omega);refine QK [0,1,6,7,8] (by rfl) ?_;simp+decide only[ZY,qO,UC,↓qc,↓qf,↓qa,hwd];change Awp _ _ _ _ _ _ _;refine awp_rseq [0,1,6,7,8,45] (by rfl) fun K hK=>?_;simp+decide only[QH,qO,Zm,↓qc,↓qf];apply hK;clear hK K;refine qz (b:=_) rfl (fun hb6=>?_) (fun hb6=>?_)
     ·try simp only[qG]at hb6
      rw[if_pos hb6]at hst;have hw1:IntKind.i64.wrap ((k:Int)+1)=(k:Int)+1:=wrap_i64 (by omega) (by omega);have hw2:((k+1-i:Nat):Int)=(k:Int)+1-i:=by omega
      refine awp_rseq [4,5] (by rfl) fun K hK=>?_;simp+decide only[ZY,qO,qF,ZI,UC,↓qc,↓qf,↓qa];try simp(disch:=omega)only[wrap_i64,wrap_u8]
      apply hK;clear hK K;refine qV ?_;try simp only[Xz]
      refine Qk (qA (qA (qC))) ?_;simp+decide only[qR,Zt];rw[hst];exact⟨_,Vk _,by rw[hw2],zqB⟩
     ·try simp only[qG]at hb6
      rw[if_neg hb6]at hst;have hw1:IntKind.i64.wrap ((k:Int)+1)=((k+1:Nat):Int):=by rw[wrap_i64 (by omega) (by omega)];omega
      refine qE ?_;change Awp _ _ _ _ _ _ _;refine QK [0,1,6,7,8] (by rfl) ?_;simp+decide only[YH,↓qc,↓qf,↓qa];try simp(disch:=omega)only[wrap_i64,wrap_u8]
      try simp only[QT]
      all_goals first
      |exact⟨⟨k+1,d+1,p,_⟩,rfl,Vk _,⟨by simp only;omega,by simp only;omega,by simp only;omega,by simp only;omega,zqB,hst⟩,by simp only;omega⟩
      |exact⟨⟨k+1,d-1,p,_⟩,rfl,Vk _,⟨by simp only;omega,by simp only;omega,by simp only;omega,by simp only;omega,zqB,hst⟩,by simp only;omega⟩
      |exact⟨⟨k+1,d,true,_⟩,rfl,Vk _,⟨by simp only;omega,by simp only;omega,by simp only;omega,by simp only;omega,zqB,hst⟩,by simp only;omega⟩
      |exact⟨⟨k+1,d,p,_⟩,rfl,Vk _,⟨by simp only;omega,by simp only;omega,by simp only;omega,by simp only;omega,zqB,hst⟩,by simp only;omega⟩
      |(trace_state;fail)
    ·skip
     simp only[if_neg (show ¬isK l k 5 [[41]]=true by rw[hb5];decide)]at hst;refine awp_rseq [0,1,6,7,8,35] (by rfl) fun K hK=>?_;simp+decide only[Qw,↓qc];refine Qd (cs:=[.str [58]]) (by kernel_rfl) fun k11q2 hk11q2=>?_;have ne_11q2_7q2:k11q2≠k7q2:=by simp only[Bi]at hk11q2;simp only[Ua,hk11q2]
     have ne_11q2_9q2:k11q2≠k9q2:=by simp only[Bi]at hk11q2;simp only[Ua,hk11q2]
     have hn_11q2:H k11q2=none:=by first|assumption|(simp only[Bi]at hk11q2;simp only[hk11q2])
     have hf_11q2:h k11q2=none:=Bj hs_H hn_11q2;refine QM (V:= .bool (isK l k 5 [[58]])) (by rfl) (by rfl) (qsm wz _ v _ l [[58]] k 5 (hv.mono zqB) hl (qkD zqA) (by decide)) ?_;simp+decide only[ZY,Vz,Ya,XF,Zf,Xk,Zm,↓qc,↓Xc,qY,qZ,qW,↓QI,↓QE,↓qa];apply hK;clear hK K;refine qz (b:=_) rfl (fun hb7=>?_) (fun hb7=>?_)
     ·try simp only[qG]at hb7
      simp only[if_pos hb7]at hst;refine QK [0,1,6,7,8] (by rfl) ?_;simp+decide only[qJ,↓qa];change Awp _ _ _ _ _ _ _;refine awp_rseq [0,1,6,7,8,45] (by rfl) fun K hK=>?_;simp+decide only[QH,qO,Zm,↓qc,↓qf];apply hK;clear hK K;refine qz (b:=_) rfl (fun hb8=>?_) (fun hb8=>?_)
      ·try simp only[qG]at hb8
       rw[if_pos hb8]at hst;have hw1:IntKind.i64.wrap ((k:Int)+1)=(k:Int)+1:=wrap_i64 (by omega) (by omega);have hw2:((k+1-i:Nat):Int)=(k:Int)+1-i:=by omega
       refine awp_rseq [4,5] (by rfl) fun K hK=>?_;simp+decide only[ZY,qO,qF,ZI,UC,↓qc,↓qf,↓qa];try simp(disch:=omega)only[wrap_i64,wrap_u8]
       apply hK;clear hK K;refine qV ?_;try simp only[Xz]
       refine Qk (qA (qA (qC))) ?_;simp+decide only[qR,Zt];rw[hst];exact⟨_,Vk _,by rw[hw2],zqB⟩
      ·try simp only[qG]at hb8
       rw[if_neg hb8]at hst;have hw1:IntKind.i64.wrap ((k:Int)+1)=((k+1:Nat):Int):=by rw[wrap_i64 (by omega) (by omega)];omega
       refine qE ?_;change Awp _ _ _ _ _ _ _;refine QK [0,1,6,7,8] (by rfl) ?_;simp+decide only[YH,↓qc,↓qf,↓qa];try simp(disch:=omega)only[wrap_i64,wrap_u8]
       try simp only[QT]
       all_goals first
       |exact⟨⟨k+1,d+1,p,_⟩,rfl,Vk _,⟨by simp only;omega,by simp only;omega,by simp only;omega,by simp only;omega,zqB,hst⟩,by simp only;omega⟩
       |exact⟨⟨k+1,d-1,p,_⟩,rfl,Vk _,⟨by simp only;omega,by simp only;omega,by simp only;omega,by simp only;omega,zqB,hst⟩,by simp only;omega⟩
       |exact⟨⟨k+1,d,true,_⟩,rfl,Vk _,⟨by simp only;omega,by simp only;omega,by simp only;omega,by simp only;omega,zqB,hst⟩,by simp only;omega⟩
       |exact⟨⟨k+1,d,p,_⟩,rfl,Vk _,⟨by simp only;omega,by simp only;omega,by simp only;omega,by simp only;omega,zqB,hst⟩,by simp only;omega⟩
       |(trace_state;fail)
     ·try simp only[qG]at hb7
      simp only[if_neg (show ¬(isK l k 5 [[58]]=true/\d=1)from fun q=>by rcases hb7 with z|z;(· rw[q.1]at z;cases z);exact z q.2)]at hst;refine qE ?_;change Awp _ _ _ _ _ _ _;refine awp_rseq [0,1,6,7,8,45] (by rfl) fun K hK=>?_;simp+decide only[QH,qO,Zm,↓qc,↓qf];apply hK;clear hK K;refine qz (b:=_) rfl (fun hb9=>?_) (fun hb9=>?_)
      ·try simp only[qG]at hb9
       rw[if_pos hb9]at hst;have hw1:IntKind.i64.wrap ((k:Int)+1)=(k:Int)+1:=wrap_i64 (by omega) (by omega);have hw2:((k+1-i:Nat):Int)=(k:Int)+1-i:=by omega
       refine awp_rseq [4,5] (by rfl) fun K hK=>?_;simp+decide only[ZY,qO,qF,ZI,UC,↓qc,↓qf,↓qa];try simp(disch:=omega)only[wrap_i64,wrap_u8]
       apply hK;clear hK K;refine qV ?_;try simp only[Xz]
       refine Qk (qA (qA (qC))) ?_;simp+decide only[qR,Zt];rw[hst];exact⟨_,Vk _,by rw[hw2],zqB⟩
      ·try simp only[qG]at hb9
       rw[if_neg hb9]at hst;have hw1:IntKind.i64.wrap ((k:Int)+1)=((k+1:Nat):Int):=by rw[wrap_i64 (by omega) (by omega)];omega
       refine qE ?_;change Awp _ _ _ _ _ _ _;refine QK [0,1,6,7,8] (by rfl) ?_;simp+decide only[YH,↓qc,↓qf,↓qa];try simp(disch:=omega)only[wrap_i64,wrap_u8]
       try simp only[QT]
       all_goals first
       |exact⟨⟨k+1,d+1,p,_⟩,rfl,Vk _,⟨by simp only;omega,by simp only;omega,by simp only;omega,by simp only;omega,zqB,hst⟩,by simp only;omega⟩
       |exact⟨⟨k+1,d-1,p,_⟩,rfl,Vk _,⟨by simp only;omega,by simp only;omega,by simp only;omega,by simp only;omega,zqB,hst⟩,by simp only;omega⟩
       |exact⟨⟨k+1,d,true,_⟩,rfl,Vk _,⟨by simp only;omega,by simp only;omega,by simp only;omega,by simp only;omega,zqB,hst⟩,by simp only;omega⟩
       |exact⟨⟨k+1,d,p,_⟩,rfl,Vk _,⟨by simp only;omega,by simp only;omega,by simp only;omega,by simp only;omega,zqB,hst⟩,by simp only;omega⟩
       |(trace_state;fail)
  ·try simp only[qG]at hb2
   have hk:k=l.length:=by omega
   have hst:R=(0,false):=by
    rw[g5,hk,show l.length+1-l.length=0+1 by omega,qbf,if_neg (Nat.lt_irrefl _)]
   refine QC ?_;change Awp _ _ _ _ _ _ _;refine awp_rseq [4,5] (by rfl) fun K hK=>?_;simp+decide only[qJ,↓qa];apply hK;clear hK K;refine qV ?_;refine Qk (qA (qA (qC))) ?_;simp+decide only[qR,Zt];rw[hst];exact⟨H,Vk _,rfl,hs_H⟩
def operV:Option Nat->AVal
 |some n=> .tuple [.int .i64 n, .int .i64 0]
 |none=> .tuple [.int .i64 0, .int .i64 4]
structure QuG where
 n:Nat
 f:Nat
 H:AHeap
theorem qnF{W:Words}{l:List TokC}{i:Nat}(h:qgC W l i=true):i<l.length:=by
 unfold qgC at h;by_cases hi:i<l.length
 ·exact hi
 ·rw[if_neg hi]at h;cases h
theorem qlM(l:List TokC)(i:Nat):∀(f k:Nat) (d:Int) (p:Bool),i<=k->i<=l.length->i+(qbf l i f k d p).1<=l.length
 |0,k,d,p,hk,hi=>by simpa[qbf]using hi
 |f+1,k,d,p,hk,hi=>by
  rw[qbf];by_cases h:k<l.length
  ·rw[if_pos h]
   simp only;generalize (if isK l k 5 [[40]]=true then d+1 else if isK l k 5 [[41]]=true then d-1 else d)=d';generalize (if isK l k 5 [[40]]=true then p else if isK l k 5 [[41]]=true then p else if isK l k 5 [[58]]=true/\d=1 then true else p)=p';by_cases h2:d'=0
   ·rw[if_pos h2];simp only;omega
   ·rw[if_neg h2];exact qlM l i f (k+1) _ _ (by omega) hi
  ·rw[if_neg h];simpa using hi
theorem qnI{l:List TokC}{i:Nat}(hi:i<=l.length):i+(Wu l i).1<=l.length:=by
 unfold Wu;split
 ·exact qlM l i _ i 0 false (KL _) hi
 ·simpa using hi
def qib(l:List TokC):Bool:=if l=[]then true else !(decide ((l.getD 0 noT).kind=2)||decide ((l.getD 0 noT).kind=3)||(decide ((l.getD 0 noT).kind=1) && decide (qce (l.getD 0 noT).text=3)))
structure OpG where
 b:Bool
 H:AHeap
set_option maxHeartbeats 4000000 in
theorem c_operand(wz:World)(ha:Asp wz)(h:AHeap)(v:AVal)(l:List TokC)(hv:IsL wz h 5 v (l.map Zb))(hl:l.length<=1000000):
 ACall Tryz.prog wz 113 [v] h (fun r h'=>r=operV (qbW wordsO l)/\Sub h h'):=by
 have hlv:=hv.live;have nv:=Wn hv;have hR:qbW wordsO l=if qgC wordsO l 0=true then some (if 0<(Wu l (WI wordsO l l.length 1)).1/\(Wu l (WI wordsO l l.length 1)).2=false then(if (Wu l (WI wordsO l l.length 1+(Wu l (WI wordsO l l.length 1)).1)).2=true then WI wordsO l l.length 1+(Wu l (WI wordsO l l.length 1)).1+(Wu l (WI wordsO l l.length 1+(Wu l (WI wordsO l l.length 1)).1)).1 else WI wordsO l l.length 1+(Wu l (WI wordsO l l.length 1)).1)else WI wordsO l l.length 1+(Wu l (WI wordsO l l.length 1)).1)
  else if l=[]then none else if (l.getD 0 noT).kind=2\/(l.getD 0 noT).kind=3\/((l.getD 0 noT).kind=1/\decide (qce (l.getD 0 noT).text=3)=true)then some 1 else none:=rfl
 obtain⟨R,hR'⟩:∃R,R=qbW wordsO l:=⟨_,rfl⟩
 rw[<-hR']at hR|-
 refine qP (n:=82) (rs:=[.tmp 2, .tmp 3]) Tryz.func113 rfl rfl rfl rfl (V7 rfl) ?_;simp only[qU];refine awp_rseq [0] (by rfl) fun K hK=>?_;simp+decide only[qJ,↓qa];apply hK;clear hK K;refine qo ?_;refine awp_rseq [0,11] (by rfl) fun K hK=>?_;simp+decide only[Qw,↓qc];refine qM (by rfl) (by rfl) (c_nameS wz ha _ v l 0 hv hl) fun x1q1 h1q1 hx1q1=>?_;obtain⟨rfl,hs1⟩:=hx1q1;have hs_h1q1:Sub h h1q1:=Bt zqC hs1;have hr_h1q1:=hs_h1q1;simp+decide only[qR,UB,Yc,↓qiG];apply hK;clear hK K;refine qz (b:=_) rfl (fun hb1=>?_) (fun hb1=>?_)
 ·try simp only[qG]at hb1
  rw[if_neg (by rw[hb1];decide)]at hR;have hR2:R=if qib l=true then none else some 1:=by
   rw[hR];unfold qib;by_cases hl0:l=[]
   ·rw[if_pos hl0,if_pos hl0];rfl
   ·rw[if_neg hl0,if_neg hl0]
    by_cases q:(l.getD 0 noT).kind=2\/(l.getD 0 noT).kind=3\/((l.getD 0 noT).kind=1/\decide (qce (l.getD 0 noT).text=3)=true)
    ·rw[if_pos q,if_neg]
     simp only[decide_eq_true_eq,Jj,decide_eq_false_iff_not,VD,Bu];rintro⟨⟨q1,q2⟩,q3⟩;rcases q with q|q|q
     ·exact q1 q
     ·exact q2 q
     ·exact q3 q.1 (of_decide_eq_true q.2)
    ·rw[if_neg q,if_pos]
     simp only[decide_eq_true_eq,Jj,decide_eq_false_iff_not,VD,Bu];exact⟨⟨fun z=>q (.inl z),fun z=>q (.inr (.inl z))⟩,fun z1 z2=>q (.inr (.inr ⟨z1,decide_eq_true z2⟩))⟩
  clear hR;refine qo ?_;have mcase:(∃(lc:AM.Loc) (o:Nat) (c:Cap),v=v/\decide ((l.length:Int)=0)=true/\True/\True/\True/\True/\True/\True/\qib l=true)\/
   (∃(lc:AM.Loc) (o:Nat) (c:Cap),v= .slice lc o l.length c/\decide ((l.length:Int)=0)=false/\((0:Int)<l.length)=True/\decide (((l.getD 0 noT).kind.toNat:Int)=2)=true/\True/\True/\rd wz h1q1 lc o= .int .u8 (l.getD 0 noT).kind.toNat/\True/\qib l=false)\/
   (∃(lc:AM.Loc) (o:Nat) (c:Cap),v= .slice lc o l.length c/\decide ((l.length:Int)=0)=false/\((0:Int)<l.length)=True/\decide (((l.getD 0 noT).kind.toNat:Int)=2)=false/\decide (((l.getD 0 noT).kind.toNat:Int)=3)=true/\True/\rd wz h1q1 lc o= .int .u8 (l.getD 0 noT).kind.toNat/\True/\qib l=false)\/
   (∃(lc:AM.Loc) (o:Nat) (c:Cap),v= .slice lc o l.length c/\decide ((l.length:Int)=0)=false/\((0:Int)<l.length)=True/\decide (((l.getD 0 noT).kind.toNat:Int)=2)=false/\decide (((l.getD 0 noT).kind.toNat:Int)=3)=false/\decide (((l.getD 0 noT).kind.toNat:Int)=1)=false/\rd wz h1q1 lc o= .int .u8 (l.getD 0 noT).kind.toNat/\True/\qib l=true)\/
   (∃(lc:AM.Loc) (o:Nat) (c:Cap),v= .slice lc o l.length c/\decide ((l.length:Int)=0)=false/\((0:Int)<l.length)=True/\decide (((l.getD 0 noT).kind.toNat:Int)=2)=false/\decide (((l.getD 0 noT).kind.toNat:Int)=3)=false/\decide (((l.getD 0 noT).kind.toNat:Int)=1)=true/\rd wz h1q1 lc o= .int .u8 (l.getD 0 noT).kind.toNat/\rd wz h1q1 lc (o+1)= .str (l.getD 0 noT).text/\qib l= !decide (((qce (l.getD 0 noT).text:Nat):Int)=3)):=by
   have hb:qib l=if l=[]then true else !(decide ((l.getD 0 noT).kind=2)||decide ((l.getD 0 noT).kind=3)||(decide ((l.getD 0 noT).kind=1) && decide (qce (l.getD 0 noT).text=3))):=rfl
   by_cases hl0:l=[]
   ·rw[if_pos hl0]at hb
    exact .inl ⟨.base 0,0, .exact 0,rfl,by rw[hl0];rfl,trivial,trivial,trivial,trivial,trivial,trivial,hb⟩
   ·rw[if_neg hl0]at hb
    have hn:0<l.length:=Bv.2 hl0;obtain⟨lc,o,c,hwe⟩:=Yp hv hn;have hv2:=hv.mono hr_h1q1;rw[hwe]at hv2;obtain⟨e0,e1,-⟩:=UI hv2 hn;rw[K9,K8]at e0 e1;have hkd:decide ((l.length:Int)=0)=false:=by rw[decide_eq_false_iff_not];omega
    have hp:((0:Int)<l.length)=True:=eq_true (by omega);obtain⟨t,ht⟩:∃t,t=l.getD 0 noT:=⟨_,rfl⟩
    rw[<-ht]at e0 e1 hb|-
    have z2:decide ((t.kind.toNat:Int)=2)=decide (t.kind=2):=Yu t.kind 2;have z3:decide ((t.kind.toNat:Int)=3)=decide (t.kind=3):=Yu t.kind 3;have z1:decide ((t.kind.toNat:Int)=1)=decide (t.kind=1):=Yu t.kind 1;rw[z1,z2,z3];by_cases q2:t.kind=2
    ·exact .inr (.inl ⟨lc,o,c,hwe,hkd,hp,by simpa using q2,trivial,trivial,e0,trivial,by rw[hb,decide_eq_true q2];rfl⟩)
    ·rw[decide_eq_false q2]at hb
     by_cases q3:t.kind=3
     ·exact .inr (.inr (.inl ⟨lc,o,c,hwe,hkd,hp,by simpa using q2,by simpa using q3,trivial,e0,trivial,by rw[hb,decide_eq_true q3];rfl⟩))
     ·rw[decide_eq_false q3]at hb
      by_cases q1:t.kind=1
      ·rw[decide_eq_true q1]at hb
       refine .inr (.inr (.inr (.inr ⟨lc,o,c,hwe,hkd,hp,by simpa using q2,by simpa using q3,by simpa using q1,e0,e1,?_⟩)));rw[hb,VJ,VJ,Vz];congr 1;by_cases q:qce t.text=3
       ·rw[q];rfl
       ·rw[decide_eq_false q,decide_eq_false (by omega)]
      ·exact .inr (.inr (.inr (.inl ⟨lc,o,c,hwe,hkd,hp,by simpa using q2,by simpa using q3,by simpa using q1,e0,trivial,by rw[hb,decide_eq_false q1];rfl⟩)))
  refine awp_rseq [43] (by kernel_rfl) fun K hK=>?_;suffices hM:∀g:OpG,g.b=qib l/\Sub h1q1 g.H->K [(43, .bool g.b)] (g.H) by
   rcases mcase with⟨lc,o,c,hwe,hkd,hp,hk2,hk3,hk1,e0,e1,hbad⟩|⟨lc,o,c,hwe,hkd,hp,hk2,hk3,hk1,e0,e1,hbad⟩|⟨lc,o,c,hwe,hkd,hp,hk2,hk3,hk1,e0,e1,hbad⟩|⟨lc,o,c,hwe,hkd,hp,hk2,hk3,hk1,e0,e1,hbad⟩|⟨lc,o,c,hwe,hkd,hp,hk2,hk3,hk1,e0,e1,hbad⟩<;>(
    simp+decide only[QH,Zn,Vw,qO,K8,Qe,Yh,Zf,Xk,Zm,Yw,UR,K9,↓qc,↓Qr,Xp Tryz.underlying39,↓qf,↓Xc,qY,qZ,qW,↓Zv,qh Tryz.underlying39 UA,↓QR,qaG,↓XP,qd qmr,↓QI,↓qaA,qcT,qd ag9,nv,hwe,hkd,hp,hk2,hk3,hk1,e0,e1,Bz,gb_no];have hs27r:Sub h1q1 h1q1:=Vk _;first
    |(refine qaO (g:= .tuple []) (V:= .int .u8 0) (f:=0) (cap:=[]) (xs:=[]) (by rfl) (by rfl) (fun hg=>absurd hg (by decide)) (fun hg=>absurd hg (by decide)) fun h2q27 hs27=>?_)
    |(refine qaO (g:= .bool true) (V:= .int .u8 0) (f:=0) (cap:=[]) (xs:=[]) (by rfl) (by rfl) (fun hg=>absurd hg (by decide)) (fun hg=>absurd hg (by decide)) fun h2q27 hs27=>?_)
    |(refine qaO (g:= .bool false) (V:= .int .u8 (qce (l.getD 0 noT).text:Nat)) (f:=124) (cap:=[]) (xs:=[.str (l.getD 0 noT).text]) (by rfl) (by rfl) (fun _=>⟨rfl,rfl⟩) (fun _=>qsh wz ha _ _) fun h2q27 hs27=>?_)
    simp+decide only[Zp,Vz,Vw,qO,K8,Qe,XF,Zf,Xk,UR,↓QI,qY,qZ,qW,↓qaA,↓QE,gb_no];first
    |exact hM ⟨_,_⟩ ⟨hbad.symm,by assumption⟩
    |(trace_state;fail))
  intro g hb_2;apply hK;clear hK K;refine qz (b:=_) rfl (fun hb2=>?_) (fun hb2=>?_)
  ·skip
   refine awp_rseq [2,3] (by rfl) fun K hK=>?_;simp+decide only[qJ,↓qa];apply hK;clear hK K;refine qV ?_;try simp only[Xz]
   refine Qk (qA (qA (qC))) ?_;simp+decide only[qR,Zt];rw[hR2,if_pos (by rw[<-hb_2.1];exact hb2)];exact⟨g.H,Vk _,rfl,hs_h1q1.trans hb_2.2⟩
  ·skip
   refine qE ?_;change Awp _ _ _ _ _ _ _;refine awp_rseq [2,3] (by rfl) fun K hK=>?_;simp+decide only[qJ,↓qa];apply hK;clear hK K;refine qV ?_;try simp only[Xz]
   refine Qk (qA (qA (qC))) ?_;simp+decide only[qR,Zt];rw[hR2,if_neg (by rw[<-hb_2.1,hb2];decide)];exact⟨g.H,Vk _,rfl,hs_h1q1.trans hb_2.2⟩
 ·try simp only[qG]at hb1
  rw[if_pos hb1]at hR;have hn1:=qnF hb1;refine qE ?_;change Awp _ _ _ _ _ _ _;refine awp_rseq [0,4] (by rfl) fun K hK=>?_;simp+decide only[qJ,↓qa];apply hK;clear hK K;refine qo ?_;refine qK ?_;refine QD [0,4] (fun g:QuG=>[(0,v),(4, .int .i64 g.n)]) (fun g:QuG=>g.H) (fun g:QuG=>Sub h g.H/\g.n<=l.length/\l.length<=g.f+g.n/\WI wordsO l l.length 1=WI wordsO l g.f g.n) (fun g:QuG=>l.length-g.n) ⟨1,l.length,_⟩ (by rfl) (Vk _) ⟨zqB,by simp only;omega,by simp only;omega,rfl⟩ ?_;rintro⟨n,f,H⟩ ⟨hs_H,g1,g2,g3⟩;simp only at hs_H g1 g2 g3|-
  refine qo ?_;obtain⟨kb,hkb⟩:∃kb,kb=isK l n 1 [[79,70],[73,78]]:=⟨_,rfl⟩
  refine awp_rseq [0,4,53] (by rfl) fun K hK=>?_;simp+decide only[Qw,↓qc];refine Qd (cs:=[.str [79,70], .str [73,78]]) (by kernel_rfl) fun k6q2 hk6q2=>?_;have hn_6q2:H k6q2=none:=by first|assumption|(simp only[Bi]at hk6q2;simp only[hk6q2])
  have hf_6q2:h k6q2=none:=Bj hs_H hn_6q2;refine QM (V:= .bool kb) (by rfl) (by rfl) (by rw[hkb];exact qsm wz _ v _ l _ n 1 (hv.mono zqB) hl (qeo (l:=[[79,70],[73,78]]) zqA) (by decide)) ?_;simp+decide only[QH,Vz,Ya,XF,qaH,XK,XJ,ZI,qmc,implies_true,agP,Us,Xk,↓qc,↓Xc,qY,qZ,qW,↓QI];try simp(disch:=omega)only[wrap_i64,wrap_u8]
  refine qaO (g:= .bool kb) (V:= .bool (qgC wordsO l (n+1))) (f:=123) (cap:=[]) (xs:=[v, .int .i64 ((n+1:Nat):Int)]) (by rfl) (by rfl) (fun hg=>⟨rfl,by
   have hg':kb=true:=by rwa [WY]at hg
   simp+decide only[Zo,Qe,XN,evs,JG,hg'];rfl⟩) (fun hg=>c_nameS wz ha _ v l (n+1) (hv.mono zqB) hl) fun h6q8 hs68=>?_
  have hs_h6q8:Sub h h6q8:=Bt zqC hs68;have hr_h6q8:Sub H h6q8:=Bt zqC hs68;have eb_6q2:=hs68 k6q2 _ zqA;simp+decide only[qR,XT,qab,qar,qad,↓QE];apply hK;clear hK K;refine qz (b:=_) rfl (fun hb3=>?_) (fun hb3=>?_)
  ·try simp only[qG]at hb3
   obtain⟨q1,q2⟩:=hb3;have hn2:=qnF q2;obtain⟨f',hf'⟩:∃f',f=f'+1:=⟨f-1,by omega⟩
   rw[hf',WI,if_pos ⟨by rw[<-hkb];exact q1,q2⟩]at g3;refine qE ?_;change Awp _ _ _ _ _ _ _;refine qK ?_;refine QK [0,4] (by rfl) ?_;simp+decide only[YH,↓qc,↓qf,↓qa];try simp(disch:=omega)only[wrap_i64,wrap_u8]
   try simp only[QT]
   exact⟨⟨n+2,f',_⟩,rfl,Vk _,⟨zqB,by simp only;omega,by simp only;omega,g3⟩,by simp only;omega⟩
  ·try simp only[qG]at hb3
   have g4:WI wordsO l l.length 1=n:=by
    rw[g3];cases f with
    |zero=>rfl
    |succ f'=>
     rw[WI,if_neg];rw[<-hkb];rintro⟨q1,q2⟩;rcases hb3 with z|z
     ·rw[q1]at z;cases z
     ·rw[q2]at z;cases z
   rw[g4]at hR;obtain⟨g,hg⟩:∃g,g=Wu l n:=⟨_,rfl⟩
   have hgl:=qnI (l:=l) g1;rw[<-hg]at hR hgl;refine QC ?_;change Awp _ _ _ _ _ _ _;refine awp_rseq [0,4,5,6] (by rfl) fun K hK=>?_;simp+decide only[Qw,↓qc];refine qM (by rfl) (by rfl) (c_group wz _ v l n (hv.mono zqB) hl) fun x8q2 h8q2 hx8q2=>?_;obtain⟨rfl,hs8⟩:=hx8q2;rw[<-hg];have hs_h8q2:Sub h h8q2:=Bt zqC hs8;have hr_h8q2:Sub h6q8 h8q2:=Bt zqC hs8;have eb_6q2:=hs8 k6q2 _ zqA;simp+decide only[Xh,Xo,Xi,Xy,↓qc,↓Xr,↓qa,Nat.reduceAdd];apply hK;clear hK K;refine awp_rseq [0,4,5,6] (by rfl) fun K hK=>?_;simp+decide only[ZY,qF,ZI,↓qc,↓qf,↓qa];try simp(disch:=omega)only[wrap_i64,wrap_u8]
   apply hK;clear hK K;refine qo ?_;refine awp_rseq [0,4,70] (by rfl) fun K hK=>?_;simp+decide only[QH,Vz,Ya,XF,Zf,WL,UB,Yc,qkk,qkj,↓qc,↓qf,↓Xc,qY,qZ,qW,↓qbl,↓QE];apply hK;clear hK K;refine qz (b:=_) rfl (fun hb4=>?_) (fun hb4=>?_)
   ·try simp only[qG]at hb4
    rw[if_pos ⟨by omega,hb4.2⟩]at hR;obtain⟨g',hg'⟩:∃g',g'=Wu l (n+g.1):=⟨_,rfl⟩
    have hgl':=qnI (l:=l) (i:=n+g.1) (by omega);rw[<-hg']at hR hgl';refine awp_rseq [4,7,8] (by rfl) fun K hK=>?_;simp+decide only[Qw,↓qc];refine qM (by rfl) (by rfl) (c_group wz _ v l (n+g.1) (hv.mono zqB) hl) fun x11q2 h11q2 hx11q2=>?_;obtain⟨rfl,hs11⟩:=hx11q2;rw[<-hg'];have hs_h11q2:Sub h h11q2:=Bt zqC hs11;have hr_h11q2:Sub h8q2 h11q2:=Bt zqC hs11;have eb_6q2:=hs11 k6q2 _ zqA;simp+decide only[Xh,Xo,Xi,Xy,↓qc,↓Xr,↓qa,Nat.reduceAdd];apply hK;clear hK K;refine awp_rseq [4,7,77] (by rfl) fun K hK=>?_;simp+decide only[Qw,↓qc];apply hK;clear hK K;refine qz (b:=_) rfl (fun hb5=>?_) (fun hb5=>?_)
    ·skip
     rw[if_pos hb5]at hR;refine QK [4] (by rfl) ?_;simp+decide only[ZY,qF,ZI,↓qc,↓qf,↓qa];try simp(disch:=omega)only[wrap_i64,wrap_u8]
     change Awp _ _ _ _ _ _ _;refine awp_rseq [2,3] (by rfl) fun K hK=>?_;simp+decide only[Xh,↓qc,↓qa];apply hK;clear hK K;refine qV ?_;refine QL h zqC (qA (qA (qC))) ?_;simp+decide only[qR,Zt];rw[hR];exact⟨rfl,zqB⟩
    ·skip
     rw[if_neg (by rw[hb5];decide)]at hR;refine qE ?_;change Awp _ _ _ _ _ _ _;refine awp_rseq [2,3] (by rfl) fun K hK=>?_;simp+decide only[Xh,↓qc,↓qa];apply hK;clear hK K;refine qV ?_;refine QL h zqC (qA (qA (qC))) ?_;simp+decide only[qR,Zt];rw[hR];exact⟨rfl,zqB⟩
   ·try simp only[qG]at hb4
    rw[if_neg (by
     rintro⟨q1,q2⟩;rcases hb4 with z|z
     ·omega
     ·rw[q2]at z;cases z)]at hR
    refine qE ?_;change Awp _ _ _ _ _ _ _;refine awp_rseq [2,3] (by rfl) fun K hK=>?_;simp+decide only[Xh,↓qc,↓qa];apply hK;clear hK K;refine qV ?_;refine QL h zqC (qA (qA (qC))) ?_;simp+decide only[qR,Zt];rw[hR];exact⟨rfl,zqB⟩
end Go.Proofs.YtgiadjbiimkbiaaGreatDoor
namespace Go.AM
theorem qco{P:Program}{wz:World}{ops rest:List Oper}{s:Slots}{h:AHeap}{K:Slots->AHeap->Prop}{dst:Option Tmp}{ty:TypeId}{pos:String}{af:Array Edge}{ts:Array TypeId}{t u e:TypeId}{d:TypeDesc}{x y:Operand}{v v':AVal}{es by':Nat}{z:Value}{xs ys:List (List AVal)}
 (h0:ts[0]?=some t) (h1:ts[1]?=some u) (ht:P.underlying t=some (.slice e)) (hu:P.underlying u=some d) (hd:∀k,d≠ .int k)
 (hs:Zy P e=some es) (hb:qdF P e=some by') (hz:Uy P e=some z) (hzs:z.cells.size=es) (hes:es≠0)
 (hx:ev s x=ZA v) (hv:IsL wz h es v xs) (hy:ev s y=v') (hv':IsL wz h es v' ys) (hne:ys.length≠0)
 (hl:(xs.length+ys.length)*by'<=140737488355328) (hl':xs.length+ys.length<4611686018427387904)
 (hk:∀k,h k=none->IsL wz (h.set k ⟨(xs++ys).flatten,0⟩) es (.slice (.own k) 0 (xs.length+ys.length) (.grow es)) (xs++ys)->Qp P wz ops rest (putD s dst (.slice (.own k) 0 (xs.length+ys.length) (.grow es))) (h.set k ⟨(xs++ys).flatten,0⟩) K):
 Qp P wz ops (⟨dst, .call ⟨.builtin .append,[x,y].toArray,ts⟩,ty,pos,af,none⟩::rest) s h K:=by
 obtain⟨s1,s2,s3⟩:=hv'.src;have hw:∀x∈xs++ys,x.length=es:=fun x hx=>by
  rcases JX.1 hx with h|h
  ·exact hv.wide x h
  ·exact hv'.wide x h
 have hal:allLive (xs++ys).flatten=true:=by rw[Vv,YA,hv.allLive,hv'.allLive];rfl
 have key:∀k,h k=none->Qp P wz ops rest (putD s dst (.slice (.own k) 0 (xs.length+ys.length) (.grow es))) (h.set k ⟨xs.flatten++ys.flatten,0⟩) K:=fun k hk0=>by
  have:=hk k hk0 (by rw[<-Jd];exact BA (Vj _ _ _) hw rfl hal (.grow es) rfl)
  rwa [Vv]at this
 rw[qcY];simp only[XN,evs,eop,hx,hy,qgl,h0,h1,ht,hu,hs,hb,hz,s1];refine⟨hd,⟨hes,hzs⟩,s2,?_⟩;cases hv with
 |nil=>
  simp only[ZA];simp only[Jr,JF,List.nil_append,List.flatten_nil]at hl hl' key;exact⟨fun e0=>absurd e0 hne,fun _=>⟨⟨hl,hl'⟩,fun k hk0 _=>by rw[s3];exact key k hk0⟩⟩
 |mk lc o n c xs hn hw hc hl2 hcap=>
  subst hn;simp only[ZA];refine⟨fun h1=>by omega,fun _=>⟨⟨by rw[hc];exact hl2,hl,hl'⟩,fun k hk0 _=>?_⟩⟩;rw[hc,s3];exact key k hk0
theorem qms{P:Program}{wz:World}{ops rest:List Oper}{s:Slots}{H:AHeap}{K:Slots->AHeap->Prop}{dst:Option Tmp}{ty:TypeId}{pos:String}{af:Array Edge}{ts:Array TypeId}{t u e:TypeId}{d:TypeDesc}{x y:Operand}{v':AVal}{es by' k:Nat}{c:Cap}{z:Value}{xs ys:List (List AVal)}
 (h0:ts[0]?=some t) (h1:ts[1]?=some u) (ht:P.underlying t=some (.slice e)) (hu:P.underlying u=some d) (hd:∀k,d≠ .int k)
 (hs:Zy P e=some es) (hb:qdF P e=some by') (hz:Uy P e=some z) (hzs:z.cells.size=es) (hes:es≠0)
 (hx:ev s x= .slice (.own k) 0 xs.length c) (hc:c= .exact xs.length\/c= .grow es) (hk:H k=some ⟨xs.flatten,0⟩) (hw:∀x∈xs,x.length=es) (hal:allLive xs.flatten=true) (hy:ev s y=v') (hv':IsL wz H es v' ys) (hsc:Qu ys.flatten=true) (hne:ys.length≠0)
 (hl:(xs.length+ys.length)*by'<=140737488355328) (hl':xs.length+ys.length<4611686018427387904)
 (hkk:∀k' H',H' k'=some ⟨(xs++ys).flatten,0⟩->(H k'=none\/k'=k)->(∀j d,H j=some d->j≠k->H' j=some d/\j≠k')->Qp P wz ops rest (putD s dst (.slice (.own k') 0 (xs.length+ys.length) (.grow es))) H' K):
 Qp P wz ops (⟨dst, .call ⟨.builtin .append,[x,y].toArray,ts⟩,ty,pos,af,none⟩::rest) s H K:=by
 rcases hc with rfl|rfl
 ·refine qco (v:= .slice (.own k) 0 xs.length (.exact xs.length)) h0 h1 ht hu hd hs hb hz hzs hes hx (BA hk hw rfl hal (.exact _) (KL _)) hy hv' hne hl hl' fun k' hk' _=>?_
  refine hkk k' _ (Vj _ _ _) (.inl hk') fun j d hj _=>?_;have hne':j≠k':=fun e=>by subst e;rw[hk']at hj;cases hj
  exact⟨(Vi _ _ hne').trans hj,hne'⟩
 ·have hlen:xs.flatten.length / es=xs.length:=by rw[flatten_len hw,Vo _ (Vn hes)]
  refine qcy (zs:=xs) (H0:=H.del k) (b:=some ⟨k,xs.flatten⟩) h0 h1 ht hu hd hs hb hz hzs hes (by rw[hx];simp only[qgF,hlen]) ⟨by simp[BC],by simp only;rw[flatten_len hw];exact BD _ _,hal⟩ rfl hw ?_ hy hv' hsc hl hl' fun b' h' o1 o2 o3=>?_
  ·intro j d hj
   by_cases e:j=k
   ·subst e
    rw[show qgG (H.del j) (some ⟨j,xs.flatten⟩)=(H.del j).set j ⟨xs.flatten,0⟩from rfl,Vj]at hj;rw[<-hj];exact hk
   ·rw[show qgG (H.del k) (some ⟨k,xs.flatten⟩)=(H.del k).set k ⟨xs.flatten,0⟩from rfl,Vi _ _ e]at hj
    simpa[BC,e]using hj
  ·cases b' with
   |none=>
    exfalso;have e0:((xs++ys).flatten).length=0:=by rw[<-o2];rfl
    have hw2:∀x∈xs++ys,x.length=es:=fun x hx=>by
     rcases JX.1 hx with h|h
     ·exact hw x h
     ·exact hv'.wide x h
    rw[flatten_len hw2,Jd]at e0;rcases BF.1 e0 with e|e
    ·omega
    ·exact hes e
   |some b'=>
    obtain⟨kb,cells⟩:=b';have hcl:cells=(xs++ys).flatten:=o2;subst hcl;have hw2:∀x∈xs++ys,x.length=es:=fun x hx=>by
     rcases JX.1 hx with h|h
     ·exact hw x h
     ·exact hv'.wide x h
    have hlen2:(xs++ys).flatten.length / es=xs.length+ys.length:=by rw[flatten_len hw2,Vo _ (Vn hes),Jd]
    have hkb:(H.del k) kb=none:=o1.1;have hr:=hkk kb h' (o3 _ _ (Vj _ _ _)) (by
     by_cases e:kb=k
     ·exact .inr e
     ·left;simpa[BC,e]using hkb) (fun j d hj hjk=>by
     have hdj:(H.del k) j=some d:=by simpa[BC,hjk]using hj
     have hjb:j≠kb:=fun e=>by subst e;rw[hdj]at hkb;cases hkb
     exact⟨o3 _ _ ((Vi _ _ hjb).trans hdj),hjb⟩)
    simp only[qgF,hlen2];exact hr
def emp:AHeap:=fun _=>none
def one(k:Nat)(b:Blk):AHeap:=fun j=>if j=k then some b else none
theorem one_at(k:Nat)(b:Blk):one k b k=some b:=by simp[one]
theorem qlE{k j:Nat}(b:Blk)(h:j≠k):one k b j=none:=by simp[one,h]
theorem qlD{k j:Nat}{b c:Blk}(h:one k b j=some c):j=k/\c=b:=by
 by_cases e:j=k
 ·subst e;rw[one_at]at h;exact⟨rfl,(Option.some.inj h).symm⟩
 ·rw[qlE b e]at h;cases h
def disj(p q:AHeap):Prop:=∀k,p k=none\/q k=none
theorem disj.symm{p q:AHeap}(h:disj p q):disj q p:=fun k=>(h k).symm
theorem qsa(p:AHeap):disj p emp:=fun _=> .inr rfl
def Sep(ps:List AHeap)(h:AHeap):Prop:=(∀p∈ps,Sub p h)/\ps.Pairwise disj
section
variable {ps qs:List AHeap} {h h':AHeap}
theorem Sep.perm(hs:Sep ps h)(hp:ps.Perm qs):Sep qs h:=⟨fun p hq=>hs.1 p (hp.mem_iff.2 hq),(hp.pairwise_iff fun h=>disj.symm h).1 hs.2⟩
theorem Sep.forget(hs:Sep ps h)(hh:Sub h h'):Sep ps h':=⟨fun p hp=>(hs.1 p hp).trans hh,hs.2⟩
theorem Sep.sub(hs:Sep ps h)(hp:qs.Sublist ps):Sep qs h:=⟨fun p hq=>hs.1 p (hp.subset hq),hs.2.sublist hp⟩
theorem Sep.in_(hs:Sep ps h){i:Nat}{p:AHeap}(hi:ps[i]?=some p):Sub p h:=hs.1 p (List.mem_of_getElem? hi)
theorem Sep.at_(hs:Sep ps h){i k:Nat}{b:Blk}(hi:ps[i]?=some (one k b)):h k=some b:=hs.in_ hi k b (one_at k b)
theorem Sep.apart(hs:Sep ps h){i j:Nat}{p q:AHeap}(hi:ps[i]?=some p)(hj:ps[j]?=some q)(hij:i≠j):disj p q:=by
 obtain⟨hi1,hi2⟩:=Jz.1 hi;obtain⟨hj1,hj2⟩:=Jz.1 hj;have:=BG.1 hs.2;rcases Nat.lt_or_gt_of_ne hij with h1|h1
 ·have:=this i j hi1 hj1 h1
  rwa [hi2,hj2]at this
 ·have:=this j i hj1 hi1 h1
  rw[hi2,hj2]at this;exact this.symm
theorem Sep.ne(hs:Sep ps h){i j k l:Nat}{b c:Blk}(hi:ps[i]?=some (one k b))(hj:ps[j]?=some (one l c))(hij:i≠j):k≠l:=fun e=>by
 subst e;rcases hs.apart hi hj hij k with z|z<;>rw[one_at]at z<;>cases z
theorem Sep.not(hs:Sep ps h){i j k:Nat}{b:Blk}{p:AHeap}(hi:ps[i]?=some (one k b))(hj:ps[j]?=some p)(hij:i≠j):p k=none:=by
 rcases hs.apart hi hj hij k with z|z
 ·rw[one_at]at z;cases z
 ·exact z
theorem Sub.off{p h:AHeap}(hs:Sub p h){k:Nat}(hk:p k=Option.none)(b:Blk):Sub p (h.set k b):=fun j c hj=>by
 have e:j≠k:=fun e=>by subst e;rw[hk]at hj;cases hj
 rw[Vi _ _ e];exact hs _ _ hj
theorem Sep.lay(hs:Sep ps h){k:Nat}(hk:h k=none)(b:Blk):Sep (ps++[one k b]) (h.set k b):=by
 have hn:∀p∈ps,p k=none:=fun p hp=>(hs.1 p hp).none hk;refine⟨fun p hp=>?_,?_⟩
 ·rcases JX.1 hp with hp|hp
  ·exact(hs.1 p hp).off (hn p hp) b
  ·rw[V9.1 hp]
   intro j c hj;obtain⟨rfl,rfl⟩:=qlD hj;exact Vj _ _ _
 ·rw[BH]
  refine⟨hs.2,by simp,fun p hp q hq j=>?_⟩;rw[V9.1 hq];by_cases e:j=k
  ·subst e;exact .inl (hn p hp)
  ·exact .inr (qlE b e)
theorem qou{α:Type}{R:α->α->Prop}(hsym:∀a b,R a b->R b a){l:List α}{i:Nat}{x:α}(hl:l.Pairwise R)(hx:∀j y,j≠i->l[j]?=some y->R x y):(l.set i x).Pairwise R:=by
 rw[BG]at hl|-
 intro a b ha hb hab;rw[BI]at ha hb;rw[BJ,BJ];by_cases e1:i=a
 ·subst e1
  rw[if_pos rfl,if_neg (by omega)];exact hx b _ (by omega) (JD hb)
 ·rw[if_neg e1]
  by_cases e2:i=b
  ·subst e2
   rw[if_pos rfl];exact hsym _ _ (hx a _ (by omega) (JD ha))
  ·rw[if_neg e2]
   exact hl a b ha hb hab
theorem Sep.turn(hs:Sep ps h){i:Nat}{p':AHeap}(hp:Sub p' h')(hq:∀j q,j≠i->ps[j]?=some q->Sub q h'/\disj p' q):Sep (ps.set i p') h':=by
 refine⟨fun p hm=>?_,qou (fun a b=>disj.symm) hs.2 fun j y h1 h2=>(hq j y h1 h2).2⟩;obtain⟨j,hj⟩:=List.mem_iff_getElem?.1 hm;rw[K5]at hj;by_cases e:i=j
 ·rw[if_pos e]at hj
  split at hj
  ·cases hj;exact hp
  ·cases hj
 ·rw[if_neg e]at hj
  exact(hq j p (fun z=>e z.symm) hj).1
theorem Sep.put(hs:Sep ps h){i k:Nat}{b:Blk}(hi:ps[i]?=some (one k b))(b':Blk):Sep (ps.set i (one k b')) (h.set k b'):=
 hs.turn (fun j c hj=>by obtain⟨rfl,rfl⟩:=qlD hj;exact Vj _ _ _) fun j q hj hq=>by
  have hn:=hs.not hi hq (fun e=>hj e.symm);refine⟨(hs.in_ hq).off hn b',fun x=>?_⟩;by_cases e:x=k
  ·subst e;exact .inr hn
  ·exact .inl (qlE b' e)
theorem Sep.pick(hs:Sep ps h)(ix:List Nat)(hn:ix.Nodup)(hb:∀i∈ix,i<ps.length):Sep (ix.map fun i=>ps.getD i emp) h:=by
 refine⟨fun p hp=>?_,?_⟩
 ·obtain⟨i,hi,rfl⟩:=JM.1 hp
  refine hs.in_ (i:=i) ?_;rw[Ko,JD (hb i hi)];rfl
 ·rw[List.pairwise_map]
  refine List.Pairwise.imp_of_mem ?_ hn;intro a b ha hb' hab;refine hs.apart (i:=a) (j:=b) ?_ ?_ hab
  ·rw[Ko,JD (hb a ha)];rfl
  ·rw[Ko,JD (hb b hb')];rfl
theorem Sep.emp(hs:Sep ps h):Sep (ps++[AM.emp]) h:=by
 refine⟨fun p hp=>?_,?_⟩
 ·rcases JX.1 hp with hp|hp
  ·exact hs.1 p hp
  ·rw[V9.1 hp];intro j c hj;cases hj
 ·rw[BH]
  exact⟨hs.2,by simp,fun p _ q hq=>by rw[V9.1 hq];exact qsa p⟩
def YY:List AHeap->AHeap
 |[]=>AM.emp
 |p::ps=>uni p (YY ps)
theorem qfT{k:Nat}:∀{ps:List AHeap},YY ps k=none↔∀p∈ps,p k=none
 |[]=>by simp[YY,AM.emp]
 |p::ps=>by
  simp only[YY,List.forall_mem_cons];constructor
  ·intro h
   obtain⟨a,b⟩:=uni_none h;exact⟨a,qfT.1 b⟩
  ·rintro⟨a,b⟩
   rw[qhC a];exact qfT.2 b
theorem uniL_sub(hp:∀p∈ps,Sub p h):Sub (YY ps) h:=by
 induction ps with
 |nil=>intro j c hj;cases hj
 |cons p ps ih=>
  intro j c hj;simp only[YY]at hj;cases e:p j with
  |some d=>rw[qkY e]at hj;cases hj;exact hp p Jg j _ e
  |none=>rw[qhC e]at hj;exact ih (fun q hq=>hp q (Jh _ hq)) j c hj
theorem Xl(hd:ps.Pairwise disj):∀p∈ps,Sub p (YY ps):=by
 induction ps with
 |nil=>intro p hp;cases hp
 |cons q ps ih=>
  obtain⟨h1,h2⟩:=BK.1 hd;intro p hp;rcases KY.1 hp with rfl|hp
  ·exact Sub.uni _ _
  ·intro j c hj
   have hq:q j=none:=(h1 p hp j).resolve_right fun e=>by rw[e]at hj;cases hj
   simp only[YY];rw[qhC hq];exact ih h2 p hp j c hj
theorem qnR{p:AHeap}:disj p (YY ps)↔∀q∈ps,disj p q:=by
 constructor
 ·intro h q hq k
  rcases h k with z|z
  ·exact .inl z
  ·exact .inr (qfT.1 z q hq)
 ·intro h k
  cases e:p k with
  |none=>exact .inl rfl
  |some b=>exact .inr (qfT.2 fun q hq=>(h q hq k).resolve_left fun z=>by rw[e]at z;cases z)
theorem Sep.fold(hs:Sep (ps++qs) h):Sep (YY ps::qs) h:=by
 have h2:=BH.1 hs.2;refine⟨fun p hp=>?_,BK.2 ⟨fun q hq=>disj.symm (qnR.2 fun p hp=>(h2.2.2 p hp q hq).symm),h2.2.1⟩⟩;rcases KY.1 hp with rfl|hp
 ·exact uniL_sub fun q hq=>hs.1 q (Vf _ hq)
 ·exact hs.1 p (List.mem_append_right _ hp)
theorem Sep.unfold(hd:ps.Pairwise disj)(hs:Sep (YY ps::qs) h):Sep (ps++qs) h:=by
 obtain⟨h1,h2⟩:=BK.1 hs.2;refine⟨fun p hp=>?_,BH.2 ⟨hd,h2,fun p hp q hq=>((qnR.1 (h1 q hq).symm) p hp).symm⟩⟩;rcases JX.1 hp with hp|hp
 ·exact(Xl hd p hp).trans (hs.1 _ Jg)
 ·exact hs.1 p (Jh _ hp)
theorem Sep.left(hs:Sep (ps++qs) h):ps.Pairwise disj:=(BH.1 hs.2).1
end
theorem BlkOk.trunc{fi:PMap}{cs xs:List AVal}{p:Place}{w:World}(h:BlkOk fi ⟨cs++xs,0⟩ p w):BlkOk fi ⟨cs,0⟩ p w:=by
 rcases h with h|h
 ·obtain⟨c,e,lo,hi,h1,h2,h3,h4,h5,h6⟩:=h.row
  simp only[Jd]at h3 h5;refine .inl ⟨c,e,lo,hi,h1,h2,by simp only;omega,Js _,?_,h6⟩;have:=qmv cs.length h5;rw[List.take_left,List.take_take,Nat.min_eq_left (by omega)]at this;exact this
 ·have:=h.frz
  simp at this
theorem HRel.trunc{wz w:World}{fi:PMap}{h:AHeap}(hr:HRel wz fi h w){k:Nat}{cs xs:List AVal}(hk:h k=some ⟨cs++xs,0⟩):HRel wz fi (h.set k ⟨cs,0⟩) w:=by
 have ex:∀j b,h.set k ⟨cs,0⟩ j=some b->∃b',h j=some b':=fun j b hj=>by
  by_cases e:j=k
  ·subst e;exact⟨_,hk⟩
  ·rw[Vi _ _ e]at hj;exact⟨b,hj⟩
 refine⟨hr.below,fun j b hj=>?_,fun j j' b b' p p' hb hb'=>?_,hr.lt,hr.fin,hr.typ⟩
 ·by_cases e:j=k
  ·subst e
   rw[Vj]at hj;cases hj;obtain⟨p,h1,h2,h3⟩:=hr.own j _ hk;exact⟨p,h1,h2,h3.trunc⟩
  ·rw[Vi _ _ e]at hj
   exact hr.own j b hj
 ·obtain⟨c,hc⟩:=ex j b hb
  obtain⟨c',hc'⟩:=ex j' b' hb';exact hr.inj j j' c c' p p' hc hc'
theorem Awp.trunc{P:Program}{wz:World}{n:FrameK}{s:Slots}{h:AHeap}{Q:Exit->Slots->AHeap->Prop}{c:Code}{k:Nat}{cs xs:List AVal}(hk:h k=some ⟨cs++xs,0⟩)(hc:Awp P wz n c Q s (h.set k ⟨cs,0⟩)):Awp P wz n c Q s h:=
 fun fi a w hr hs=>hc fi a w (hr.trunc hk) hs
def isG:AVal->Bool
 | .slice _ _ _ (.exact _)=>false
 |_=>true
def GrowV(es:Nat)(v:AVal)(p:AHeap)(xs:List (List AVal)):Prop:=
 (v= .nilSlice/\p=emp/\xs=[])\/∃k c,v= .slice (.own k) 0 xs.length c/\(c= .exact xs.length\/c= .grow es)/\p=one k ⟨xs.flatten,0⟩/\(∀x∈xs,x.length=es)/\allLive xs.flatten=true
section
variable {es:Nat} {v:AVal} {p:AHeap} {xs:List (List AVal)}
theorem GrowV.nil:GrowV es .nilSlice emp []:= .inl ⟨rfl,rfl,rfl⟩
theorem GrowV.new{k:Nat}{c:Cap}{n:Nat}(hn:n=xs.length)(hc:c= .exact n\/c= .grow es)(hw:∀x∈xs,x.length=es)(hl:allLive xs.flatten=true){cs:List AVal}(hcs:cs=xs.flatten):GrowV es (.slice (.own k) 0 n c) (one k ⟨cs,0⟩) xs:=by
 subst hn hcs;exact .inr ⟨k,c,rfl,hc,rfl,hw,hl⟩
theorem GrowV.live(h:GrowV es v p xs):v.live=true:=by rcases h with⟨rfl,_⟩|⟨k,c,rfl,_⟩<;>rfl
theorem GrowV.scal(h:GrowV es v p xs):v.scal=true:=by rcases h with⟨rfl,_⟩|⟨k,c,rfl,_⟩<;>rfl
theorem GrowV.cells(h:GrowV es v p xs):v.cells=[v]:=by rcases h with⟨rfl,_⟩|⟨k,c,rfl,_⟩<;>rfl
theorem GrowV.wide(h:GrowV es v p xs):∀x∈xs,x.length=es:=by
 rcases h with⟨_,_,rfl⟩|⟨k,c,_,_,_,hw,_⟩
 ·intro x hx;cases hx
 ·exact hw
theorem GrowV.isL{wz:World}{h:AHeap}(hg:GrowV es v p xs)(hs:Sub p h):IsL wz h es v xs:=by
 rcases hg with⟨rfl,_,rfl⟩|⟨k,c,rfl,hc,rfl,hw,hl⟩
 ·exact .nil
 ·refine BA (hs _ _ (one_at k _)) hw rfl hl c ?_
  rcases hc with rfl|rfl
  ·exact KL _
  ·rfl
variable {P:Program} {wz:World} {ops rest:List Oper} {s:Slots} {H:AHeap} {K:Slots->AHeap->Prop} {dst:Option Tmp} {ty:TypeId} {pos:String} {af:Array Edge} {ts:Array TypeId} {t u e:TypeId} {d:TypeDesc} {x y:Operand} {v':AVal} {by' i:Nat} {z:Value} {ys:List (List AVal)} {ps:List AHeap}
theorem Yi(h0:ts[0]?=some t)(h1:ts[1]?=some u)(ht:P.underlying t=some (.slice e))(hu:P.underlying u=some d)(hd:∀k,d≠ .int k)
 (hs:Zy P e=some es) (hb:qdF P e=some by') (hz:Uy P e=some z) (hzs:z.cells.size=es) (hes:es≠0)
 (hx:ev s x=v) (hg:GrowV es v p xs) (hi:ps[i]?=some p) (hS:Sep ps H) (hy:ev s y=v') (hv':IsL wz H es v' ys) (hsc:Qu ys.flatten=true) (hne:ys.length≠0)
 (hl:(xs.length+ys.length)*by'<=140737488355328) (hl':xs.length+ys.length<4611686018427387904)
 (hkk:∀u p' H',GrowV es u p' (xs++ys)->isG u=true->Sep (ps.set i p') H'->Qp P wz ops rest (putD s dst u) H' K):
 Qp P wz ops (⟨dst, .call ⟨.builtin .append,[x,y].toArray,ts⟩,ty,pos,af,none⟩::rest) s H K:=by
 have hw:∀x∈xs++ys,x.length=es:=fun x hx=>by
  rcases JX.1 hx with h|h
  ·exact hg.wide x h
  ·exact hv'.wide x h
 have hal:allLive (xs++ys).flatten=true:=by rw[Vv,YA,(hg.isL (wz:=wz) (hS.in_ hi)).allLive,hv'.allLive];rfl
 have fin:∀k' H',H' k'=some ⟨(xs++ys).flatten,0⟩->(∀j q,j≠i->ps[j]?=some q->Sub q H'/\q k'=none)->Qp P wz ops rest (putD s dst (.slice (.own k') 0 (xs.length+ys.length) (.grow es))) H' K:=fun k' H' h1 h2=>by
  refine hkk _ (one k' ⟨(xs++ys).flatten,0⟩) H' (GrowV.new (by rw[Jd]) (.inr rfl) hw hal rfl) rfl (hS.turn (fun j c hj=>by obtain⟨rfl,rfl⟩:=qlD hj;exact h1) fun j q hj hq=>?_);obtain⟨a,b⟩:=h2 j q hj hq;refine⟨a,fun x=>?_⟩;by_cases ex:x=k'
  ·subst ex;exact .inr b
  ·exact .inl (qlE _ ex)
 rcases hg with⟨rfl,rfl,rfl⟩|⟨k,c,rfl,hc,rfl,hw1,hl1⟩
 ·refine qco (v:= .nilSlice) h0 h1 ht hu hd hs hb hz hzs hes hx .nil hy hv' hne hl hl' fun k' hk' _=>?_
  exact fin k' _ (Vj _ _ _) fun j q hj hq=>⟨(hS.in_ hq).off ((hS.in_ hq).none hk') _,(hS.in_ hq).none hk'⟩
 ·refine qms h0 h1 ht hu hd hs hb hz hzs hes hx hc (hS.at_ hi) hw1 hl1 hy hv' hsc hne hl hl' fun k' H' h1 h2 h3=>?_
  refine fin k' H' h1 fun j q hj hq=>?_;have hqk:=hS.not hi hq (fun e=>hj e.symm);have hsub:=hS.in_ hq;refine⟨fun a b hab=>(h3 a b (hsub _ _ hab) fun e=>by subst e;rw[hqk]at hab;cases hab).1,?_⟩;rcases h2 with z|rfl
  ·exact hsub.none z
  ·exact hqk
end
section
variable {P:Program} {wz:World} {ops rest:List Oper} {s:Slots} {H:AHeap} {K:Slots->AHeap->Prop} {dst:Option Tmp} {ty:TypeId} {pos:String} {af:Array Edge}
theorem qmt{ts:Array TypeId}{t u e:TypeId}{d:TypeDesc}{x y:Operand}{v':AVal}{es by' n c o:Nat}{lc:Loc}{z:Value}
 (h0:ts[0]?=some t) (h1:ts[1]?=some u) (ht:P.underlying t=some (.slice e)) (hu:P.underlying u=some d) (hd:∀k,d≠ .int k)
 (hs:Zy P e=some es) (hb:qdF P e=some by') (hz:Uy P e=some z) (hzs:z.cells.size=es) (hes:es≠0)
 (hx:ev s x= .slice lc o n (.exact c)) (hn:n<=c) (hy:ev s y=v') (hv':IsL wz H es v' [])
 (hk:Qp P wz ops rest (putD s dst (.slice lc o n (.exact c))) H K):
 Qp P wz ops (⟨dst, .call ⟨.builtin .append,[x,y].toArray,ts⟩,ty,pos,af,none⟩::rest) s H K:=by
 obtain⟨s1,s2,s3⟩:=hv'.src;rw[qcY];simp only[XN,evs,eop,hx,hy,qgl,h0,h1,ht,hu,hs,hb,hz,s1];exact⟨hd,⟨hes,hzs⟩,s2,⟨fun _=> .inl ⟨rfl,hk⟩,fun hh=>absurd hh (by simp only[JF];omega)⟩⟩
end
end Go.AM
namespace Go.Proofs.YtgiadjbiimkbiaaGreatDoor
open Go.AM
open Go.Proofs
open Go.Col (Str FaultC okF)
open Go.Tok (TokC)
open Go.Stm
open Go.RowKit (Below)
set_option maxRecDepth 100000
def phC(q:PhrC×AVal):List AVal:=[.str q.1.words,q.2]
def bdC(q:BodC×AVal×AVal):List AVal:=[.str q.1.1,q.2.1,q.2.2]
def qen(q:StC×AVal×AVal):List AVal:=[.str q.1.verb, .int .i64 q.1.line, .int .i64 q.1.col,q.2.1,q.2.2]
def PhV(wz:World)(h:AHeap)(v:AVal)(l:List PhrC):Prop:=∃qs:List (PhrC×AVal),l=qs.map (·.1)/\IsL wz h 2 v (qs.map phC)/\∀q∈qs,IsL wz h 5 q.2 (q.1.toks.map Zb)
def BdV(wz:World)(S:AVal->List StC->Prop)(h:AHeap)(v:AVal)(l:List BodC):Prop:=∃qs:List (BodC×AVal×AVal),l=qs.map (·.1)/\IsL wz h 3 v (qs.map bdC)/\∀q∈qs,IsL wz h 5 q.2.1 (q.1.2.1.map Zb)/\S q.2.2 q.1.2.2
def StsV(wz:World):Nat->AHeap->AVal->List StC->Prop
 |0,h,v,l=>l=[]/\IsL wz h 5 v []
 |d+1,h,v,l=>∃qs:List (StC×AVal×AVal),l=qs.map (·.1)/\IsL wz h 5 v (qs.map qen)/\∀q∈qs,PhV wz h q.2.1 q.1.phrases/\BdV wz (StsV wz d h) h q.2.2 q.1.bodies
theorem PhV.mono{wz:World}{h h':AHeap}{v:AVal}{l:List PhrC}(hp:PhV wz h v l)(hs:Sub h h'):PhV wz h' v l:=by
 obtain⟨qs,e,a,b⟩:=hp;exact⟨qs,e,a.mono hs,fun q hq=>(b q hq).mono hs⟩
theorem BdV.mono{wz:World}{h h':AHeap}{S S':AVal->List StC->Prop}{v:AVal}{l:List BodC}(hp:BdV wz S h v l)(hs:Sub h h')(hS:∀v l,S v l->S' v l):BdV wz S' h' v l:=by
 obtain⟨qs,e,a,b⟩:=hp;exact⟨qs,e,a.mono hs,fun q hq=>⟨(b q hq).1.mono hs,hS _ _ (b q hq).2⟩⟩
theorem StsV.mono{wz:World}{h h':AHeap}(hs:Sub h h'):∀{d:Nat} {v:AVal} {l:List StC},StsV wz d h v l->StsV wz d h' v l
 |0,_,_,hp=>⟨hp.1,hp.2.mono hs⟩
 |d+1,_,_,⟨qs,e,a,b⟩=>⟨qs,e,a.mono hs,fun q hq=>⟨(b q hq).1.mono hs,(b q hq).2.mono hs fun _ _=>StsV.mono hs⟩⟩
theorem StsV.isL{wz:World}{h:AHeap}{d:Nat}{v:AVal}{l:List StC}(hp:StsV wz d h v l):∃qs:List (StC×AVal×AVal),l=qs.map (·.1)/\IsL wz h 5 v (qs.map qen):=by
 cases d with
 |zero=>exact⟨[],hp.1,hp.2⟩
 |succ d=>obtain⟨qs,a,b,-⟩:=hp;exact⟨qs,a,b⟩
theorem PhV.live{wz:World}{h:AHeap}{v:AVal}{l:List PhrC}(hp:PhV wz h v l):v.live=true:=by obtain⟨_,_,a,_⟩:=hp;exact a.live
theorem PhV.scal{wz:World}{h:AHeap}{v:AVal}{l:List PhrC}(hp:PhV wz h v l):v.scal=true:=by obtain⟨_,_,a,_⟩:=hp;exact a.scal
theorem PhV.cells{wz:World}{h:AHeap}{v:AVal}{l:List PhrC}(hp:PhV wz h v l):v.cells=[v]:=by obtain⟨_,_,a,_⟩:=hp;exact a.cells
theorem BdV.live{wz:World}{h:AHeap}{S:AVal->List StC->Prop}{v:AVal}{l:List BodC}(hp:BdV wz S h v l):v.live=true:=by obtain⟨_,_,a,_⟩:=hp;exact a.live
theorem BdV.scal{wz:World}{h:AHeap}{S:AVal->List StC->Prop}{v:AVal}{l:List BodC}(hp:BdV wz S h v l):v.scal=true:=by obtain⟨_,_,a,_⟩:=hp;exact a.scal
theorem BdV.cells{wz:World}{h:AHeap}{S:AVal->List StC->Prop}{v:AVal}{l:List BodC}(hp:BdV wz S h v l):v.cells=[v]:=by obtain⟨_,_,a,_⟩:=hp;exact a.cells
theorem qfm{qs:List (PhrC×AVal)}:∀x∈qs.map phC,x.length=2:=fun x hx=>by obtain⟨q,_,rfl⟩:=JM.1 hx;rfl
def qfp:PhrC×AVal:=(⟨[],[]⟩, .nilSlice)
theorem qfl{wz:World}{h:AHeap}{lc:AM.Loc}{o:Nat}{c:Cap}{qs:List (PhrC×AVal)}(ht:IsL wz h 2 (.slice lc o qs.length c) (qs.map phC)){i:Nat}(hi:i<qs.length):
 rd wz h lc (o+i*2)= .str (qs.getD i qfp).1.words/\rd wz h lc (o+i*2+1)=(qs.getD i qfp).2:=by
 have he:=ht.elem (i:=i) (by rw[Jp];exact hi);rw[getD_map qfp hi]at he;simp only[and_true,cellsAt,List.cons.injEq,phC]at he;exact he
theorem qdg{wz:World}{h:AHeap}{v:AVal}{qs:List (PhrC×AVal)}(ht:IsL wz h 2 v (qs.map phC))(hn:0<qs.length):∃lc o c,v= .slice lc o qs.length c:=by
 obtain⟨lc,o,c,e⟩:=ht.open (fun e=>by rw[V5]at e;subst e;simp at hn);rw[Jp]at e;exact⟨lc,o,c,e⟩
theorem qlA{wz:World}{h:AHeap}{v:AVal}{qs:List (PhrC×AVal)}(ht:IsL wz h 2 v (qs.map phC)):∀H:AHeap,Ze Tryz.prog H 79 v=⟨True, .int .i64 qs.length⟩:=by
 intro H;have:=ht.len Tryz.underlying79 H
 rwa [Jp]at this
theorem tokC_scal(l:List TokC):Qu (l.map Zb).flatten=true:=by
 induction l with
 |nil=>rfl
 |cons t l ih=>rw[Ke,VS];simp only[J8,Xv,Zb,Qu,ih];rfl
theorem eqnil_nil:qbb Tryz.prog .eql 39 .nilSlice .nilSlice=⟨True, .bool true⟩:=by simp[qbb,qru,qjh,nilK,tyK,Tryz.underlying39]
theorem qki(l:AM.Loc)(o n:Nat)(c:Cap):qbb Tryz.prog .eql 39 (.slice l o n c) .nilSlice=⟨True, .bool false⟩:=by simp[qbb,qru,qjh,nilK,tyK,Tryz.underlying39]
theorem c_clone0(wz:World)(h:AHeap):ACall Tryz.prog wz 45 [.nilSlice] h (fun r h'=>r= .nilSlice/\h'=h):=by
 refine qP (n:=8) (rs:=[.tmp 2]) Tryz.func45 rfl rfl rfl rfl (V7 rfl) ?_;simp only[qU];refine awp_rseq [0] (by rfl) fun K hK=>?_;simp+decide only[qJ,↓qa];apply hK;clear hK K;refine qo ?_;refine awp_rseq [0,4] (by rfl) fun K hK=>?_;simp+decide only[XI,↓qc,↓qf,qeC,eqnil_nil];apply hK;clear hK K;refine qz (b:=_) rfl (fun hb1=>?_) (fun hb1=>?_)
 ·try simp only[qG]at hb1
  refine awp_rseq [2] (by rfl) fun K hK=>?_;simp+decide only[qJ,↓qa];apply hK;clear hK K;refine qV ?_;try simp only[Xz]
  refine QL h zqC (qA (qC)) ?_;simp+decide only[Xn];all_goals first|rfl|exact⟨rfl,rfl⟩|(simp+decide only[Ka, *];done)|(trace_state;fail)
 ·cases hb1
theorem c_clone1(wz:World)(h:AHeap)(lc:AM.Loc)(o n:Nat)(c:Cap)(hv:IsL wz h 5 (.slice lc o n c) []):ACall Tryz.prog wz 45 [.slice lc o n c] h (fun r h'=>IsL wz h' 5 r []/\Sub h h'):=by
 refine qP (n:=8) (rs:=[.tmp 2]) Tryz.func45 rfl rfl rfl rfl (V7 rfl) ?_;simp only[qU];refine awp_rseq [0] (by rfl) fun K hK=>?_;simp+decide only[qJ,↓qa];apply hK;clear hK K;refine qo ?_;refine awp_rseq [0,4] (by rfl) fun K hK=>?_;simp+decide only[XI,↓qc,↓qf,qeC,qki];apply hK;clear hK K;refine qz (b:=_) rfl (fun hb1=>?_) (fun hb1=>?_)
 ·cases hb1
 ·try simp only[qG]at hb1
  refine qE ?_;change Awp _ _ _ _ _ _ _;refine awp_rseq [2] (by rfl) fun K hK=>?_;refine Qd (cs:=[]) (by kernel_rfl) fun k3q0 hk3q0=>?_;try have hf_3q0:h k3q0=none:=by first|assumption|(simp only[Bi]at hk3q0;simp only[hk3q0])
  simp+decide only[Qw,↓qc];refine qmt (by rfl) (by rfl) Tryz.underlying39 Tryz.underlying39 (fun k e=>by cases e) UA by44 qpB (by rfl) (by decide) (by rfl) (KL _) (by rfl) (hv.mono zqB) ?_;simp+decide only[qJ,↓qa];apply hK;clear hK K;refine qV ?_;refine QL h zqC (qA (qC)) ?_;simp+decide only[Xn];exact⟨.mk _ _ _ _ _ rfl (fun x hx=>by cases hx) rfl rfl (KL _),zqB⟩
theorem c_clone2(wz:World)(h:AHeap)(lc:AM.Loc)(o n:Nat)(c:Cap)(l:List TokC)(hv:IsL wz h 5 (.slice lc o n c) (l.map Zb))(hn:l≠[])(hl:l.length<=1000000):ACall Tryz.prog wz 45 [.slice lc o n c] h (fun r h'=>IsL wz h' 5 r (l.map Zb)/\Sub h h'):=by
 have hn2:=Bv.2 hn;refine qP (n:=8) (rs:=[.tmp 2]) Tryz.func45 rfl rfl rfl rfl (V7 rfl) ?_;simp only[qU];refine awp_rseq [0] (by rfl) fun K hK=>?_;simp+decide only[qJ,↓qa];apply hK;clear hK K;refine qo ?_;refine awp_rseq [0,4] (by rfl) fun K hK=>?_;simp+decide only[XI,↓qc,↓qf,qeC,qki];apply hK;clear hK K;refine qz (b:=_) rfl (fun hb1=>?_) (fun hb1=>?_)
 ·cases hb1
 ·try simp only[qG]at hb1
  refine qE ?_;change Awp _ _ _ _ _ _ _;refine awp_rseq [2] (by rfl) fun K hK=>?_;refine Qd (cs:=[]) (by kernel_rfl) fun k3q0 hk3q0=>?_;try have hf_3q0:h k3q0=none:=by first|assumption|(simp only[Bi]at hk3q0;simp only[hk3q0])
  simp+decide only[Qw,↓qc];refine qco (v:= .slice (.own k3q0) 0 0 (.exact 0)) (xs:=[]) (ys:=l.map Zb) (by rfl) (by rfl) Tryz.underlying39 Tryz.underlying39 (fun k e=>by cases e) UA by44 qpB (by rfl) (by decide) (by rfl) (.mk _ _ _ _ _ rfl (fun x hx=>by cases hx) rfl rfl (KL _)) (by rfl) (hv.mono zqB) (by rw[Jp];omega) (by rw[Jp];simp only[JF];omega) (by rw[Jp];simp only[JF];omega) fun k3q2 hk3q2 hv32=>?_;simp+decide only[qJ,↓qa];apply hK;clear hK K;refine qV ?_;refine Qk (qA (qC)) ?_;simp+decide only[Xn];exact⟨_,Vk _,hv32,(Vl hk3q0).trans (Vl hk3q2)⟩
theorem c_cloneTk(wz:World)(h:AHeap)(v:AVal)(l:List TokC)(hv:IsL wz h 5 v (l.map Zb))(hl:l.length<=1000000):ACall Tryz.prog wz 45 [v] h (fun r h'=>IsL wz h' 5 r (l.map Zb)/\Sub h h'):=by
 by_cases hn:l=[]
 ·subst hn
  cases hv with
  |nil=>exact(c_clone0 wz h).mono fun r h' ⟨a,b⟩=>by subst a b;exact⟨.nil,Vk _⟩
  |mk lc o n c _ a b d e f=>exact c_clone1 wz h lc o n c (.mk lc o n c _ a b d e f)
 ·cases v<;>first
  |exact c_clone2 wz h _ _ _ _ l hv hn hl
  |(exfalso;obtain⟨lc,o,c,e⟩:=Yp hv (Bv.2 hn);cases e)
structure FnG where
 j:Nat
 H:AHeap
set_option maxHeartbeats 1000000 in
theorem c_find(wz:World)(h:AHeap)(vb w:Str)(ln cl:Int)(pv bv:AVal)(l:List PhrC)(hp:PhV wz h pv l)(hbl:bv.live=true)(hbs:bv.scal=true)(hbc:bv.cells=[bv])(hl:l.length<=1000000)(ht:∀p∈l,p.toks.length<=1000000):
 ACall Tryz.prog wz 21 [.agg [.str vb, .int .i64 ln, .int .i64 cl,pv,bv], .str w] h (fun r h'=>Sub h h'/\∃rv,r= .tuple [ZA rv, .bool (qgM l w).isSome]/\IsL wz h' 5 rv (((qgM l w).getD []).map Zb)):=by
 have hpl:=hp.live;have hps:=hp.scal;have hpc:=hp.cells;obtain⟨qs,rfl,hq,hqt⟩:=hp;rw[Jp]at hl;have hql:∀q∈qs,q.2.live=true:=fun q hqm=>(hqt q hqm).live;have nq:=qlA hq;have hF:qgM (qs.map (·.1)) w=((qs.map (·.1)).find? fun p=>decide (p.words=w)).map (·.toks):=rfl;obtain⟨F,hFF⟩:∃F,F=qgM (qs.map (·.1)) w:=⟨_,rfl⟩
 rw[<-hFF]at hF|-
 refine qP (n:=24) (rs:=[.tmp 4, .tmp 5]) Tryz.func21 rfl rfl rfl rfl (V7 rfl) ?_;simp only[qU];refine awp_rseq [1,2] (by rfl) fun K hK=>?_;refine Ut (by rfl) (by rfl) (by rfl) fun k0q0 hk0q0=>?_;try have hf_0q0:h k0q0=none:=by first|assumption|(simp only[Bi]at hk0q0;simp only[hk0q0])
 skip;simp+decide only[qJ,↓qa];apply hK;clear hK K;refine qo ?_;refine awp_rseq [1,9,10,11] (by rfl) fun K hK=>?_;simp+decide only[ZU,Qm,↓qg,YR,↓qj,qd qec,↓Qr,↓qc,hpl,nq];apply hK;clear hK K;refine qK ?_;refine QD [1,9,10,11] (fun g:FnG=>[(1, .str w),(9,pv),(10, .int .i64 qs.length),(11, .int .i64 g.j)]) (fun g:FnG=>g.H) (fun g:FnG=>Sub h g.H/\g.j<=qs.length/\F=(((qs.drop g.j).map (·.1)).find? fun p=>decide (p.words=w)).map (·.toks)) (fun g:FnG=>qs.length-g.j) ⟨0,_⟩ (by rfl) (Vk _) ⟨zqB,Js _,hF⟩ ?_;rintro⟨j,H⟩ ⟨hs_H,hj,hg⟩;simp only at hs_H hj hg|-
 refine awp_rseq [1,9,10,11,12] (by rfl) fun K hK=>?_;simp+decide only[Zp,YT,↓qf];apply hK;clear hK K;refine qo (qz (b:=_) rfl (fun hb1=>?_) (fun hb1=>?_))
 ·try simp only[qG]at hb1
  have hj':j<qs.length:=by omega
  obtain⟨q,hqe⟩:∃q,q=qs.getD j qfp:=⟨_,rfl⟩
  have hqm:q∈qs:=by rw[hqe,Ko,JD hj'];exact VY hj'
  obtain⟨lc,o,c,hpe⟩:=qdg hq (by omega);have hq2:=hq.mono hs_H;rw[hpe]at hq2;obtain⟨e0,e1⟩:=qfl hq2 hj';rw[<-hqe]at e0 e1;have hql1:=hql q hqm;have hqt1:=hqt q hqm;have hqs1:=hqt1.scal;have hqc1:=hqt1.cells;obtain⟨⟨qw,qt⟩,qv⟩:=q;simp only at e0 e1 hql1 hqt1 hqs1 hqc1;have hst:F=if qw=w then some qt else(((qs.drop (j+1)).map (·.1)).find? fun p=>decide (p.words=w)).map (·.toks):=by
   rw[hg,Ve hj',Ke,Br];have:qs[j]=(⟨qw,qt⟩,qv):=by rw[hqe,Ko,JD hj'];rfl
   rw[this];by_cases z:qw=w
   ·simp[z]
   ·simp[z]
  have hqtl:qt.length<=1000000:=ht _ (BL (f:=(·.1)) hqm);have hwj:IntKind.i64.wrap ((j:Int)+1)=((j+1:Nat):Int):=by rw[wrap_i64 (by omega) (by omega)];omega
  refine qE ?_;change Awp _ _ _ _ _ _ _;refine qo ?_;refine qK ?_;refine awp_rseq [1,7,9,10,11] (by rfl) fun K hK=>?_;simp+decide only[Zg,Xa,QN,↓qI,qh Tryz.underlying79 qcH,↓qj,Qa ag84 qcH,hpe,e0,e1,hql1];repeat (with_reducible refine zqP ?_)
  refine Qz ze84 (cs:=[.str [], .nilSlice]) (by rfl) fun k3q2 hk3q2=>?_;have hn_3q2:H k3q2=none:=by first|assumption|(simp only[Bi]at hk3q2;simp only[hk3q2])
  have hf_3q2:h k3q2=none:=Bj hs_H hn_3q2;refine qN (by rfl) (by rfl) zqA qcH (by rfl) (by rfl) zqD (Js _) (by first|rfl|(simp+decide only[ZJ,Qu,hqs1,ZM])) ?_;simp only[QZ,Bn];simp+decide only[Zg,QN];apply hK;clear hK K;refine awp_rseq [1,7,9,10,11,18] (by rfl) fun K hK=>?_;simp+decide only[XI,XD,Vw,qF,Qb,qhd,↓qg,qoS,↓qj,qd ag9,↓qc,↓qf];apply hK;clear hK K;refine qz (b:=_) rfl (fun hb2=>?_) (fun hb2=>?_)
  ·try simp only[qG]at hb2
   rw[if_pos hb2]at hst;refine awp_rseq [4,5] (by rfl) fun K hK=>?_;simp+decide only[qR,XD,↓qg,qcj,↓qj,qd qcn];repeat (with_reducible refine zqP ?_)
   refine qM (by rfl) (by rfl) (c_cloneTk wz _ qv qt (hqt1.mono zqB) hqtl) fun x5q2 h5q2 hx5q2=>?_;obtain⟨hv5,hs5⟩:=hx5q2;have hs_h5q2:Sub h h5q2:=Bt zqC hs5;have hr_h5q2:Sub H h5q2:=Bt zqC hs5;have eb_3q2:=hs5 k3q2 _ zqA;refine QM (V:=ZA x5q2) (by rfl) (by rfl) (qme wz _ x5q2 _ hv5) ?_;simp+decide only[qJ,↓qa];apply hK;clear hK K;refine qV ?_;try simp only[Xz]
   refine Qk (qA (qA (qC))) ?_;simp+decide only[qR,Zt];rw[hst];exact⟨_,Vk _,zqB,_,rfl,hv5⟩
  ·try simp only[qG]at hb2
   rw[if_neg hb2]at hst;refine qE ?_;change Awp _ _ _ _ _ _ _;refine QK [1,9,10,11] (by rfl) ?_;simp+decide only[QH,ZE,↓qf,↓qc,hwj];try simp only[QT]
   exact⟨⟨j+1,_⟩,by rw[hpe];rfl,Vk _,⟨zqB,hj',hst⟩,by simp only;omega⟩
 ·try simp only[qG]at hb1
  have hst:F=none:=by rw[hg,Bq (by omega)];rfl
  refine QC ?_;change Awp _ _ _ _ _ _ _;refine awp_rseq [4,5] (by rfl) fun K hK=>?_;simp+decide only[qJ,↓qa];apply hK;clear hK K;refine qV ?_;refine Qk (qA (qA (qC))) ?_;simp+decide only[qR,Zt];rw[hst];exact⟨H,Vk _,hs_H, .nilSlice,rfl, .nil⟩
def PhFew(l:List PhrC):Prop:=l≠[]/\l.length<=1000000/\∀p∈l,p.toks.length<=1000000
theorem operV_eq(o:Option Nat):operV o= .tuple [.int .i64 ((o.getD 0:Nat):Int), .int .i64 (if o.isSome=true then 0 else 4)]:=by cases o<;>rfl
set_option maxHeartbeats 2000000 in
theorem qsn(wz:World)(ha:Asp wz)(h:AHeap)(vb:Str)(ln cl:Int)(pv bv:AVal)(l:List PhrC)(hp:PhV wz h pv l)(hbl:bv.live=true)(hbs:bv.scal=true)(hbc:bv.cells=[bv])(hf:PhFew l):
 ACall Tryz.prog wz 100 [.agg [.str vb, .int .i64 ln, .int .i64 cl,pv,bv]] h (fun r h'=>r= .bool (YO wordsO l)/\Sub h h'):=by
 have hpl:=hp.live;have hps:=hp.scal;have hpc:=hp.cells;obtain⟨hf1,hf2,hf3⟩:=hf;have hR:YO wordsO l=if firstT l=[]then true else(qgM l qas).isSome && (!(qgM l qaP).isSome && decide (qbW wordsO (firstT l)=some (firstT l).length)):=rfl
 obtain⟨R,hRR⟩:∃R,R=YO wordsO l:=⟨_,rfl⟩
 rw[<-hRR]at hR|-
 obtain⟨qs,hqe,hq,hqt⟩:=id hp;have hqn:0<qs.length:=by
  rcases Bc qs.length with z|z
  ·exfalso;apply hf1;rw[hqe,Kg z];rfl
  ·exact z
 obtain⟨q,hq0⟩:∃q,q=qs.getD 0 qfp:=⟨_,rfl⟩
 have hqm:q∈qs:=by rw[hq0,Ko,JD hqn];exact VY hqn
 have hft:firstT l=q.1.toks:=by
  unfold firstT;rw[hqe,hq0];simp[Ko,hqn]
 have hqv:=hqt q hqm;have hql:=hqv.live;have nq:=Wn hqv;have hqf:q.1.toks.length<=1000000:=hf3 _ (by rw[hqe];exact BL (f:=(·.1)) hqm);rw[hft]at hR;obtain⟨lc,o,c,rfl⟩:=qdg hq hqn;have hq2:=hq;have hq3:∀H,Sub h H->rd wz H lc o= .str q.1.words/\rd wz H lc (o+1)=q.2:=fun H hH=>by
  obtain⟨e0,e1⟩:=qfl (hq2.mono hH) hqn;rw[K9,K8,<-hq0]at e0 e1;exact⟨e0,e1⟩
 obtain⟨⟨qw,qt⟩,qv⟩:=q;simp only at hR hqv hql nq hqf hq3;have hpos:((0:Int)<qs.length)=True:=eq_true (by omega);refine qP (n:=48) (rs:=[.tmp 2]) Tryz.func100 rfl rfl rfl rfl (V7 rfl) ?_;simp only[qU];refine awp_rseq [1] (by rfl) fun K hK=>?_;refine Ut (by rfl) (by rfl) (by rfl) fun k0q0 hk0q0=>?_;try have hf_0q0:h k0q0=none:=by first|assumption|(simp only[Bi]at hk0q0;simp only[hk0q0])
 skip;simp+decide only[qJ,↓qa];apply hK;clear hK K;obtain⟨-,e1⟩:=hq3 _ (Vl (b:=⟨[.str vb, .int .i64 ln, .int .i64 cl, .slice lc o qs.length c,bv],0⟩) hk0q0);refine awp_rseq [1,3] (by rfl) fun K hK=>?_;simp+decide only[qJ,XD,K8,K9,↓qg,YR,↓qj,qd qec,↓qI,qh Tryz.underlying79 qcH,qcj,qd qcn,↓qa,hpl,hql,hpos,e1,Bz];apply hK;clear hK K;refine qo ?_;refine awp_rseq [1,3,17] (by rfl) fun K hK=>?_;simp+decide only[QH,qO,Qm,Zm,↓qc,↓Qr,↓qf,nq];apply hK;clear hK K;refine qz (b:=_) rfl (fun hb1=>?_) (fun hb1=>?_)
 ·try simp only[qG]at hb1
  rw[if_pos (Kg (by omega))]at hR;refine awp_rseq [2] (by rfl) fun K hK=>?_;simp+decide only[qJ,↓qa];apply hK;clear hK K;refine qV ?_;try simp only[Xz]
  refine Qk (qA (qC)) ?_;simp+decide only[Xn];rw[hR];exact⟨h,zqB,rfl,Vk _⟩
 ·try simp only[qG]at hb1
  rw[if_neg (fun e=>by rw[e]at hb1;exact hb1 rfl)]at hR;refine qE ?_;change Awp _ _ _ _ _ _ _;refine awp_rseq [1,3,5] (by rfl) fun K hK=>?_;simp+decide only[qR,Xa,↓qj,Qa qiH UJ,Nat.reduceAdd,hpl,hbl];refine qM (by rfl) (by rfl) (c_find wz _ vb qas ln cl _ bv l (hp.mono zqB) hbl hbs hbc hf2 hf3) fun x4q1 h4q1 hx4q1=>?_;obtain⟨hs4,rv4,rfl,hrv4⟩:=hx4q1;have hs_h4q1:Sub h h4q1:=Bt zqC hs4;have hr_h4q1:=hs_h4q1;have eb_0q0:=hs4 k0q0 _ zqA;simp+decide only[Xh,Xo,Xi,Xy,↓qc,↓Xr,↓qa,Nat.reduceAdd];apply hK;clear hK K;refine awp_rseq [3,5,7] (by rfl) fun K hK=>?_;simp+decide only[qR,Xa,↓qj,Qa qiH UJ,Ql eb_0q0,Nat.reduceAdd,hpl,hbl];refine qM (by rfl) (by rfl) (c_find wz _ vb qaP ln cl _ bv l (hp.mono zqB) hbl hbs hbc hf2 hf3) fun x5q1 h5q1 hx5q1=>?_;obtain⟨hs5,rv5,rfl,hrv5⟩:=hx5q1;have hs_h5q1:Sub h h5q1:=Bt zqC hs5;have hr_h5q1:Sub h4q1 h5q1:=Bt zqC hs5;have eb_0q0:=hs5 k0q0 _ zqA;simp+decide only[Xh,Xo,Xi,Xy,↓qc,↓Xr,↓qa,Nat.reduceAdd];apply hK;clear hK K;refine awp_rseq [3,5,7,8,9] (by rfl) fun K hK=>?_;simp+decide only[Qw,↓qc];refine qM (by rfl) (by rfl) (c_operand wz ha _ qv qt (hqv.mono zqB) hqf) fun x6q1 h6q1 hx6q1=>?_;obtain⟨rfl,hs6⟩:=hx6q1;rw[operV_eq];have hs_h6q1:Sub h h6q1:=Bt zqC hs6;have hr_h6q1:Sub h5q1 h6q1:=Bt zqC hs6;have eb_0q0:=hs6 k0q0 _ zqA;simp+decide only[Xh,Xo,Xi,Xy,↓qc,↓Xr,↓qa,Nat.reduceAdd];apply hK;clear hK K;refine awp_rseq [2] (by rfl) fun K hK=>?_;simp+decide only[ZY,Vz,Ya,qF,Yh,Zf,Xk,Zm,UB,Yc,qkk,qkj,↓qc,↓Xc,qY,qZ,qW,↓qbl,↓QE,↓QI,↓qcW,qho,qhp,↓qa,nq];apply hK;clear hK K;refine qV ?_;refine Qk (qA (qC)) ?_;simp+decide only[Xn];refine⟨h,by assumption,?_,Vk _⟩;rw[hR];congr 1;cases hop:qbW wordsO qt with
  |none=>simp
  |some n=>
   have e:decide (((some n:Option Nat).getD 0:Int)=(qt.length:Int))=decide (some n=some qt.length):=by
    by_cases z:n=qt.length
    ·subst z;simp
    ·have:(n:Int)≠qt.length:=by omega
     simp[z,this]
   rw[e];simp only[if_true,J8,decide_true,Option.isSome_some,Bool.and_assoc]
def impV:Option Str->AVal
 |some w=> .tuple [.str w, .bool true]
 |none=> .tuple [.str [], .bool false]
theorem qfH{wz:World}{h:AHeap}{v:AVal}{qs:List (BodC×AVal×AVal)}(ht:IsL wz h 3 v (qs.map bdC)):∀H:AHeap,Ze Tryz.prog H 80 v=⟨True, .int .i64 qs.length⟩:=by
 intro H;have:=ht.len Tryz.underlying80 H
 rwa [Jp]at this
theorem qds{wz:World}{h:AHeap}{v:AVal}{qs:List (BodC×AVal×AVal)}(ht:IsL wz h 3 v (qs.map bdC))(hn:0<qs.length):∃lc o c,v= .slice lc o qs.length c:=by
 obtain⟨lc,o,c,e⟩:=ht.open (fun e=>by rw[V5]at e;subst e;simp at hn);rw[Jp]at e;exact⟨lc,o,c,e⟩
def qff:BodC×AVal×AVal:=(([],[],[]), .nilSlice, .nilSlice)
theorem qgR{wz:World}{h:AHeap}{lc:AM.Loc}{o:Nat}{c:Cap}{qs:List (BodC×AVal×AVal)}(ht:IsL wz h 3 (.slice lc o qs.length c) (qs.map bdC)){i:Nat}(hi:i<qs.length):
 rd wz h lc (o+i*3)= .str (qs.getD i qff).1.1/\rd wz h lc (o+i*3+1)=(qs.getD i qff).2.1/\rd wz h lc (o+i*3+2)=(qs.getD i qff).2.2:=by
 have he:=ht.elem (i:=i) (by rw[Jp];exact hi);rw[getD_map qff hi]at he;simp only[and_true,cellsAt,List.cons.injEq,bdC]at he;exact he
theorem StsV.shape{wz:World}{d:Nat}{h:AHeap}{v:AVal}{l:List StC}(hs:StsV wz d h v l):v.live=true/\v.scal=true/\v.cells=[v]:=by
 obtain⟨qs,-,a⟩:=hs.isL;exact⟨a.live,a.scal,a.cells⟩
theorem c_implicit(wz:World)(ha:Asp wz)(h:AHeap)(c:Cur)(pv bv:AVal)(d:Nat)(hp:PhV wz h pv c.phrases)(hb:BdV wz (StsV wz d h) h bv c.bodies)(hbl:c.bodies.length<=1000000)(hf:PhFew c.phrases):
 ACall Tryz.prog wz 74 [.agg [.str c.verb, .int .i64 c.line, .int .i64 c.col,pv,bv]] h (fun r h'=>r=impV (Zi wordsO c)/\Sub h h'):=by
 have hpl:=hp.live;have hps:=hp.scal;have hbl:=hb.live;have hbs:=hb.scal;have hbc:=hb.cells;obtain⟨ql,hql,hqb,hqq⟩:=id hb;have nb:=qfH hqb;have hR:Zi wordsO c=if c.bodies≠[]then none else if c.verb=[73,70]then some Wm else if c.verb=[80,69,82,70,79,82,77]/\YO wordsO c.phrases=true then some []else none:=rfl
 obtain⟨R,hRR⟩:∃R,R=Zi wordsO c:=⟨_,rfl⟩
 rw[<-hRR]at hR|-
 have hbn:c.bodies=[]↔ql.length=0:=by rw[hql];simp
 refine qP (n:=18) (rs:=[.tmp 2, .tmp 3]) Tryz.func74 rfl rfl rfl rfl (V7 rfl) ?_;simp only[qU];refine awp_rseq [1] (by rfl) fun K hK=>?_;refine Ut (by rfl) (by rfl) (by rfl) fun k0q0 hk0q0=>?_;try have hf_0q0:h k0q0=none:=by first|assumption|(simp only[Bi]at hk0q0;simp only[hk0q0])
 skip;simp+decide only[qJ,↓qa];apply hK;clear hK K;refine qo ?_;refine awp_rseq [1,7] (by rfl) fun K hK=>?_;simp+decide only[Zp,XD,qO,Qm,WL,↓qg,Wh,↓qj,qd qeb,↓Qr,↓qf,hbl,nb];apply hK;clear hK K;refine qz (b:=_) rfl (fun hb1=>?_) (fun hb1=>?_)
 ·try simp only[qG]at hb1
  rw[if_pos (fun e=>by rw[hbn]at e;omega)]at hR;refine awp_rseq [2,3] (by rfl) fun K hK=>?_;simp+decide only[qJ,↓qa];apply hK;clear hK K;refine qV ?_;try simp only[Xz]
  refine Qk (qA (qA (qC))) ?_;simp+decide only[qR,Zt];rw[hR];exact⟨h,zqB,rfl,Vk _⟩
 ·try simp only[qG]at hb1
  rw[if_neg (fun e=>e (hbn.2 (by omega)))]at hR;refine qE ?_;change Awp _ _ _ _ _ _ _;refine qo ?_;refine awp_rseq [1,10] (by rfl) fun K hK=>?_;simp+decide only[qR,Yv,XD,Qb,ZF,↓qg,qcS,↓qj,qd ag9,↓qf];apply hK;clear hK K;refine qz (b:=_) rfl (fun hb2=>?_) (fun hb2=>?_)
  ·try simp only[qG]at hb2
   rw[if_pos hb2]at hR;refine awp_rseq [2,3] (by rfl) fun K hK=>?_;simp+decide only[qJ,↓qa];apply hK;clear hK K;refine qV ?_;try simp only[Xz]
   refine Qk (qA (qA (qC))) ?_;simp+decide only[qR,Zt];rw[hR];exact⟨h,zqB,rfl,Vk _⟩
  ·try simp only[qG]at hb2
   rw[if_neg hb2]at hR;obtain⟨pb,hpb⟩:∃pb,decide (c.verb=[80,69,82,70,79,82,77])=pb:=⟨_,rfl⟩
   refine qE ?_;change Awp _ _ _ _ _ _ _;refine awp_rseq [2,3] (by rfl) fun K hK=>?_;simp+decide only[XI,Zn,Qe,XF,qcm,Qb,agP,Us,ZF,qdA,qdz,qdy,qdw,qdv,qdu,qdp,qdo,qpr,qgt,↓qg,qcS,↓qj,qd ag9,↓qf,↓qc,↓XP,Qa qiH UJ,qY,qZ,qW,Nat.reduceAdd,hpl,hbl,hpb];refine qaO (g:= .bool pb) (V:= .bool (YO wordsO c.phrases)) (f:=100) (cap:=[]) (xs:=[.agg [.str c.verb, .int .i64 c.line, .int .i64 c.col,pv,bv]]) (by rfl) (by rfl) (fun hg=>⟨rfl,by
    have hg':pb=true:=by rwa [WY]at hg
    simp+decide only[Zo,Qe,XN,evs,JG,hg']⟩) (fun hg=>qsn wz ha _ c.verb c.line c.col pv bv c.phrases (hp.mono zqB) hbl hbs hbc hf) fun h5q5 hs5=>?_
   have hs_h5q5:Sub h h5q5:=Bt zqC hs5;have hr_h5q5:=hs_h5q5;have eb_0q0:=hs5 k0q0 _ zqA;simp+decide only[qJ,XT,qab,qar,qad,↓QE,↓qa];apply hK;clear hK K;refine qV ?_;refine Qk (qA (qA (qC))) ?_;simp+decide only[qR,Zt];refine⟨h,by assumption,?_,Vk _⟩;rw[hR];by_cases z:c.verb=[80,69,82,70,79,82,77]/\YO wordsO c.phrases=true
   ·rw[if_pos z,<-hpb,decide_eq_true z.1,z.2];rfl
   ·rw[if_neg z]
    have:(pb && YO wordsO c.phrases)=false:=by
     rw[Bool.eq_false_iff];intro q;rw[Ky]at q;exact z ⟨of_decide_eq_true (hpb.trans q.1),q.2⟩
    rw[this];rfl
structure WhG where
 j:Nat
 b:Bool
 H:AHeap
set_option maxHeartbeats 4000000 in
theorem c_whole(wz:World)(ha:Asp wz)(h:AHeap)(c:Cur)(pv bv:AVal)(d:Nat)(closed:Bool)(hp:PhV wz h pv c.phrases)(hb:BdV wz (StsV wz d h) h bv c.bodies)(hbn:c.bodies.length<=1000000)(hf:PhFew c.phrases):
 ACall Tryz.prog wz 77 [.agg [.str c.verb, .int .i64 c.line, .int .i64 c.col,pv,bv], .bool closed] h (fun r h'=>r= .bool (qbw wordsO c closed)/\Sub h h'):=by
 have hpl:=hp.live;have hps:=hp.scal;have hbl:=hb.live;have hbs:=hb.scal;have hbc:=hb.cells;obtain⟨ql,hql,hqb,hqq⟩:=id hb;rw[hql,Jp]at hbn;have nb:=qfH hqb;have hR:qbw wordsO c closed=if c.verb=[73,70]then !decide (firstT c.phrases=[]) && (match c.bodies with|b::_=>decide (b.1=[84,72,69,78])|[]=>false)
  else if c.verb=[69,86,65,76,85,65,84,69]\/c.verb=[83,69,65,82,67,72]then c.bodies.any fun b=>decide (b.1=[87,72,69,78])
  else if c.verb=[80,69,82,70,79,82,77]then decide (YO wordsO c.phrases= !decide (c.bodies=[])) && (closed||decide (c.bodies=[]))
  else true:=rfl
 obtain⟨R,hRR⟩:∃R,R=qbw wordsO c closed:=⟨_,rfl⟩
 rw[<-hRR]at hR|-
 have hbn0:c.bodies=[]↔ql.length=0:=by rw[hql];simp
 obtain⟨A,hA⟩:∃A,A=c.bodies.any fun b=>decide (b.1=[87,72,69,78]):=⟨_,rfl⟩
 rw[<-hA]at hR;rw[hql]at hA;refine qP (n:=69) (rs:=[.tmp 4]) Tryz.func77 rfl rfl rfl rfl (V7 rfl) ?_;simp only[qU];refine awp_rseq [1,2] (by rfl) fun K hK=>?_;refine Ut (by rfl) (by rfl) (by rfl) fun k0q0 hk0q0=>?_;try have hf_0q0:h k0q0=none:=by first|assumption|(simp only[Bi]at hk0q0;simp only[hk0q0])
 skip;simp+decide only[qJ,↓qa];apply hK;clear hK K;refine awp_rseq [1,2,5] (by rfl) fun K hK=>?_;simp+decide only[qJ,↓qa];apply hK;clear hK K;refine qo ?_;refine awp_rseq [1,2,5,9,10,11] (by rfl) fun K hK=>?_;simp+decide only[ZU,Qm,↓qg,Wh,↓qj,qd qeb,↓Qr,↓qc,hbl,nb];apply hK;clear hK K;refine qK ?_;refine QD [1,2,5,9,10,11] (fun g:WhG=>[(1, .bool closed),(2, .ptr (.own k0q0) 0),(5, .bool g.b),(9,bv),(10, .int .i64 ql.length),(11, .int .i64 g.j)]) (fun g:WhG=>g.H) (fun g:WhG=>Sub h g.H/\g.H k0q0=some ⟨[.str c.verb, .int .i64 c.line, .int .i64 c.col,pv,bv],0⟩/\g.j<=ql.length/\A=(g.b||((ql.drop g.j).map (·.1)).any fun b=>decide (b.1=[87,72,69,78]))) (fun g:WhG=>ql.length-g.j) ⟨0,false,_⟩ (by rfl) (Vk _) ⟨zqB,zqA,Js _,hA⟩ ?_;rintro⟨j,b,H⟩ ⟨hs_H,eb_0q0,hj,hg⟩;simp only at hs_H eb_0q0 hj hg|-
 refine awp_rseq [1,2,5,9,10,11,12] (by rfl) fun K hK=>?_;simp+decide only[Zp,YT,↓qf];apply hK;clear hK K;refine qo (qz (b:=_) rfl (fun hb1=>?_) (fun hb1=>?_))
 ·try simp only[qG]at hb1
  have hj':j<ql.length:=by omega
  obtain⟨q,hqe⟩:∃q,q=ql.getD j qff:=⟨_,rfl⟩
  have hqm:q∈ql:=by rw[hqe,Ko,JD hj'];exact VY hj'
  obtain⟨lc,o,cc,hpe⟩:=qds hqb (by omega);have hq2:=hqb.mono hs_H;rw[hpe]at hq2;obtain⟨e0,e1,e2⟩:=qgR hq2 hj';rw[<-hqe]at e0 e1 e2;obtain⟨hqt,hqs⟩:=hqq q hqm;have hl1:=hqt.live;have hs1:=hqt.scal;have hc1:=hqt.cells;obtain⟨hl2,hs2,hc2⟩:=hqs.shape;have hst:A=(b||decide (q.1.1=[87,72,69,78])||((ql.drop (j+1)).map (·.1)).any fun b=>decide (b.1=[87,72,69,78])):=by
   rw[hg,Ve hj',Ke,Bp,<-Bool.or_assoc];have:ql[j]=q:=by rw[hqe,Ko,JD hj'];rfl
   rw[this]
  obtain⟨⟨qw,qt,qL⟩,qtv,qlv⟩:=q;simp only at e0 e1 e2 hl1 hs1 hc1 hl2 hs2 hc2 hst;have hwj:IntKind.i64.wrap ((j:Int)+1)=((j+1:Nat):Int):=by rw[wrap_i64 (by omega) (by omega)];omega
  refine qE ?_;change Awp _ _ _ _ _ _ _;refine qo ?_;refine qK ?_;refine awp_rseq [1,2,5,7,9,10,11] (by rfl) fun K hK=>?_;simp+decide only[Zg,Xa,QN,↓qI,qh Tryz.underlying80 qbU,↓qj,Qa ag86 qbU,hpe,e0,e1,e2,hl1,hl2];repeat (with_reducible refine zqP ?_)
  refine Qz qob (cs:=[.str [], .nilSlice, .nilSlice]) (by rfl) fun k4q2 hk4q2=>?_;have hn_4q2:H k4q2=none:=by first|assumption|(simp only[Bi]at hk4q2;simp only[hk4q2])
  have hf_4q2:h k4q2=none:=Bj hs_H hn_4q2;have ne_4q2_0q0:k4q2≠k0q0:=Bl hn_4q2 eb_0q0;refine qN (by rfl) (by rfl) zqA qbU (by rfl) (by rfl) zqD (Js _) (by first|rfl|(simp+decide only[ZJ,Qu,hs1,hs2,ZM])) ?_;simp only[QZ,Bn];simp+decide only[Zg,QN,Nat.reduceAdd];apply hK;clear hK K;refine QK [1,2,5,9,10,11] (by rfl) ?_;simp+decide only[Xh,Yv,Zn,Qe,XF,YS,Qb,Wi,Xk,ZF,Yw,↓qc,↓QR,qlZ,qY,qZ,qW,↓XP,qd ag9,↓QI,↓QE,↓qa];change Awp _ _ _ _ _ _ _;refine QK [1,2,5,9,10,11] (by rfl) ?_;simp+decide only[QH,ZE,↓qf,↓qc,hwj];try simp only[QT]
  exact⟨⟨j+1,_,_⟩,by rw[hpe];rfl,Vk _,⟨zqB,zqA,hj',hst⟩,by simp only;omega⟩
 ·try simp only[qG]at hb1
  have hjn:j=ql.length:=by omega
  have hbA:b=A:=by rw[hg,hjn,Vd];simp
  clear hg;refine QC ?_;change Awp _ _ _ _ _ _ _;refine qo ?_;refine awp_rseq [1,2,5,23] (by rfl) fun K hK=>?_;simp+decide only[qR,XD,↓qg,qcS,↓qj,qd ag9,Ql eb_0q0];apply hK;clear hK K;refine qK ?_;refine awp_rseq [1,2,5,23,24] (by rfl) fun K hK=>?_;simp+decide only[qJ,Yv,Qb,ZF,↓qf,↓qa];apply hK;clear hK K;refine qz (b:=_) rfl (fun hb2=>?_) (fun hb2=>?_)
  ·try simp only[qG]at hb2
   rw[if_pos hb2]at hR;obtain⟨qs,hqe,hq,hqt⟩:=id hp;have hqn:0<qs.length:=by
    rcases Bc qs.length with z|z
    ·exfalso;apply hf.1;rw[hqe,Kg z];rfl
    ·exact z
   obtain⟨q,hq0⟩:∃q,q=qs.getD 0 qfp:=⟨_,rfl⟩
   have hqm:q∈qs:=by rw[hq0,Ko,JD hqn];exact VY hqn
   have hft:firstT c.phrases=q.1.toks:=by
    unfold firstT;rw[hqe,hq0];simp[Ko,hqn]
   have hqv:=hqt q hqm;have hqvl:=hqv.live;have nq:=Wn hqv;rw[hft]at hR;obtain⟨lc,o,cc,hpe⟩:=qdg hq hqn;have hq2:=hq.mono hs_H;rw[hpe]at hq2;obtain⟨-,e1⟩:=qfl hq2 hqn;rw[K9,K8,<-hq0]at e1;have hpos:((0:Int)<qs.length)=True:=eq_true (by omega);have mcase:(∃(lb:AM.Loc) (ob:Nat) (cb:Cap),bv=bv/\decide ((0:Int)<q.1.toks.length)=false/\True/\True/\True/\R=false)\/
    (∃(lb:AM.Loc) (ob:Nat) (cb:Cap),bv=bv/\decide ((0:Int)<q.1.toks.length)=true/\decide ((0:Int)<ql.length)=false/\True/\True/\R=false)\/
    (∃(lb:AM.Loc) (ob:Nat) (cb:Cap),bv= .slice lb ob ql.length cb/\decide ((0:Int)<q.1.toks.length)=true/\decide ((0:Int)<ql.length)=true/\((0:Int)<ql.length)=True/\rd wz H lb ob= .str (ql.getD 0 qff).1.1/\R=decide ((ql.getD 0 qff).1.1=[84,72,69,78])):=by
    by_cases z1:q.1.toks=[]
    ·exact .inl ⟨.base 0,0, .exact 0,rfl,by rw[z1];rfl,trivial,trivial,trivial,by rw[hR,decide_eq_true z1];rfl⟩
    ·have z1':decide ((0:Int)<q.1.toks.length)=true:=by
      rw[decide_eq_true_eq];have:=Bv.2 z1;omega
     rw[decide_eq_false z1]at hR;by_cases z2:ql.length=0
     ·refine .inr (.inl ⟨.base 0,0, .exact 0,rfl,z1',by rw[z2];rfl,trivial,trivial,?_⟩)
      rw[hR,hbn0.2 z2];rfl
     ·obtain⟨lb,ob,cb,hbe⟩:=qds hqb (by omega)
      have hb2:=hqb.mono hs_H;rw[hbe]at hb2;obtain⟨e3,-,-⟩:=qgR hb2 (i:=0) (by omega);rw[K9,K8]at e3;refine .inr (.inr ⟨lb,ob,cb,hbe,z1',by rw[decide_eq_true_eq];omega,eq_true (by omega),e3,?_⟩);rw[hR,hql];cases ql with
      |nil=>exact absurd rfl z2
      |cons x xs=>rfl
   refine awp_rseq [4] (by rfl) fun K hK=>?_;suffices hM:∀g:Bool,g=R->K [(4, .bool g)] (H) by
    rcases mcase with⟨lb,ob,cb,hbe,hT,hB,hp2,e3,hfin⟩|⟨lb,ob,cb,hbe,hT,hB,hp2,e3,hfin⟩|⟨lb,ob,cb,hbe,hT,hB,hp2,e3,hfin⟩<;>(
     simp+decide only[ZY,Zn,qO,K8,Qe,Yh,YS,Qb,Wi,Xk,ZF,Yw,WL,K9,↓qg,YR,↓qj,qd qec,↓qI,qh Tryz.underlying79 qcH,qcj,qd qcn,↓Qr,↓qf,↓qc,↓QR,Wh,qY,qZ,qW,↓XP,qd qeb,↓qcW,Xp Tryz.underlying80,↓QI,↓QE,↓Zv,qh Tryz.underlying80 qbU,qlZ,qd ag9,↓qa,Ql eb_0q0,hbl,nb,hpe,hpos,e1,nq,hqvl,hbe,hT,hB,hp2,e3,Bz];exact hM _ hfin.symm)
   intro g hb_9;apply hK;clear hK K;refine qV ?_;try simp only[Xz]
   refine Qk (qA (qC)) ?_;simp+decide only[Xn];rw[<-hb_9];exact⟨h,by assumption,rfl,Vk _⟩
  ·try simp only[qG]at hb2
   rw[if_neg hb2]at hR;refine qo ?_;refine awp_rseq [1,2,5,23,47] (by rfl) fun K hK=>?_;simp+decide only[qJ,Yv,Qb,ZF,↓qf,↓qa];apply hK;clear hK K;refine qz (b:=_) rfl (fun hb3=>?_) (fun hb3=>?_)
   ·try simp only[qG]at hb3
    refine qE ?_;change Awp _ _ _ _ _ _ _;refine qz (b:=_) rfl (fun hb4=>?_) (fun hb4=>?_)
    ·try simp only[qG]at hb4
     rw[if_pos (.inl hb3)]at hR;refine awp_rseq [4] (by rfl) fun K hK=>?_;simp+decide only[Xh,↓qc,↓qa];apply hK;clear hK K;refine qV ?_;try simp only[Xz]
     refine Qk (qA (qC)) ?_;simp+decide only[Xn];exact⟨h,by assumption,by rw[hR,hbA],Vk _⟩
    ·exact absurd hb3 (of_decide_eq_false hb4)
   ·try simp only[qG]at hb3
    refine QK [1,2,5,23,47] (by rfl) ?_;simp+decide only[qJ,Yv,Qb,ZF,↓qf,↓qa];change Awp _ _ _ _ _ _ _;refine qz (b:=_) rfl (fun hb6=>?_) (fun hb6=>?_)
    ·try simp only[qG]at hb6
     rw[if_pos (.inr hb6)]at hR;refine awp_rseq [4] (by rfl) fun K hK=>?_;simp+decide only[Xh,↓qc,↓qa];apply hK;clear hK K;refine qV ?_;try simp only[Xz]
     refine Qk (qA (qC)) ?_;simp+decide only[Xn];exact⟨h,by assumption,by rw[hR,hbA],Vk _⟩
    ·try simp only[qG]at hb6
     rw[if_neg (by
      rintro(z|z)
      ·exact hb3 z
      ·exact hb6 z)]at hR
     refine awp_rseq [1,2,51] (by rfl) fun K hK=>?_;simp+decide only[qJ,Yv,Qb,ZF,↓qf,↓qa];apply hK;clear hK K;refine qz (b:=_) rfl (fun hb7=>?_) (fun hb7=>?_)
     ·try simp only[qG]at hb7
      rw[if_pos hb7]at hR;refine qmm [0,2,3,4,5,1,6,7,8,9,10,11,12,13,14,15,16] [none,none,none,none,none,none,some 5,some 6,some 7,some 8,some 9,some 10,some 11,some 12,some 9,some 7,some 15] 17 [4] mixed (by kernel_rfl) (by rfl) fun K hK=>?_;simp only[Kz,KM,List.filterMap_cons,List.filterMap_nil,YV];simp+decide only[Zp,XD,qO,Qm,WL,qgg,qfu,Uu,↓qj,Qa qiH UJ,↓qg,Wh,qd qeb,↓Qr,↓qf,Ql eb_0q0,Nat.reduceAdd,hpl,hbl,nb];refine qM (by rfl) (by rfl) (qsn wz ha _ c.verb c.line c.col pv bv c.phrases (hp.mono zqB) hbl hbs hbc hf) fun x14q1 h14q1 hx14q1=>?_;obtain⟨rfl,hs14⟩:=hx14q1;have hs_h14q1:Sub h h14q1:=Bt zqC hs14;have hr_h14q1:Sub H h14q1:=Bt zqC hs14;have eb_0q0:=hs14 k0q0 _ zqA;rw[Qt];refine And.intro (by first|exact Vk _|assumption|exact Vl (by assumption)) ?_;simp+decide only[ZY,Zn,Ya,qF,Yh,Zf,Xk,Zm,Yw,qbS,qbR,Uu,pBinX_beq,Tryz.underlying4,↓qc,↓Xc,qY,qZ,qW,↓QR,Wh,↓XP,qd qeb,↓qcW,qho,qhp,↓QI,↓qaA,↓QE,↓qa,Ql eb_0q0,hbl,nb];apply hK;clear hK K;refine qV ?_;try simp only[Xz]
      refine Qk (qA (qC)) ?_;simp+decide only[Xn];refine⟨h,by assumption,?_,Vk _⟩;rw[hR];congr 1;by_cases z:ql.length=0
      ·rw[hbn0.2 z,z]
       cases YO wordsO c.phrases<;>cases closed<;>rfl
      ·have z2:c.bodies≠[]:=fun e=>z (hbn0.1 e)
       have z3:decide ((0:Int)<ql.length)=true:=by rw[decide_eq_true_eq];omega
       have z4:decide ((ql.length:Int)=0)=false:=by rw[decide_eq_false_iff_not];omega
       rw[z3,z4,decide_eq_false z2];cases YO wordsO c.phrases<;>cases closed<;>rfl
     ·try simp only[qG]at hb7
      rw[if_neg hb7]at hR;refine qE ?_;change Awp _ _ _ _ _ _ _;refine awp_rseq [4] (by rfl) fun K hK=>?_;simp+decide only[qJ,↓qa];apply hK;clear hK K;refine qV ?_;refine Qk (qA (qC)) ?_;simp+decide only[Xn];exact⟨h,by assumption,by rw[hR],Vk _⟩
abbrev curB(c:Cur)(pv bv:AVal):Blk:=⟨[.str c.verb, .int .i64 c.line, .int .i64 c.col,pv,bv],0⟩
abbrev parB3(v:AVal)(i:Nat)(ov:AVal):Blk:=⟨[v, .int .i64 i,ov],0⟩
structure CurS(wz:World)(d:Nat)(c:Cur)(pv bv:AVal)(pp tp bp E:AHeap):Prop where
 ph:∃(qs:List (PhrC×AVal)) (w:Str) (ts:List TokC) (tv:AVal),c.phrases=qs.map (·.1)++[⟨w,ts⟩]/\GrowV 2 pv pp (qs.map phC++[[.str w,tv]])/\GrowV 5 tv tp (ts.map Zb)/\∀q∈qs,IsL wz E 5 q.2 (q.1.toks.map Zb)
 bd:∃bs:List (BodC×AVal×AVal),c.bodies=bs.map (·.1)/\GrowV 3 bv bp (bs.map bdC)/\∀b∈bs,IsL wz E 5 b.2.1 (b.1.2.1.map Zb)/\StsV wz d E b.2.2 b.1.2.2
def Few(c:Cur)(i:Nat):Prop:=c.phrases.length<=i/\(∀p∈c.phrases,p.toks.length<=i)/\c.bodies.length<=i
theorem CurS.bv_len{wz:World}{d:Nat}{c:Cur}{pv bv:AVal}{pp tp bp E:AHeap}(hc:CurS wz d c pv bv pp tp bp E):bv.live=true/\bv.scal=true/\bv.cells=[bv]/\∀H:AHeap,Ze Tryz.prog H 80 bv=⟨True, .int .i64 c.bodies.length⟩:=by
 obtain⟨bs,e,g,-⟩:=hc.bd;refine⟨g.live,g.scal,g.cells,fun H=>?_⟩;rw[qfH (wz:=wz) (g.isL (Vk _)),e,Jp]
theorem CurS.pv_ok{wz:World}{d:Nat}{c:Cur}{pv bv:AVal}{pp tp bp E:AHeap}(hc:CurS wz d c pv bv pp tp bp E):pv.live=true/\pv.scal=true/\pv.cells=[pv]:=by
 obtain⟨qs,w,ts,tv,_,g,_⟩:=hc.ph;exact⟨g.live,g.scal,g.cells⟩
theorem c_tokBad(wz:World)(h B:AHeap)(kp ks:Nat)(v ov bv pv:AVal)(op pp tp bp E:AHeap)(c:Cur)(d i:Nat)(l:List TokC)(forms:Str)(hS:Sep [B,one kp (parB3 v i ov),op,one ks (curB c pv bv),pp,tp,bp,E] h)(hv:IsL wz B 5 v (l.map Zb))(hc:CurS wz d c pv bv pp tp bp E)
 (hl:l.length<=1000000) (hi:i<=l.length) (hb:c.bodies≠[]):APanic Tryz.prog wz 76 [.ptr (.own kp) 0, .ptr (.own ks) 0, .str forms] h (FaultP h (qam l 4 i)):=by
 have eb_p:h kp=some _:=hS.at_ (i:=1) rfl;have eb_s:h ks=some _:=hS.at_ (i:=3) rfl;have ne_p_s:kp≠ks:=hS.ne (i:=1) (j:=3) rfl rfl (by decide);have hs_h:Sub B h:=hS.in_ (i:=0) rfl;have hlv:=hv.live;obtain⟨hbl,-,-,nb⟩:=hc.bv_len;have hn:=Bv.2 hb;refine qbm (k:=82) (rs:=[]) Tryz.func76 rfl rfl rfl rfl (V7 rfl) ?_;simp only[qU];refine qo ?_;refine awp_rseq [0,1,2,14] (by rfl) fun K hK=>?_;simp+decide only[Yz,qO,Qm,Xg,WL,↓qc,↓Qg,↓qg,Wh,↓qj,qd qeb,↓Qr,↓qf,Ql eb_s,Nat.reduceAdd,hbl,nb];apply hK;clear hK K;refine qz (b:=_) rfl (fun hb1=>?_) (fun hb1=>?_)
 ·try simp only[qG]at hb1
  refine YF 5 (by rfl) (by rfl) ?_;simp only[Zu];simp+decide only[ZU,Xg,↓qc,↓Qg,↓qg,We,↓qj,qd ag3,Ql eb_p];refine⟨⟨_,_,by rfl,?_⟩,by intro i;first|trivial|exact .inr trivial|exact .inr rfl⟩;exact qeI wz _ B kp v ov l i 4 i zqA zqB hv hl (by omega)
 ·have:=of_decide_eq_false hb1;omega
theorem qlm(F:List AVal)(w tv u:AVal)(n:Nat)(hn:F.length=n*2):setAt (F++[w,tv]) (n*2+1) [u]=F++[w,u]:=by
 simp only[setAt];rw[BM _ _ (by omega),show n*2+1-F.length=1 by omega];rfl
theorem qew(qs:List (PhrC×AVal)):(qs.map phC).flatten.length=qs.length*2:=by rw[flatten_len qfm,Jp]
theorem qfU{l:List TokC}{c:Cur}{forms:Str}{i:Nat}(hb:c.bodies=[]):WS l c forms i=if (Qs l i forms).2=0 then .ok {c with phrases:=qhu c.phrases (l.getD i noT)} (i+1)
 else if (Qs l i forms).1≠[]then .ok {c with phrases:=c.phrases++[⟨(Qs l i forms).1,[]⟩]} (i+(Qs l i forms).2)
 else .ok c (i+(Qs l i forms).2):=by
 unfold WS;rw[if_neg (by rw[hb];simp)]
theorem addT_snoc(ps:List PhrC)(w:Str)(ts:List TokC)(t:TokC):qhu (ps++[⟨w,ts⟩]) t=ps++[⟨w,ts++[t]⟩]:=by simp[qhu]
theorem qgh{qs:List (PhrC×AVal)}{w:Str}{tv pv:AVal}{pp:AHeap}(hg:GrowV 2 pv pp (qs.map phC++[[.str w,tv]])):∃kh ch,pv= .slice (.own kh) 0 (qs.length+1) ch/\(ch= .exact (qs.length+1)\/ch= .grow 2)/\pp=one kh ⟨(qs.map phC).flatten++[.str w,tv],0⟩:=by
 rcases hg with⟨_,_,e⟩|⟨k,c,e1,e2,e3,_,_⟩
 ·simp at e
 ·rw[Jd,Jp,JH]at e1 e2
  exact⟨k,c,e1,e2,by rw[e3];simp⟩
theorem qkb{qs:List (PhrC×AVal)}{w:Str}{tv pv u:AVal}{pp:AHeap}{kh:Nat}{ch:Cap}(hg:GrowV 2 pv pp (qs.map phC++[[.str w,tv]]))(hpv:pv= .slice (.own kh) 0 (qs.length+1) ch)(hch:ch= .exact (qs.length+1)\/ch= .grow 2)(hu:u.live=true):
 GrowV 2 pv (one kh ⟨(qs.map phC).flatten++[.str w,u],0⟩) (qs.map phC++[[.str w,u]]):=by
 have hl:allLive (qs.map phC++[[AVal.str w,tv]]).flatten=true:=by
  rcases hg with⟨_,_,e⟩|⟨_,_,_,_,_,_,hl⟩
  ·simp at e
  ·exact hl
 rw[Vv,YA,Ky]at hl;subst hpv;refine GrowV.new (by rw[Jd,Jp,JH]) hch (fun x hx=>?_) ?_ (by simp)
 ·rcases JX.1 hx with h|h
  ·exact qfm x h
  ·rw[V9.1 h];rfl
 ·rw[Vv,YA,hl.1]
  show(true && (true && (u.live && true)))=true
  rw[hu];rfl
theorem qrH(qs:List (PhrC×AVal))(w:Str)(tv:AVal):((qs.map phC).flatten++[AVal.str w,tv]).getD (qs.length*2+1) .dead=tv:=by
 rw[Ko,BN (by rw[qew];omega),qew,show qs.length*2+1-qs.length*2=1 by omega];rfl
set_option maxHeartbeats 4000000 in
theorem c_tokOk(wz:World)(ha:Asp wz)(h B:AHeap)(kp ks:Nat)(v ov bv pv:AVal)(op pp tp bp E:AHeap)(c c':Cur)(d i j:Nat)(l:List TokC)(forms:Str)(hS:Sep [B,one kp (parB3 v i ov),op,one ks (curB c pv bv),pp,tp,bp,E] h)(hv:IsL wz B 5 v (l.map Zb))(hc:CurS wz d c pv bv pp tp bp E)
 (hl:l.length<=1000000) (hi:i<l.length) (hb:c.bodies=[]) (hf:forms.length<=1000000) (hfa:asciiB forms=true) (hok:WS l c forms i= .ok c' j) (hfew:Few c i) (hov:ov.live=true):
 ACall Tryz.prog wz 76 [.ptr (.own kp) 0, .ptr (.own ks) 0, .str forms] h (fun r h'=>r= .tuple []/\∃pv' pp' tp' E',CurS wz d c' pv' bv pp' tp' bp E'/\Sep [B,one kp (parB3 v j ov),op,one ks (curB c' pv' bv),pp',tp',bp,E'] h'):=by
 have eb_p:h kp=some _:=hS.at_ (i:=1) rfl;have eb_s:h ks=some _:=hS.at_ (i:=3) rfl;have ne_p_s:kp≠ks:=hS.ne (i:=1) (j:=3) rfl rfl (by decide);have hs_h:Sub B h:=hS.in_ (i:=0) rfl;have hlv:=hv.live;obtain⟨hbl,hbs,hbc,nb⟩:=hc.bv_len;rw[qfU hb]at hok;have hst:=qcJ l i forms (by omega);obtain⟨S,hS0⟩:∃S,S=Qs l i forms:=⟨_,rfl⟩
 rw[<-hS0]at hok hst;obtain⟨hf1,hf2,hf3⟩:=hfew;refine qP (n:=82) (rs:=[]) Tryz.func76 rfl rfl rfl rfl (V7 rfl) ?_;simp only[qU];refine qo ?_;refine awp_rseq [0,1,2,14] (by rfl) fun K hK=>?_;simp+decide only[Yz,qO,Qm,Xg,WL,↓qc,↓Qg,↓qg,Wh,↓qj,qd qeb,↓Qr,↓qf,Ql eb_s,Nat.reduceAdd,hbl,nb];apply hK;clear hK K;refine qz (b:=_) rfl (fun hb1=>?_) (fun hb1=>?_)
 ·rw[hb]at hb1;cases hb1
 ·try simp only[qG]at hb1
  refine qE ?_;change Awp _ _ _ _ _ _ _;refine awp_rseq [0,1,6,7] (by rfl) fun K hK=>?_;simp+decide only[Qw,↓qc];refine QM (V:= .tuple [.str S.1, .int .i64 S.2]) (by rfl) (by rfl) (by rw[hS0];exact qfC wz ha _ (.own kp) 0 v l i forms (YG wz eb_p 0) (YG wz eb_p 1) (hv.mono zqB) hl (by omega) hf hfa) ?_;simp+decide only[Xh,Xo,Xi,Xy,↓qc,↓Xr,↓qa,Nat.reduceAdd];apply hK;clear hK K;refine qo ?_;refine qK ?_;refine awp_rseq [0,1,6,7,27] (by rfl) fun K hK=>?_;simp+decide only[ZY,qO,Zm,↓qc,↓qf,↓qa];apply hK;clear hK K;refine qz (b:=_) rfl (fun hb2=>?_) (fun hb2=>?_)
  ·try simp only[qG]at hb2
   have hz:S.2=0:=by omega
   rw[if_pos hz]at hok;obtain⟨qs,w,ts,tv,hph,hg,hgt,hqE⟩:=hc.ph;obtain⟨kh,ch,rfl,hch,rfl⟩:=qgh hg;have eb_h:h kh=some _:=hS.at_ (i:=4) rfl;have ne_p_h:kp≠kh:=hS.ne (i:=1) (j:=4) rfl rfl (by decide);have ne_s_h:ks≠kh:=hS.ne (i:=3) (j:=4) rfl rfl (by decide);have nph:∀H:AHeap,Ze Tryz.prog H 79 (.slice (.own kh) 0 (qs.length+1) ch)=⟨True, .int .i64 ((qs.length+1:Nat):Int)⟩:=fun H=>by
    have:=(hg.isL (wz:=wz) (Vk _)).len Tryz.underlying79 H
    rwa [Jd,Jp,JH]at this
   rw[hph,Jd,Jp,JH]at hf1;have hwn:IntKind.i64.wrap (((qs.length+1:Nat):Int)-1)=(qs.length:Int):=by rw[wrap_i64 (by omega) (by omega)];omega
   have htl:=hgt.live;have htsl:ts.length<=i:=hf2 ⟨w,ts⟩ (by rw[hph];simp);refine qai [0,8] mixed (by kernel_rfl) (by rfl) (by rfl) fun K hK=>?_;simp+decide only[Yz,qO,Qm,Xg,UC,↓qc,↓Qg,↓qg,YR,↓qj,qd qec,↓Qr,Xp Tryz.underlying79,↓qf,Ql eb_s,hwn];try simp+decide only[qJ,Xa,↓qI,qh Tryz.underlying79 qcH,↓qa]
   repeat (with_reducible refine zqP ?_)
   apply hK;clear hK K;obtain⟨lc,o,cc,hve⟩:=Yp hv (by omega);have hv2:=hv.mono hs_h;rw[hve]at hv2;obtain⟨e0,e1,e2,e3,e4⟩:=UI hv2 hi;obtain⟨t,ht⟩:∃t,t=l.getD i noT:=⟨_,rfl⟩
   rw[<-ht]at e0 e1 e2 e3 e4 hok;obtain⟨cs,hcs⟩:∃cs,cs=(qs.map phC).flatten++[AVal.str w,tv]:=⟨_,rfl⟩
   have hcg:cs.getD (qs.length*2+1) .dead=tv:=by rw[hcs];exact qrH qs w tv
   have hcl:cs.length=qs.length*2+2:=by rw[hcs,Jd,qew];rfl
   rw[<-hcs]at eb_h hS;have etv:rd wz h (.own kh) (qs.length*2+1)=tv:=by rw[YG wz eb_h];exact hcg
   refine qbF 16 [0] [0] mixed (by kernel_rfl) (by rfl) fun K hK=>?_;simp only[Zu,VU,Vp];simp+decide only[Qw,Xm,QN,Xg,ZN,Zj,↓qbg,↓qaM,↓YP,qcj,↓qbh,qd qcn,qcR,We,qd ag3,↓Uj,qh Tryz.underlying39 UA,Qa qmP UA,Ql eb_p,htl,etv,hve,e0,e1,e2,e3,e4];repeat (with_reducible refine zqP ?_)
   refine UY (by rfl) ?_;refine Qd (cs:=(Zb t)) (by kernel_rfl) fun k5q15 hk5q15=>?_;have hn_5q15:h k5q15=none:=by first|assumption|(simp only[Bi]at hk5q15;simp only[hk5q15])
   have hf_5q15:B k5q15=none:=Bj hs_h hn_5q15;have ne_5q15_p:k5q15≠kp:=Bl hn_5q15 eb_p;have ne_5q15_s:k5q15≠ks:=Bl hn_5q15 eb_s;rw[Qt];try simp only[qbi,qaS]
   refine Yi (es:=5) (v:=tv) (p:=tp) (xs:=ts.map Zb) (ys:=[Zb t]) (i:=5) (by rfl) (by rfl) Tryz.underlying39 Tryz.underlying39 (fun k e=>by cases e) UA by44 qpB (by rfl) (by decide) (by rfl) hgt rfl (hS.forget (Vl hn_5q15)) (by rfl) (BA (Vj _ _ _) (fun x hx=>by rw[V9.1 hx];rfl) (by rfl) (by rfl) (.exact 1) (KL _)) (by rfl) (by simp) (by rw[Jp,JH];omega) (by rw[Jp,JH];omega) fun tv2 tp2 h5 hg2 _ hS2=>?_;simp+decide only[YI,QN,Xg,↓Qg,↓qg,qcj];refine qN (v:=tv2) (by rfl) (by rfl) (hS2.at_ (i:=4) rfl) sz39 hg2.live (by rw[hg2.cells];rfl) (by simp only;omega) (Js _) (by rw[hg2.cells];simp[Qu,hg2.scal]) ?_;simp+decide only[qR,QN];apply hK;clear hK K;obtain⟨H6,hH6⟩:∃H6,H6=h5.set kh ⟨setAt cs (qs.length*2+1) tv2.cells,0⟩:=⟨_,rfl⟩
   refine BO (h':=H6) (by rw[hH6];exact Vk _) ?_;rw[hg2.cells,hcs,qlm _ _ _ _ _ (qew qs)]at hH6;have hS6:=hS2.put (i:=4) rfl ⟨(qs.map phC).flatten++[AVal.str w,tv2],0⟩;rw[<-hH6]at hS6;simp only[XE]at hS6;have eb_p:H6 kp=some _:=hS6.at_ (i:=1) rfl;have hs_H6:Sub B H6:=hS6.in_ (i:=0) rfl;refine QK [0,7] (by rfl) ?_;simp+decide only[qJ,↓qa];change Awp _ _ _ _ _ _ _;refine QK [] (by rfl) ?_;simp+decide only[Yz,qF,ZI,Xg,↓qc,↓Qg,↓qg,We,↓qj,qd ag3,↓qf,Ql eb_p];try simp(disch:=omega)only[wrap_i64,wrap_u8]
   refine qN (by rfl) (by rfl) zqA sz3 (by rfl) (by rfl) zqD (Js _) (by rfl) ?_;simp only[QZ];simp+decide only[qR];refine qaK (qC) ?_;try simp+decide only[qR,qfZ]
   cases hok;exact⟨_,Vk _,_,_,_,_,⟨⟨qs,w,ts++[t],tv2,by simp only;rw[hph,addT_snoc],qkb hg rfl hch hg2.live,by rw[JK];exact hg2,hqE⟩,hc.bd⟩,hS6.put (i:=1) rfl _⟩
  ·try simp only[qG]at hb2
   have hz:S.2≠0:=by omega
   rw[if_neg hz]at hok;refine awp_rseq [0,1,6,7,60] (by rfl) fun K hK=>?_;simp+decide only[Xh,Yv,Qb,XM,qan,↓qc,↓qf,↓qa];apply hK;clear hK K;refine qz (b:=_) rfl (fun hb3=>?_) (fun hb3=>?_)
   ·try simp only[qG]at hb3
    rw[if_pos hb3]at hok;obtain⟨qs,w,ts,tv,hph,hg,hgt,hqE⟩:=hc.ph;have hpl:=hg.live;rw[hph,Jd,Jp,JH]at hf1;refine QK [0,7] (by rfl) ?_;simp+decide only[ZU,Xg,XN,Yo,XO,Za,XZ,Xt,WO,Zw,evP,↓qc,↓Qg,↓qg,YR,↓qj,qd qec,↓YJ,↓XL,bld84_0,Ql eb_s,hpl];refine Qd (cs:=[.str S.1, .nilSlice]) (by kernel_rfl) fun k8q7 hk8q7=>?_;have hn_8q7:h k8q7=none:=by first|assumption|(simp only[Bi]at hk8q7;simp only[hk8q7])
    have hf_8q7:B k8q7=none:=Bj hs_h hn_8q7;have ne_8q7_p:k8q7≠kp:=Bl hn_8q7 eb_p;have ne_8q7_s:k8q7≠ks:=Bl hn_8q7 eb_s;refine Yi (es:=2) (v:=pv) (p:=pp) (xs:=qs.map phC++[[.str w,tv]]) (ys:=[[.str S.1, .nilSlice]]) (i:=4) (by rfl) (by rfl) Tryz.underlying79 Tryz.underlying79 (fun k e=>by cases e) qcH by84 ze84 (by rfl) (by decide) (by rfl) hg rfl (hS.forget (Vl hn_8q7)) (by rfl) (BA (Vj _ _ _) (fun x hx=>by rw[V9.1 hx];rfl) (by rfl) (by rfl) (.exact 1) (KL _)) (by rfl) (by simp) (by simp only[Jp,ZT];omega) (by simp only[Jp,ZT];omega) fun pv2 pp2 h8 hg2 _ hS2=>?_;simp+decide only[YI,Xg,↓Qg,↓qg,YR];refine qN (v:=pv2) (by rfl) (by rfl) (hS2.at_ (i:=3) rfl) sz79 hg2.live (by rw[hg2.cells];rfl) (by simp only[Xo];omega) (Js _) (by rw[hg2.cells];simp[Qu,hg2.scal]) ?_;simp only[XE,WN,hg2.cells];simp+decide only[qR];have eb_p:h8 kp=some _:=hS2.at_ (i:=1) rfl;have hs8:Sub B h8:=hS2.in_ (i:=0) rfl;change Awp _ _ _ _ _ _ _;refine QK [] (by rfl) ?_;simp+decide only[Yz,qF,ZI,Xg,↓qc,↓Qg,↓qg,We,↓qj,qd ag3,↓qf,Ql eb_p,ne_p_s];try simp(disch:=omega)only[wrap_i64,wrap_u8]
    refine qN (by rfl) (by rfl) zqA sz3 (by rfl) (by rfl) zqD (Js _) (by rfl) ?_;simp only[QZ];simp+decide only[qR];refine qaK (qC) ?_;try simp+decide only[qR,qfZ]
    cases hok;have hS8:=(hS2.put (i:=3) rfl (curB {c with phrases:=c.phrases++[⟨S.1,[]⟩]} pv2 bv)).put (i:=1) rfl (parB3 v (i+S.2) ov);have hS9:=(Sep.fold (ps:=[tp,E]) (hS8.pick [5,7,0,1,2,3,4,6] (by decide) (by simp))).emp.pick [1,2,3,4,5,7,6,0] (by decide) (by simp);have hsu:=Xl (ps:=[tp,E]) (hS8.pick [5,7] (by decide) (by simp)).2;exact⟨_,Vk _,_,_,_,_,⟨⟨qs++[(⟨w,ts⟩,tv)],S.1,[], .nilSlice,by simp only;rw[hph,JK];rfl,by rw[JK];exact hg2, .nil,fun q hq=>by
     rcases JX.1 hq with hq|hq
     ·exact(hqE q hq).mono (hsu E (by simp))
     ·rw[V9.1 hq]
      exact hgt.isL (hsu tp (by simp))⟩,by
     obtain⟨bs,b1,b2,b3⟩:=hc.bd;exact⟨bs,b1,b2,fun b hb=>⟨(b3 b hb).1.mono (hsu E (by simp)),(b3 b hb).2.mono (hsu E (by simp))⟩⟩⟩,hS9⟩
   ·try simp only[qG]at hb3
    rw[if_neg (by rw[hb3];simp)]at hok;refine qE ?_;change Awp _ _ _ _ _ _ _;refine QK [] (by rfl) ?_;simp+decide only[Yz,qF,ZI,Xg,↓qc,↓Qg,↓qg,We,↓qj,qd ag3,↓qf,Ql eb_p];try simp(disch:=omega)only[wrap_i64,wrap_u8]
    refine qN (by rfl) (by rfl) zqA sz3 (by rfl) (by rfl) zqD (Js _) (by rfl) ?_;simp only[QZ];simp+decide only[qR];refine qaK (qC) ?_;try simp+decide only[qR,qfZ]
    cases hok;exact⟨_,Vk _,_,_,_,_,hc,hS.put (i:=1) rfl _⟩
abbrev strC(s:Str):List AVal:=[.str s]
def qmD(B:AHeap)(Q:FaultC->Prop):AVal->AHeap->Prop:=fun x h'=>∃f,Q f/\x= .iface 48 (faultV f)/\Sub B h'
structure ParS(wz:World)(l:List TokC)(B:AHeap)(v ov:AVal)(op:AHeap)(O:List Str)(i:Nat):Prop where
 toks:IsL wz B 5 v (l.map Zb)
 open_:GrowV 1 ov op (O.map strC)
 isG:isG ov=true
 at_:i<=l.length
abbrev ListRO(l:List TokC):=ListR wordsO l Qo
abbrev StRO(l:List TokC):=StR wordsO l Qo
abbrev BodyRO(l:List TokC):=BodyR wordsO l Qo
abbrev LoopRO(l:List TokC):=LoopR wordsO l Qo
def qkM(wz:World)(l:List TokC)(B:AHeap)(kp:Nat)(v:AVal)(O:List Str)(dd i:Nat):AVal->AHeap->Prop:=fun r h'=>∃L j ov' op' E,ListRO l dd O i [] (.ok L j)/\i<=j/\L.length<=j-i/\StsV wz (33-dd) E r L/\ParS wz l B v ov' op' O j/\Sep [B,one kp (parB3 v j ov'),op',E] h'
def StmOut(wz:World)(l:List TokC)(B:AHeap)(kp:Nat)(v:AVal)(O:List Str)(dd i:Nat):AVal->AHeap->Prop:=fun r h'=>dd<=32/\∃s j ov' op' E pv bv,StRO l dd O i (.ok s j)/\i<j/\r= .agg (qen (s,pv,bv))/\PhV wz E pv s.phrases/\BdV wz (StsV wz (32-dd) E) E bv s.bodies/\ParS wz l B v ov' op' O j/\Sep [B,one kp (parB3 v j ov'),op',E] h'
def qmG(wz:World)(l:List TokC)(B:AHeap)(kp ks:Nat)(v pv:AVal)(pp tp:AHeap)(O:List Str)(dd n i:Nat)(c:Cur)(w:Str):AHeap->Prop:=fun h'=>∃c' j ov' op' bv' bp' E',BodyRO l dd O c w n i (.ok c' j)/\i<j/\c'.phrases=c.phrases/\c'.verb=c.verb/\c'.line=c.line/\c'.col=c.col/\c'.bodies.length=c.bodies.length+1/\CurS wz (32-dd) c' pv bv' pp tp bp' E'/\ParS wz l B v ov' op' O j/\Sep [B,one kp (parB3 v j ov'),op',one ks (curB c' pv bv'),pp,tp,bp',E'] h'
def qoa(wz:World)(l:List TokC)(dd:Nat):Prop:=∀(h B:AHeap) (kp:Nat) (v ov:AVal) (op:AHeap) (O:List Str) (i:Nat),Sep [B,one kp (parB3 v i ov),op] h->ParS wz l B v ov op O i->Fair O->O.length+1=dd->
 ACallE Tryz.prog wz 30 [.ptr (.own kp) 0, .int .i64 dd] h (qkM wz l B kp v O dd i) (qmD B fun f=>ListRO l dd O i [] (.bad f))
def StmK(wz:World)(l:List TokC)(dd:Nat):Prop:=∀(h B:AHeap) (kp:Nat) (v ov:AVal) (op:AHeap) (O:List Str) (i:Nat),Sep [B,one kp (parB3 v i ov),op] h->ParS wz l B v ov op O i->Fair O->O.length+1=dd->isV l i=true->
 ACallE Tryz.prog wz 51 [.ptr (.own kp) 0, .int .i64 dd] h (StmOut wz l B kp v O dd i) (qmD B fun f=>StRO l dd O i (.bad f))
def BodK(wz:World)(l:List TokC)(dd:Nat):Prop:=∀(h B:AHeap) (kp ks:Nat) (v ov bv pv:AVal) (op pp tp bp E:AHeap) (O:List Str) (c:Cur) (w:Str) (n i:Nat),Sep [B,one kp (parB3 v i ov),op,one ks (curB c pv bv),pp,tp,bp,E] h->ParS wz l B v ov op O i->CurS wz (32-dd) c pv bv pp tp bp E->Fair O->O.length=dd->i+n<=l.length->0<n\/isV l i=true->Few c i->
 ACallE Tryz.prog wz 73 [.ptr (.own kp) 0, .ptr (.own ks) 0, .str w, .int .i64 n, .int .i64 dd] h (fun r h'=>r= .tuple []/\qmG wz l B kp ks v pv pp tp O dd n i c w h') (qmD B fun f=>BodyRO l dd O c w n i (.bad f))
theorem isV_some{l:List TokC}{i:Nat}(h:isV l i=true):i<l.length:=by
 unfold isV at h;by_cases hi:i<l.length
 ·exact hi
 ·rw[if_neg hi]at h;cases h
structure LsG where
 i:Nat
 ov:AVal
 op:AHeap
 E:AHeap
 qs:List (StC×AVal×AVal)
 rv:AVal
 rp:AHeap
 H:AHeap
structure LsI(wz:World)(l:List TokC)(B:AHeap)(kp:Nat)(v:AVal)(O:List Str)(dd i₀:Nat)(g:LsG):Prop where
 sep:Sep [B,one kp (parB3 v g.i g.ov),g.op,g.rp,g.E] g.H
 par:ParS wz l B v g.ov g.op O g.i
 row:GrowV 5 g.rv g.rp (g.qs.map qen)
 els:∀q∈g.qs,PhV wz g.E q.2.1 q.1.phrases/\BdV wz (StsV wz (32-dd) g.E) g.E q.2.2 q.1.bodies
 le:i₀<=g.i
 few:g.qs.length<=g.i-i₀
 deep:dd<=32\/g.qs=[]
 go:∀r,ListRO l dd O g.i (g.qs.map (·.1)) r->ListRO l dd O i₀ [] r
set_option maxHeartbeats 4000000 in
theorem k_list(wz:World)(hm:MaxL wz)(l:List TokC)(hl:l.length<=65537)(hsh:Short l)(dd:Nat)(hdd:dd<=33)(hst:StmK wz l dd):qoa wz l dd:=by
 intro h B kp v ov op O i₀ hS hP hF hO;refine qbm (k:=36) (rs:=[.tmp 4]) Tryz.func30 rfl rfl rfl rfl (V7 rfl) ?_;simp only[qU];refine awp_rseq [0,1] (by rfl) fun K hK=>?_;simp+decide only[qJ,↓qa];apply hK;clear hK K;refine awp_rseq [0,1,5] (by rfl) fun K hK=>?_;simp+decide only[qJ,↓qa];apply hK;clear hK K;refine qo ?_;refine qK ?_;refine QD [0,1,5] (fun g:LsG=>[(0, .ptr (.own kp) 0),(1, .int .i64 dd),(5,g.rv)]) (fun g:LsG=>g.H) (fun g:LsG=>LsI wz l B kp v O dd i₀ g) (fun g:LsG=>l.length-g.i) ⟨i₀,ov,op,emp,[], .nilSlice,emp,h⟩ (by rfl) (Vk _) ⟨hS.emp.emp,hP, .nil,(fun q hq=>by cases hq),KL _,Js _, .inr rfl,fun r hr=>hr⟩ ?_;rintro⟨i,ov,op,E,qs,rv,rp,H⟩ hI;obtain⟨hS,hP,hrow,hels,hle,hfew,hdeep,hgo⟩:=hI;simp only at hS hP hrow hels hle hfew hdeep hgo|-
 have hs_H:Sub B H:=hS.in_ (i:=0) rfl;have eb_p:H kp=some _:=hS.at_ (i:=1) rfl;have hv:=hP.toks;have hlv:=hv.live;have nv:=Wn hv;have hrl:=hrow.live;refine qo ?_;have mcase:(∃(lc:AM.Loc) (o:Nat) (c:Cap),v= .slice lc o l.length c/\i<l.length/\decide ((i:Int)<(l.length:Int))=true/\rd wz H lc (o+i*5)= .int .u8 (l.getD i noT).kind.toNat/\rd wz H lc (o+i*5+1)= .str (l.getD i noT).text/\rd wz H lc (o+i*5+2)= .int .i64 (l.getD i noT).line/\rd wz H lc (o+i*5+3)= .int .i64 (l.getD i noT).col/\rd wz H lc (o+i*5+4)= .bool (l.getD i noT).left)\/
  (∃(lc:AM.Loc) (o:Nat) (c:Cap),v=v/\¬i<l.length/\decide ((i:Int)<(l.length:Int))=false/\True/\True/\True/\True/\True):=by
  by_cases hlt:i<l.length
  ·obtain⟨lc,o,c,hve⟩:=Yp hv (by omega)
   have hv2:=hv.mono hs_H;rw[hve]at hv2;exact .inl ⟨lc,o,c,hve,hlt,by simpa using hlt,UI hv2 hlt⟩
  ·exact .inr ⟨.base 0,0, .exact 0,rfl,hlt,by simpa using hlt,trivial,trivial,trivial,trivial,trivial⟩
 refine qiE [0,1,5,28] mixed (by kernel_rfl) (by rfl) fun K hK=>?_;suffices hM:∀b:Bool,b=isV l i->K [(0, .ptr (.own kp) 0),(1, .int .i64 dd),(5,rv),(28, .bool b)] (H) by
  rcases mcase with⟨lc,o,c,hve,hkl,hkd,e0,e1,e2,e3,e4⟩|⟨lc,o,c,hve,hkl,hkd,e0,e1,e2,e3,e4⟩<;>(
   simp+decide only[QH,Vz,Xm,QN,Qe,qF,Yh,qcm,Xg,Zz,qdA,qdz,qdy,qdw,qdv,qdu,qdp,qdo,qah,qag,ZN,Zj,↓qof,↓qpH,↓Yk,We,↓qek,qd ag3,qcR,qd qcn,↓vp_len,Xp Tryz.underlying39,↓qpI,↓vg_move,vgP,qkU,qY,qZ,qW,↓qpJ,↓qhB,↓vg_load,↓qhA,qh Tryz.underlying39 UA,Qa qmP UA,Ql eb_p,hlv,nv,hve,hkd,e0,e1,e2,e3,e4];repeat (with_reducible refine zqP ?_)
   first
   |(refine vOps_gno (by rfl) ?_)
   |(refine qgW (V:= .bool (YN (l.getD i noT))) (f:=50) (cap:=[]) (xs:=[tokV (l.getD i noT)]) (by rfl) (fun hg=>⟨rfl,rfl⟩) (fun hg=>qiB wz hm _ _ (hsh.at hkl)) ?_)
   simp+decide only[Zg,QN,Qe,XT,VI,ZH,qab,qar,qad,↓vp_pick]
   (refine hM _ ?_;unfold isV;first|rw[if_pos hkl]|rw[if_neg hkl]))
 intro b hb_2;apply hK;clear hK K;refine qz (b:=_) rfl (fun hb1=>?_) (fun hb1=>?_)
 ·skip
  have hv1:isV l i=true:=by rw[<-hb_2];exact hb1
  have hdj:[B,rp,E].Pairwise disj:=(hS.pick [0,3,4] (by decide) (by simp)).2;have hcall:=hst H (YY [B,rp,E]) kp v ov op O i (Sep.fold (ps:=[B,rp,E]) (hS.pick [0,3,4,1,2] (by decide) (by simp))) ⟨hv.mono (Xl hdj B (by simp)),hP.open_,hP.isG,hP.at_⟩ hF hO hv1;refine qE ?_;change Awp _ _ _ _ _ _ _;refine qK ?_;by_cases hbad:∃f,StRO l dd O i (.bad f)
  ·skip
   refine YF 3 (by rfl) (by rfl) ?_;simp only[Zu];simp+decide only[Qw,↓qc];refine⟨⟨_,_,by rfl,?_⟩,by intro i;first|trivial|exact .inr trivial|exact .inr rfl⟩;obtain⟨f,hf⟩:=hbad;refine(hcall.bad fun x h' ⟨_,s,j,_,_,_,_,_,q,_⟩=>by cases q.one hf).mono (fun _ _ q=>q) fun x h' ⟨f',q1,q2,q3⟩=>⟨f',hgo _ (ListR.bad hv1 q1),q2,(Xl hdj B (by simp)).trans q3⟩
  refine QK [0,1,5] (by rfl) ?_;simp+decide only[Qw,↓qc];refine qM (by rfl) (by rfl) (hcall.ok fun x h' ⟨f,q,_⟩=>hbad ⟨f,q⟩) fun x3q3 h3q3 hx3q3=>?_;obtain⟨hd3,s,j,ov2,op2,E2,pv,bv,hR3,hij,rfl,hph3,hbd3,hP3,hS3⟩:=hx3q3;have hS3:=hS3.unfold hdj;have hs_3:Sub B h3q3:=hS3.in_ (i:=0) rfl;refine Qd (cs:=qen (s,pv,bv)) (by kernel_rfl) fun k3q4 hk3q4=>?_;refine Yi (es:=5) (v:=rv) (p:=rp) (xs:=qs.map qen) (ys:=[qen (s,pv,bv)]) (i:=1) (by rfl) (by rfl) Tryz.underlying45 Tryz.underlying45 (fun k e=>by cases e) UJ by82 qoc (by rfl) (by decide) (by rfl) hrow rfl (hS3.forget (Vl hk3q4)) (by rfl) (BA (Vj _ _ _) (fun x hx=>by rw[V9.1 hx];rfl) (by rfl) (by show(true && (true && (true && (pv.live && (bv.live && true)))))=true;rw[hph3.live,hbd3.live];rfl) (.exact 1) (KL _)) (by show(true && (true && (true && (pv.scal && (bv.scal && true)))))=true;rw[hph3.scal,hbd3.scal];rfl) (by simp) (by rw[Jp,JH];have:=hP.at_;omega) (by rw[Jp,JH];have:=hP.at_;omega) fun rv2 rp2 h4 hrow2 _ hS4=>?_;simp+decide only[qJ,↓qa];try simp only[QT]
  have hu:∀p∈[E,E2],Sub p (YY [E,E2]):=Xl (hS4.pick [2,5] (by decide) (by simp)).2;refine⟨⟨j,ov2,op2,YY [E,E2],qs++[(s,pv,bv)],rv2,rp2,h4⟩,rfl,Vk _,⟨(Sep.fold (ps:=[E,E2]) (hS4.pick [2,5,0,3,4,1] (by decide) (by simp))).pick [1,2,3,4,0] (by decide) (by simp),⟨hv,hP3.open_,hP3.isG,hP3.at_⟩,by simp only;rw[JK];exact hrow2,fun q hq=>?_,by simp only;omega,by simp only[ZT];omega, .inl hd3,fun r hr=>?_⟩,by have:=hP3.at_;simp only;omega⟩
  ·rcases JX.1 hq with z|z
   ·exact⟨(hels q z).1.mono (hu E (by simp)),(hels q z).2.mono (hu E (by simp)) fun _ _=>StsV.mono (hu E (by simp))⟩
   ·rw[V9.1 z]
    exact⟨hph3.mono (hu E2 (by simp)),hbd3.mono (hu E2 (by simp)) fun _ _=>StsV.mono (hu E2 (by simp))⟩
  ·refine hgo r (ListR.next hv1 hR3 ?_)
   simp only[XN,JK]at hr;exact hr
 ·skip
  have hv1:isV l i=false:=by rw[<-hb_2,hb1]
  refine QC ?_;change Awp _ _ _ _ _ _ _;refine awp_rseq [4] (by rfl) fun K hK=>?_;simp+decide only[Xh,↓qc,↓qa];apply hK;clear hK K;refine qV ?_;refine Qk (qA (qC)) ?_;simp+decide only[Xn];have hu:∀p∈[rp,E],Sub p (YY [rp,E]):=Xl (hS.pick [3,4] (by decide) (by simp)).2;have hrr:=hrow.isL (wz:=wz) (hu rp (by simp));refine⟨H,Vk _,qs.map (·.1),i,ov,op,YY [rp,E],hgo _ (ListR.stop hv1),hle,by rw[Jp];exact hfew,?_,hP,(Sep.fold (ps:=[rp,E]) (hS.pick [3,4,0,1,2] (by decide) (by simp))).pick [1,2,3,0] (by decide) (by simp)⟩;rcases hdeep with hd|hq
  ·rw[show 33-dd=(32-dd)+1 by omega]
   exact⟨qs,rfl,hrr,fun q hq=>⟨(hels q hq).1.mono (hu E (by simp)),(hels q hq).2.mono (hu E (by simp)) fun _ _=>StsV.mono (hu E (by simp))⟩⟩
  ·subst hq
   cases h0:33-dd with
   |zero=>exact⟨rfl,hrr⟩
   |succ d=>exact⟨[],rfl,hrr,fun q hq=>by cases hq⟩
structure B1G where
 j:Nat
 H:AHeap
structure B2G where
 toks:List TokC
 i:Nat
 tv:AVal
 q:AHeap
 H:AHeap
structure B2I(wz:World)(l:List TokC)(B:AHeap)(kp ks kb:Nat)(v ov pv bv:AVal)(op pp tp bp E:AHeap)(c:Cur)(w:Str)(i₀:Nat)(g:B2G):Prop where
 sep:Sep [B,one kp (parB3 v g.i ov),op,one ks (curB c pv bv),pp,tp,bp,E,one kb ⟨[.str w,g.tv, .nilSlice],0⟩,g.q] g.H
 row:GrowV 5 g.tv g.q (g.toks.map Zb)
 at_:g.i<=l.length
 le:i₀<=g.i
 few:g.toks.length<=g.i
theorem qfi{l:List TokC}{fm:Str}{i:Nat}{acc:List TokC}(h:isE l i=true\/isV l i=true\/qav l i≠[]\/0<(Qs l i fm).2):Uz l fm (l.length-i) i acc=(acc,i):=by
 cases hf:l.length-i with
 |zero=>rfl
 |succ f=>rw[Uz,if_pos h]
theorem qpF{l:List TokC}{fm:Str}{i:Nat}{acc:List TokC}(hi:i<l.length)(h:¬(isE l i=true\/isV l i=true\/qav l i≠[]\/0<(Qs l i fm).2)):Uz l fm (l.length-i) i acc=Uz l fm (l.length-(i+1)) (i+1) (acc++[l.getD i noT]):=by
 obtain⟨f,hf⟩:∃f,l.length-i=f+1:=⟨l.length-i-1,by omega⟩
 rw[hf,Uz,if_neg h,show l.length-(i+1)=f by omega]
def goW(l:List TokC)(i:Nat):Bool:= !(isE l i||(isV l i|| !decide (qav l i=[])))
theorem goW_end{l:List TokC}{i:Nat}(h:¬i<l.length):goW l i=false:=by unfold goW isE;rw[if_neg h];rfl
theorem goW_in{l:List TokC}{i:Nat}(h:i<l.length):goW l i=(!decide ((l.getD i noT).kind=6) && (!YN (l.getD i noT) && decide (qbE (l.getD i noT)=[]))):=by
 unfold goW isE isV qav;rw[if_pos h,if_pos h];cases decide ((l.getD i noT).kind=6)<;>cases YN (l.getD i noT)<;>cases decide (qbE (l.getD i noT)=[])<;>rfl
def MC11(wz:World)(H:AHeap)(l:List TokC)(v:AVal)(a:Nat):Prop:=
 (∃(lc:AM.Loc) (o:Nat) (c:Cap),v=v/\decide ((a:Int)<(l.length:Int))=false/\¬a<l.length/\True/\True/\True/\True/\True/\True/\True/\goW l a=false)\/
 (∃(lc:AM.Loc) (o:Nat) (c:Cap),v= .slice lc o l.length c/\decide ((a:Int)<(l.length:Int))=true/\a<l.length/\decide (((l.getD a noT).kind.toNat:Int)=6)=true/\True/\rd wz H lc (o+a*5)= .int .u8 (l.getD a noT).kind.toNat/\rd wz H lc (o+a*5+1)= .str (l.getD a noT).text/\rd wz H lc (o+a*5+2)= .int .i64 (l.getD a noT).line/\rd wz H lc (o+a*5+3)= .int .i64 (l.getD a noT).col/\rd wz H lc (o+a*5+4)= .bool (l.getD a noT).left/\goW l a=false)\/
 (∃(lc:AM.Loc) (o:Nat) (c:Cap),v= .slice lc o l.length c/\decide ((a:Int)<(l.length:Int))=true/\a<l.length/\decide (((l.getD a noT).kind.toNat:Int)=6)=false/\YN (l.getD a noT)=true/\rd wz H lc (o+a*5)= .int .u8 (l.getD a noT).kind.toNat/\rd wz H lc (o+a*5+1)= .str (l.getD a noT).text/\rd wz H lc (o+a*5+2)= .int .i64 (l.getD a noT).line/\rd wz H lc (o+a*5+3)= .int .i64 (l.getD a noT).col/\rd wz H lc (o+a*5+4)= .bool (l.getD a noT).left/\goW l a=false)\/
 (∃(lc:AM.Loc) (o:Nat) (c:Cap),v= .slice lc o l.length c/\decide ((a:Int)<(l.length:Int))=true/\a<l.length/\decide (((l.getD a noT).kind.toNat:Int)=6)=false/\YN (l.getD a noT)=false/\rd wz H lc (o+a*5)= .int .u8 (l.getD a noT).kind.toNat/\rd wz H lc (o+a*5+1)= .str (l.getD a noT).text/\rd wz H lc (o+a*5+2)= .int .i64 (l.getD a noT).line/\rd wz H lc (o+a*5+3)= .int .i64 (l.getD a noT).col/\rd wz H lc (o+a*5+4)= .bool (l.getD a noT).left/\goW l a=decide (qbE (l.getD a noT)=[]))
theorem mc11{wz:World}{H:AHeap}{l:List TokC}{v:AVal}{a:Nat}(hv:IsL wz H 5 v (l.map Zb)):MC11 wz H l v a:=by
 by_cases hlt:a<l.length
 ·obtain⟨lc,o,c,hve⟩:=Yp hv (by omega)
  rw[hve]at hv;have he:=UI hv hlt;have hg:=goW_in hlt;have z6:decide (((l.getD a noT).kind.toNat:Int)=6)=decide ((l.getD a noT).kind=6):=Yu _ 6;have hd:decide ((a:Int)<(l.length:Int))=true:=by simpa using hlt
  obtain⟨e0,e1,e2,e3,e4⟩:=he;by_cases q6:(l.getD a noT).kind=6
  ·exact .inr (.inl ⟨lc,o,c,hve,hd,hlt,by rw[z6];exact decide_eq_true q6,trivial,e0,e1,e2,e3,e4,by rw[hg,decide_eq_true q6];rfl⟩)
  ·cases hvt:YN (l.getD a noT)with
   |true=>exact .inr (.inr (.inl ⟨lc,o,c,hve,hd,hlt,by rw[z6];exact decide_eq_false q6,hvt,e0,e1,e2,e3,e4,by rw[hg,hvt,decide_eq_false q6];rfl⟩))
   |false=>exact .inr (.inr (.inr ⟨lc,o,c,hve,hd,hlt,by rw[z6];exact decide_eq_false q6,hvt,e0,e1,e2,e3,e4,by rw[hg,hvt,decide_eq_false q6];rfl⟩))
 ·exact .inl ⟨.base 0,0, .exact 0,rfl,by simpa using hlt,hlt,trivial,trivial,trivial,trivial,trivial,trivial,trivial,goW_end hlt⟩
theorem qjv{O:List Str}(hF:Fair O):(O.getLastD []).length<=1000000/\asciiB (O.getLastD [])=true:=by
 cases O with
 |nil=>exact⟨by simp,rfl⟩
 |cons a O=>exact hF _ (by rw[List.getLastD_cons];exact List.getLastD_mem_cons)
set_option maxHeartbeats 8000000 in
theorem k_bodyA(wz:World)(l:List TokC)(hl:l.length<=65537)(dd:Nat)
 (hrest:∀(H B:AHeap) (kp ks:Nat) (v ov bv pv:AVal) (op pp tp bp E:AHeap) (O:List Str) (c:Cur) (w:Str) (n i:Nat),Sep [B,one kp (parB3 v i ov),op,one ks (curB c pv bv),pp,tp,bp,E] H->ParS wz l B v ov op O i->CurS wz (32-dd) c pv bv pp tp bp E->Fair O->O.length=dd->i+n<=l.length->0<n\/isV l i=true->Few c i->Stm.twice c w=false->
   Awp Tryz.prog wz ⟨210,[],GP wz 210 [] [] (qmD B fun f=>BodyRO l dd O c w n i (.bad f))⟩ (Uk 2 (qdG Tryz.f73)) (qdN Tryz.prog wz [] (fun r h'=>r= .tuple []/\qmG wz l B kp ks v pv pp tp O dd n i c w h')) [(0, .ptr (.own kp) 0),(1, .ptr (.own ks) 0),(2, .str w),(3, .int .i64 n),(4, .int .i64 dd),(10, .int .i64 i)] (H)):BodK wz l dd:=by
 intro h B kp ks v ov bv pv op pp tp bp E O c w n i hS hP hC hF hO hin hpos hfew;have hin2:i<=l.length:=hP.at_;have eb_p:h kp=some _:=hS.at_ (i:=1) rfl;have eb_s:h ks=some _:=hS.at_ (i:=3) rfl;have ne_p_s:kp≠ks:=hS.ne (i:=1) (j:=3) rfl rfl (by decide);have hs_h:Sub B h:=hS.in_ (i:=0) rfl;have hv:=hP.toks;have hlv:=hv.live;have hlo:=hP.open_.live;obtain⟨hpl,hps,hpc⟩:=hC.pv_ok;obtain⟨hbl,hbs,hbc,nb⟩:=hC.bv_len;obtain⟨bs,hb1e,hb2e,hb3e⟩:=hC.bd;have hbn:c.bodies.length=bs.length:=by rw[hb1e,Jp]
 obtain⟨hf1,hf2,hf3⟩:=hfew;have hin2:i<=l.length:=hP.at_;have hTw:Stm.twice c w=(bs.map (·.1)).any fun b=>(decide (b.1=w) && !decide (w=[87,72,69,78]))||decide (b.1=[87,72,69,78,32,79,84,72,69,82]):=by rw[<-hb1e];rfl
 refine qbm (k:=210) (rs:=[]) Tryz.func73 rfl rfl rfl rfl (V7 rfl) ?_;simp only[qU];refine awp_rseq [0,1,2,3,4,10] (by rfl) fun K hK=>?_;simp+decide only[Xh,XD,Xg,↓qc,↓Qg,↓qg,We,↓qj,qd ag3,↓qa,Ql eb_p,Nat.reduceAdd];apply hK;clear hK K;refine qo ?_;refine awp_rseq [0,1,2,3,4,10,26,27,28] (by rfl) fun K hK=>?_;simp+decide only[ZU,Qm,Xg,↓qc,↓Qg,↓qg,Wh,↓qj,qd qeb,↓Qr,Ql eb_s,hbl,nb];apply hK;clear hK K;refine qK ?_;refine QD [0,1,2,3,4,10,26,27,28] (fun g:B1G=>[(0, .ptr (.own kp) 0),(1, .ptr (.own ks) 0),(2, .str w),(3, .int .i64 n),(4, .int .i64 dd),(10, .int .i64 i),(26,bv),(27, .int .i64 c.bodies.length),(28, .int .i64 g.j)]) (fun g:B1G=>g.H) (fun g:B1G=>Sep [B,one kp (parB3 v i ov),op,one ks (curB c pv bv),pp,tp,bp,E] g.H/\g.j<=bs.length/\Stm.twice c w=((bs.drop g.j).map (·.1)).any fun b=>(decide (b.1=w) && !decide (w=[87,72,69,78]))||decide (b.1=[87,72,69,78,32,79,84,72,69,82])) (fun g:B1G=>bs.length-g.j) ⟨0,h⟩ (by rfl) (Vk _) ⟨hS,Js _,hTw⟩ ?_;rintro⟨j,H⟩ ⟨hS,hj,hTj⟩;simp only at hS hj hTj|-
 have eb_p:H kp=some _:=hS.at_ (i:=1) rfl;have eb_s:H ks=some _:=hS.at_ (i:=3) rfl;have hs_H:Sub B H:=hS.in_ (i:=0) rfl;refine awp_rseq [0,1,2,3,4,10,26,27,28,29] (by rfl) fun K hK=>?_;simp+decide only[Zp,YT,↓qf];apply hK;clear hK K;refine qo (qz (b:=_) rfl (fun hb1=>?_) (fun hb1=>?_))
 ·try simp only[qG]at hb1
  have hj':j<bs.length:=by omega
  obtain⟨q,hqe⟩:∃q,q=bs.getD j qff:=⟨_,rfl⟩
  have hqm:q∈bs:=by rw[hqe,Ko,JD hj'];exact VY hj'
  have hqb:=hb2e.isL (wz:=wz) (hS.in_ (i:=6) rfl);obtain⟨lc,o,cc,hpe⟩:=qds hqb (by omega);rw[hpe]at hqb;obtain⟨e0,e1,e2⟩:=qgR hqb hj';rw[<-hqe]at e0 e1 e2;obtain⟨hqt,hqs⟩:=hb3e q hqm;have hl1:=hqt.live;have hs1:=hqt.scal;have hc1:=hqt.cells;obtain⟨hl2,hs2,hc2⟩:=hqs.shape;have hst:Stm.twice c w=(((decide (q.1.1=w) && !decide (w=[87,72,69,78]))||decide (q.1.1=[87,72,69,78,32,79,84,72,69,82]))||((bs.drop (j+1)).map (·.1)).any fun b=>(decide (b.1=w) && !decide (w=[87,72,69,78]))||decide (b.1=[87,72,69,78,32,79,84,72,69,82])):=by
   rw[hTj,Ve hj',Ke,Bp];have:bs[j]=q:=by rw[hqe,Ko,JD hj'];rfl
   rw[this]
  obtain⟨⟨qw,qt,qL⟩,qtv,qlv⟩:=q;simp only at e0 e1 e2 hl1 hs1 hc1 hl2 hs2 hc2 hst;have hwj:IntKind.i64.wrap ((j:Int)+1)=((j+1:Nat):Int):=by rw[wrap_i64 (by omega) (by omega)];omega
  refine qE ?_;change Awp _ _ _ _ _ _ _;refine qo ?_;refine qK ?_;refine awp_rseq [0,1,2,3,4,10,12,26,27,28] (by rfl) fun K hK=>?_;simp+decide only[Zg,Xa,QN,↓qI,qh Tryz.underlying80 qbU,↓qj,Qa ag86 qbU,hpe,e0,e1,e2,hl1,hl2];repeat (with_reducible refine zqP ?_)
  refine Qz qob (cs:=[.str [], .nilSlice, .nilSlice]) (by rfl) fun k3q2 hk3q2=>?_;have hn_3q2:H k3q2=none:=by first|assumption|(simp only[Bi]at hk3q2;simp only[hk3q2])
  have hf_3q2:B k3q2=none:=Bj hs_H hn_3q2;have ne_3q2_p:k3q2≠kp:=Bl hn_3q2 eb_p;have ne_3q2_s:k3q2≠ks:=Bl hn_3q2 eb_s;refine qN (by rfl) (by rfl) zqA qbU (by rfl) (by rfl) zqD (Js _) (by first|rfl|(simp+decide only[ZJ,Qu,hs1,hs2,ZM])) ?_;simp only[QZ,Bn];simp+decide only[Zg,QN,Nat.reduceAdd];apply hK;clear hK K;refine awp_rseq [0,1,2,3,4,10,26,27,28,44] (by rfl) fun K hK=>?_;simp+decide only[XI,Zn,Qe,qF,XF,YS,Qb,Wi,Xk,ZF,Yw,qan,↓qg,qlZ,↓qj,qd ag9,↓qc,↓qf,↓Xc,qY,qZ,qW,↓QI,↓QE,↓QR,↓XP];apply hK;clear hK K;refine qz (b:=_) rfl (fun hb2=>?_) (fun hb2=>?_)
  ·try simp only[qG]at hb2
   have hT:Stm.twice c w=true:=by
    rw[hst];rcases hb2 with⟨z1,z2⟩|z
    ·simp[z1,z2]
    ·simp[z]
   refine YF 2 (by rfl) (by rfl) ?_;simp only[Zu];simp+decide only[Qw,↓qc];refine⟨⟨_,_,by rfl,?_⟩,by intro i;first|trivial|exact .inr trivial|exact .inr rfl⟩;exact(qeI wz _ B kp v ov l i 4 i zqA zqB hv (by omega) (by omega)).mono (fun _ _ q=>q) fun x h' ⟨q1,q2⟩=>⟨_,BodyR.twice hT,q1,Bt (by assumption) (Bt zqB q2)⟩
  ·try simp only[qG]at hb2
   have hst2:Stm.twice c w=((bs.drop (j+1)).map (·.1)).any fun b=>(decide (b.1=w) && !decide (w=[87,72,69,78]))||decide (b.1=[87,72,69,78,32,79,84,72,69,82]):=by
    rw[hst];have:(decide (qw=w) && !decide (w=[87,72,69,78])||decide (qw=[87,72,69,78,32,79,84,72,69,82]))=false:=by
     rw[<-BP];intro z;simp only[Ky,decide_eq_true_eq,Jj,JJ,decide_eq_false_iff_not]at z;rcases z with⟨z1,z2⟩|z
     ·rcases hb2.1 with y|y
      ·exact y z1
      ·exact z2 y
     ·exact hb2.2 z
    rw[this,VJ]
   refine qE ?_;change Awp _ _ _ _ _ _ _;refine QK [0,1,2,3,4,10,26,27,28] (by rfl) ?_;simp+decide only[QH,ZE,↓qf,↓qc,hwj];try simp only[QT]
   exact⟨⟨j+1,_⟩,by rw[hpe];rfl,Vk _,⟨hS.forget zqB,hj',hst2⟩,by simp only;omega⟩
 ·try simp only[qG]at hb1
  have hj':j=bs.length:=by omega
  have hTf:Stm.twice c w=false:=by rw[hTj,hj',Vd];rfl
  refine QC ?_;change Awp _ _ _ _ _ _ _;refine JU [0,1,2,3,4,10] ?_;exact hrest H B kp ks v ov bv pv op pp tp bp E O c w n i hS hP hC hF hO hin hpos ⟨hf1,hf2,hf3⟩ hTf
set_option maxHeartbeats 8000000 in
theorem k_bodyB(wz:World)(hm:MaxL wz)(ha:Asp wz)(l:List TokC)(hl:l.length<=65537)(hsh:Short l)(dd:Nat)(hdd:dd<=32)(hd0:0<dd)(H B:AHeap)(kp ks:Nat)(v ov bv pv:AVal)(op pp tp bp E:AHeap)(O:List Str)(c:Cur)(w:Str)(n i:Nat)
 (hS:Sep [B,one kp (parB3 v i ov),op,one ks (curB c pv bv),pp,tp,bp,E] H) (hP:ParS wz l B v ov op O i) (hC:CurS wz (32-dd) c pv bv pp tp bp E) (hF:Fair O) (hO:O.length=dd) (hin:i+n<=l.length) (hTf:Stm.twice c w=false)
 (hrest:∀(kb:Nat) (g:B2G),B2I wz l B kp ks kb v ov pv bv op pp tp bp E c w (i+n) g->headW l O w n i=(g.toks,g.i)->¬(w=XW/\(headW l O w n i).1=[])->
   Awp Tryz.prog wz ⟨210,[],GP wz 210 [] [] (qmD B fun f=>BodyRO l dd O c w n i (.bad f))⟩ (Uk 6 (qdG Tryz.f73)) (qdN Tryz.prog wz [] (fun r h'=>r= .tuple []/\qmG wz l B kp ks v pv pp tp O dd n i c w h')) [(0, .ptr (.own kp) 0),(1, .ptr (.own ks) 0),(2, .str w),(4, .int .i64 dd),(10, .int .i64 i),(13, .ptr (.own kb) 0),(14, .str (O.getLastD []))] (g.H)):
 Awp Tryz.prog wz ⟨210,[],GP wz 210 [] [] (qmD B fun f=>BodyRO l dd O c w n i (.bad f))⟩ (Uk 2 (qdG Tryz.f73)) (qdN Tryz.prog wz [] (fun r h'=>r= .tuple []/\qmG wz l B kp ks v pv pp tp O dd n i c w h')) [(0, .ptr (.own kp) 0),(1, .ptr (.own ks) 0),(2, .str w),(3, .int .i64 n),(4, .int .i64 dd),(10, .int .i64 i)] (H):=by
 have eb_p:H kp=some _:=hS.at_ (i:=1) rfl;have eb_s:H ks=some _:=hS.at_ (i:=3) rfl;have ne_p_s:kp≠ks:=hS.ne (i:=1) (j:=3) rfl rfl (by decide);have hs_H:Sub B H:=hS.in_ (i:=0) rfl;have hv:=hP.toks;have hlv:=hv.live;have hlo:=hP.open_.live;obtain⟨hpl,hps,hpc⟩:=hC.pv_ok;obtain⟨hbl,hbs,hbc,nb⟩:=hC.bv_len;have hin2:i<=l.length:=hP.at_;have hwn:IntKind.i64.wrap ((i:Int)+n)=((i+n:Nat):Int):=by rw[wrap_i64 (by omega) (by omega)];omega
 change Awp _ _ _ (Code.seq _ _) _ _ _;refine awp_rseq [0,1,2,4,10] (by rfl) fun K hK=>?_;simp+decide only[Yz,qF,ZI,Xg,↓qc,↓Qg,↓qg,We,↓qj,qd ag3,↓qf,Ql eb_p,hwn];refine qN (by rfl) (by rfl) zqA sz3 (by rfl) (by rfl) zqD (Js _) (by rfl) ?_;simp only[QZ];simp+decide only[qR];apply hK;clear hK K;refine awp_rseq [0,1,2,4,10,13] (by rfl) fun K hK=>?_;simp+decide only[Qw,XN,Yo,XO,Za,XZ,Xt,WO,Zw,evP,↓qc,↓YJ,↓XL,bld86_0];refine Qz qob (cs:=[.str [], .nilSlice, .nilSlice]) (by rfl) fun k8q2 hk8q2=>?_;have hn_8q2:H k8q2=none:=by first|assumption|(simp only[Bi]at hk8q2;simp only[hk8q2])
 have hf_8q2:B k8q2=none:=Bj hs_H hn_8q2;have ne_8q2_p:k8q2≠kp:=Bl hn_8q2 eb_p;have ne_8q2_s:k8q2≠ks:=Bl hn_8q2 eb_s;refine qN (by rfl) (by rfl) zqA qbU (by rfl) (by rfl) zqD (Js _) (by rfl) ?_;simp only[QZ,Bn];simp+decide only[qR,Nat.reduceAdd];apply hK;clear hK K;obtain⟨H9,hH9⟩:∃H9,H9=(H.set kp (parB3 v (i+n) ov)).set k8q2 ⟨[.str w, .nilSlice, .nilSlice],0⟩:=⟨_,rfl⟩
 refine BO (h':=H9) (by rw[hH9];exact Vk _) ?_;have hS9:=(hS.put (i:=1) rfl (parB3 v (i+n) ov)).lay hk8q2 ⟨[.str w, .nilSlice, .nilSlice],0⟩;rw[<-hH9]at hS9;simp only[XE,Xv]at hS9;have eb_p:H9 kp=some _:=hS9.at_ (i:=1) rfl;have eb_s:H9 ks=some _:=hS9.at_ (i:=3) rfl;have eb_8q2:H9 k8q2=some _:=hS9.at_ (i:=8) rfl;have ne_p_8q2:kp≠k8q2:=hS9.ne (i:=1) (j:=8) rfl rfl (by decide);have ne_s_8q2:ks≠k8q2:=hS9.ne (i:=3) (j:=8) rfl rfl (by decide);have hs_H9:Sub B H9:=hS9.in_ (i:=0) rfl;have hos:IsStrs wz H9 ov O:=hP.open_.isL (hS9.in_ (i:=2) rfl);have no:=qbL hos;obtain⟨lo,oo,co,hove⟩:=qle hos (by omega);have hos2:=hos;rw[hove]at hos2;have hwo:IntKind.i64.wrap ((O.length:Int)-1)=((O.length-1:Nat):Int):=by rw[wrap_i64 (by omega) (by omega)];omega
 have ef:=qlf hos2 (i:=O.length-1) (by omega);obtain⟨fm,hfm⟩:∃fm,fm=O.getLastD []:=⟨_,rfl⟩
 have hfl:O.getD (O.length-1) []=fm:=by
  rw[hfm,BQ,List.getLast?_eq_getElem?];rfl
 rw[hfl]at ef;obtain⟨hfm1,hfm2⟩:=qjv hF;rw[<-hfm]at hfm1 hfm2;refine qai [0,1,2,4,10,13,14] mixed (by kernel_rfl) (by rfl) (by rfl) fun K hK=>?_;simp+decide only[Yz,Vw,qO,K8,Qm,Xg,UC,↓qc,↓Qg,↓qg,qjw,↓qj,qd ag22,↓Qr,Xp Tryz.underlying22,↓qf,Ql eb_p,hwo,hove];try simp+decide only[qJ,Xa,QN,Bo,↓qI,qh Tryz.underlying22 sz9,↓qj,qd ag9,↓qa,ef]
 repeat (with_reducible refine zqP ?_)
 apply hK;clear hK K;refine qo ?_;refine awp_rseq [0,1,2,4,10,13,14,72] (by rfl) fun K hK=>?_;simp+decide only[XI,Qb,ZF,↓qc,↓qf];apply hK;clear hK K;refine YE [0,1,2,4,10,13,14] (fun g:B2G=>[(0, .ptr (.own kp) 0),(1, .ptr (.own ks) 0),(2, .str w),(4, .int .i64 dd),(10, .int .i64 i),(13, .ptr (.own k8q2) 0),(14, .str fm)]) (fun g:B2G=>g.H) (fun g:B2G=>B2I wz l B kp ks k8q2 v ov pv bv op pp tp bp E c w (i+n) g/\headW l O w n i=(g.toks,g.i)/\¬(w=XW/\(headW l O w n i).1=[])) ?_ ?_
 ·refine qz (b:=_) rfl (fun hb1=>?_) (fun hb1=>?_)
  ·try simp only[qG]at hb1
   have hwW:w=XW:=hb1;have hW:headW l O w n i=whenE l fm (i+n):=by unfold headW;rw[if_pos hwW,hfm]
   refine qo ?_;refine qK ?_;refine QD [0,1,2,4,10,13,14] (fun g:B2G=>[(0, .ptr (.own kp) 0),(1, .ptr (.own ks) 0),(2, .str w),(4, .int .i64 dd),(10, .int .i64 i),(13, .ptr (.own k8q2) 0),(14, .str fm)]) (fun g:B2G=>g.H) (fun g:B2G=>B2I wz l B kp ks k8q2 v ov pv bv op pp tp bp E c w (i+n) g/\headW l O w n i=Uz l fm (l.length-g.i) g.i g.toks) (fun g:B2G=>l.length-g.i) ⟨[],i+n, .nilSlice,emp,H9⟩ (by rfl) (Vk _) ⟨⟨hS9.emp, .nil,hin,KL _,Js _⟩,hW⟩ ?_;rintro⟨toks,a,tv,q,H2⟩ ⟨⟨hS2,hrow,hal,hle,hfw⟩,hgo⟩;simp only at hS2 hrow hal hle hfw hgo|-
   have eb_p:H2 kp=some _:=hS2.at_ (i:=1) rfl;have eb_s:H2 ks=some _:=hS2.at_ (i:=3) rfl;have eb_8q2:H2 k8q2=some _:=hS2.at_ (i:=8) rfl;have hs_H2:Sub B H2:=hS2.in_ (i:=0) rfl;have nv:=Wn hv;have htl:=hrow.live;have nt:∀H:AHeap,Ze Tryz.prog H 39 tv=⟨True, .int .i64 toks.length⟩:=Wn (wz:=wz) (hrow.isL (Vk _));refine qo ?_;have mcase:MC11 wz H2 l v a:=mc11 (hv.mono hs_H2);have hta:a<l.length->(l.getD a noT).text.length<=1000000:=fun z=>hsh.at z;unfold MC11 at mcase;refine qbF 52 [] [0,1,2,4,10,13,14,124] mixed (by kernel_rfl) (by rfl) fun K hK=>?_;simp only[Zu,VU,List.take_nil,List.drop_nil];suffices hM:∀b:Bool,b=goW l a->K [(0, .ptr (.own kp) 0),(1, .ptr (.own ks) 0),(2, .str w),(4, .int .i64 dd),(10, .int .i64 i),(13, .ptr (.own k8q2) 0),(14, .str fm),(124, .bool b)] (H2) by
    rcases mcase with⟨lc,o,cc,hve,hkd,hkl,hk6,hvt,e0,e1,e2,e3,e4,hfin⟩|⟨lc,o,cc,hve,hkd,hkl,hk6,hvt,e0,e1,e2,e3,e4,hfin⟩|⟨lc,o,cc,hve,hkd,hkl,hk6,hvt,e0,e1,e2,e3,e4,hfin⟩|⟨lc,o,cc,hve,hkd,hkl,hk6,hvt,e0,e1,e2,e3,e4,hfin⟩<;>(
     simp+decide only[QH,Vz,Xm,Vw,qO,K8,Qe,qF,Yh,YS,qad,Xg,Zz,Xk,qdA,qdz,qdy,qdw,qdv,qdu,qdp,qdo,qah,qag,ZN,UR,Zj,↓qbg,↓qaM,↓YP,We,↓qbh,qd ag3,qcR,qd qcn,↓fp_len,Xp Tryz.underlying39,↓qfw,↓fg_move,fgP,qlY,qY,qZ,qW,↓qkh,↓qit,↓fg_load,↓qis,qh Tryz.underlying39 UA,qaG,qd qmr,↓qrU,↓qoJ,Qa qmP UA,Ql eb_p,hlv,nv,hve,hkd,hk6,e0,e1,e2,e3,e4];repeat (with_reducible refine zqP ?_)
     first
     |(refine qrW (by rfl) ?_)
     |(refine qhk (V:= .bool (YN (l.getD a noT))) (f:=50) (cap:=[]) (xs:=[tokV (l.getD a noT)]) (by rfl) (fun hg=>⟨rfl,rfl⟩) trivial (fun hg g hsub=>qiB wz hm _ _ (hta hkl)) ?_)
     simp+decide only[Qw,Vz,Xm,QN,Qe,XF,YS,qad,Xg,qdA,qdz,qdy,qdw,qdv,qdu,qdp,qdo,qah,qag,ZN,UB,Yc,Zj,↓fg_unOp,fgP,qlY,qY,qZ,qW,↓qoJ,↓qbg,↓fg_move,↓qkh,↓qit,qcR,↓fg_load,qd qcn,We,qd ag3,↓qis,qh Tryz.underlying39 UA,Qa qmP UA,Ql eb_p,hve,hvt,e0,e1,e2,e3,e4];repeat (with_reducible refine zqP ?_)
     first
     |(refine qrW (by rfl) ?_)
     |(refine qhk (V:= .str (qbE (l.getD a noT))) (f:=71) (cap:=[]) (xs:=[tokV (l.getD a noT)]) (by rfl) (fun hg=>⟨rfl,rfl⟩) trivial (fun hg g hsub=>c_endOf wz hm _ _ (hta hkl)) ?_)
     simp+decide only[qR,Yv,Vz,QN,Qe,XF,YS,Qb,qad,Xk,ZF,↓qrU,fgP,qlY,qY,qZ,qW,↓qoJ];exact hM _ hfin.symm)
   intro b hb_11;apply hK;clear hK K;refine qz (b:=_) rfl (fun hb2=>?_) (fun hb2=>?_)
   ·skip
    have hgo1:isE l a=false/\isV l a=false/\qav l a=[]:=by
     have z:goW l a=true:=by rw[<-hb_11];exact hb2
     unfold goW at z;simp only[decide_eq_true_eq,Jj,VD,VE]at z;exact⟨z.1,z.2.1,z.2.2⟩
    have hal2:a<l.length:=by
     by_cases z:a<l.length
     ·exact z
     ·have y:=hgo1.1
      unfold isE at y;rw[if_neg z]at y;cases y
    refine qE ?_;change Awp _ _ _ _ _ _ _;refine qK ?_;refine qo ?_;refine awp_rseq [0,1,2,4,10,13,14,16] (by rfl) fun K hK=>?_;simp+decide only[Qw,↓qc];refine QM (V:= .tuple [.str (Qs l a fm).1, .int .i64 (Qs l a fm).2]) (by rfl) (by rfl) (qfC wz ha _ (.own kp) 0 v l a fm (YG wz eb_p 0) (YG wz eb_p 1) (hv.mono zqB) (by omega) hal hfm1 hfm2) ?_;simp+decide only[Xh,Xo,Xi,Xy,↓qc,↓Xr,↓qa,Nat.reduceAdd];apply hK;clear hK K;refine awp_rseq [0,1,2,4,10,13,14,132] (by rfl) fun K hK=>?_;simp+decide only[QH,qO,WL,↓qc,↓qf];apply hK;clear hK K;refine qz (b:=_) rfl (fun hb3=>?_) (fun hb3=>?_)
    ·try simp only[qG]at hb3
     have hWd:headW l O w n i=(toks,a):=by rw[hgo];exact qfi (.inr (.inr (.inr (by omega))))
     refine QC ?_;change Awp _ _ _ _ _ _ _;refine awp_rseq [0,1,2,4,10,13,14,158] (by rfl) fun K hK=>?_;simp+decide only[Zp,XD,qO,Qm,Zm,↓qg,qfB,↓qj,qd qcn,↓Qr,↓qf,Ql eb_8q2,nt,htl];apply hK;clear hK K;refine qz (b:=_) rfl (fun hb4=>?_) (fun hb4=>?_)
     ·try simp only[qG]at hb4
      have htk:toks=[]:=Kg (by omega);refine YF 2 (by rfl) (by rfl) ?_;simp only[Zu];simp+decide only[Qw,↓qc];refine⟨⟨_,_,by rfl,?_⟩,by intro i;first|trivial|exact .inr trivial|exact .inr rfl⟩;exact(qeI wz _ B kp v ov l a 4 i zqA zqB hv (by omega) (by omega)).mono (fun _ _ q=>q) fun x h' ⟨q1,q2⟩=>⟨_,BR hTf ⟨hwW,by rw[hWd];exact htk⟩,q1,Bt (by assumption) q2⟩
     ·try simp only[qG]at hb4
      have htk:toks≠[]:=fun z=>by rw[z]at hb4;exact hb4 rfl
      refine qE ?_;try simp only[QT]
      first
      |exact⟨⟨toks,a,tv,q,H2⟩,rfl,Vk _,⟨hS2,hrow,hal,hle,hfw⟩,hWd,fun z=>htk (by rw[hWd]at z;exact z.2)⟩
      |exact⟨⟨[],i+n, .nilSlice,emp,H9⟩,rfl,Vk _,⟨hS9.emp, .nil,hin,KL _,Js _⟩,by unfold headW;rw[if_neg hwW],fun z=>hwW z.1⟩
    ·try simp only[qG]at hb3
     have hgo2:headW l O w n i=Uz l fm (l.length-(a+1)) (a+1) (toks++[l.getD a noT]):=by
      rw[hgo];refine qpF hal2 ?_;rintro(z|z|z|z)
      ·rw[hgo1.1]at z;cases z
      ·rw[hgo1.2.1]at z;cases z
      ·exact z hgo1.2.2
      ·omega
     refine qE ?_;change Awp _ _ _ _ _ _ _;obtain⟨lc,o,cc,hve⟩:=Yp hv (by omega);have hv2:=hv.mono hs_H2;rw[hve]at hv2;obtain⟨e0,e1,e2,e3,e4⟩:=UI hv2 hal2;obtain⟨t,ht⟩:∃t,t=l.getD a noT:=⟨_,rfl⟩
     rw[<-ht]at e0 e1 e2 e3 e4 hgo2;refine qbF 13 [] [0,1,2,4,10,13,14] mixed (by kernel_rfl) (by rfl) fun K hK=>?_;simp only[Zu,VU,Vp];simp+decide only[Qw,Xm,QN,Xg,ZN,Zj,↓YP,qfB,↓qbh,qd qcn,↓qbg,↓qaM,qcR,We,qd ag3,↓Uj,qh Tryz.underlying39 UA,Qa qmP UA,Ql eb_p,Ql eb_8q2,hve,htl,e0,e1,e2,e3,e4];repeat (with_reducible refine zqP ?_)
     refine UY (by rfl) ?_;refine Qd (cs:=(Zb t)) (by kernel_rfl) fun k14q12 hk14q12=>?_;have hn_14q12:H2 k14q12=none:=by first|assumption|(simp only[Bi]at hk14q12;simp only[hk14q12])
     have hf_14q12:B k14q12=none:=Bj hs_H2 hn_14q12;have ne_14q12_p:k14q12≠kp:=Bl hn_14q12 eb_p;have ne_14q12_s:k14q12≠ks:=Bl hn_14q12 eb_s;have ne_14q12_8q2:k14q12≠k8q2:=Bl hn_14q12 eb_8q2;rw[Qt];try simp only[qbi,qaS]
     refine Yi (es:=5) (v:=tv) (p:=q) (xs:=toks.map Zb) (ys:=[Zb t]) (i:=9) (by rfl) (by rfl) Tryz.underlying39 Tryz.underlying39 (fun k e=>by cases e) UA by44 qpB (by rfl) (by decide) (by rfl) hrow rfl (hS2.forget (Vl hn_14q12)) (by rfl) (BA (Vj _ _ _) (fun x hx=>by rw[V9.1 hx];rfl) (by rfl) (by rfl) (.exact 1) (KL _)) (by rfl) (by simp) (by rw[Jp,JH];omega) (by rw[Jp,JH];omega) fun tv2 q2 h14 hrow2 _ hS3=>?_;simp+decide only[YI,QN,↓qg,qfB];refine qN (v:=tv2) (by rfl) (by rfl) (hS3.at_ (i:=8) rfl) sz39 hrow2.live (by rw[hrow2.cells];rfl) (by simp only[Xo];omega) (Js _) (by rw[hrow2.cells];simp[Qu,hrow2.scal]) ?_;simp only[XE,WN,hrow2.cells];simp+decide only[qR,QN];have eb_p:h14 kp=some _:=hS3.at_ (i:=1) rfl;have hwa:IntKind.i64.wrap ((a:Int)+1)=((a+1:Nat):Int):=by rw[wrap_i64 (by omega) (by omega)];omega
     apply hK;clear hK K;refine QK [0,1,2,4,10,13,14] (by rfl) ?_;simp+decide only[Yz,ZE,Xg,↓qc,↓Qg,↓qg,We,↓qj,qd ag3,↓qf,Ql eb_p,ne_8q2_p.symm,hwa];refine qN (by rfl) (by rfl) zqA sz3 (by rfl) (by rfl) zqD (Js _) (by rfl) ?_;simp only[QZ];simp+decide only[qR];try simp only[QT]
     exact⟨⟨toks++[t],a+1,tv2,q2,(h14.set k8q2 ⟨[.str w,tv2, .nilSlice],0⟩).set kp (parB3 v (a+1) ov)⟩,rfl,Vk _,⟨⟨(hS3.put (i:=8) rfl ⟨[.str w,tv2, .nilSlice],0⟩).put (i:=1) rfl (parB3 v (a+1) ov),by simp only;rw[JK];exact hrow2,hal2,by simp only;omega,by simp only[ZT];omega⟩,hgo2⟩,by simp only;omega⟩
   ·skip
    have hWd:headW l O w n i=(toks,a):=by
     rw[hgo];refine qfi ?_;have z:goW l a=false:=by rw[<-hb_11];exact hb2
     unfold goW at z;simp only[Jj,JJ,decide_eq_false_iff_not,VE]at z;rcases z with z|z|z
     ·exact .inl z
     ·exact .inr (.inl z)
     ·exact .inr (.inr (.inl z))
    refine QC ?_;change Awp _ _ _ _ _ _ _;refine awp_rseq [0,1,2,4,10,13,14,158] (by rfl) fun K hK=>?_;simp+decide only[Zp,XD,qO,Qm,Zm,↓qg,qfB,↓qj,qd qcn,↓Qr,↓qf,Ql eb_8q2,nt,htl];apply hK;clear hK K;refine qz (b:=_) rfl (fun hb5=>?_) (fun hb5=>?_)
    ·try simp only[qG]at hb5
     have htk:toks=[]:=Kg (by omega);refine YF 2 (by rfl) (by rfl) ?_;simp only[Zu];simp+decide only[Qw,↓qc];refine⟨⟨_,_,by rfl,?_⟩,by intro i;first|trivial|exact .inr trivial|exact .inr rfl⟩;exact(qeI wz _ B kp v ov l a 4 i zqA zqB hv (by omega) (by omega)).mono (fun _ _ q=>q) fun x h' ⟨q1,q2⟩=>⟨_,BR hTf ⟨hwW,by rw[hWd];exact htk⟩,q1,Bt (by assumption) q2⟩
    ·try simp only[qG]at hb5
     have htk:toks≠[]:=fun z=>by rw[z]at hb5;exact hb5 rfl
     refine qE ?_;try simp only[QT]
     first
     |exact⟨⟨toks,a,tv,q,H2⟩,rfl,Vk _,⟨hS2,hrow,hal,hle,hfw⟩,hWd,fun z=>htk (by rw[hWd]at z;exact z.2)⟩
     |exact⟨⟨[],i+n, .nilSlice,emp,H9⟩,rfl,Vk _,⟨hS9.emp, .nil,hin,KL _,Js _⟩,by unfold headW;rw[if_neg hwW],fun z=>hwW z.1⟩
  ·try simp only[qG]at hb1
   have hwW:¬w=XW:=hb1;refine qE ?_;try simp only[QT]
   first
   |exact⟨⟨toks,a,tv,q,H2⟩,rfl,Vk _,⟨hS2,hrow,hal,hle,hfw⟩,hWd,fun z=>htk (by rw[hWd]at z;exact z.2)⟩
   |exact⟨⟨[],i+n, .nilSlice,emp,H9⟩,rfl,Vk _,⟨hS9.emp, .nil,hin,KL _,Js _⟩,by unfold headW;rw[if_neg hwW],fun z=>hwW z.1⟩
 ·rintro⟨toks,a,tv,q,H2⟩ ⟨hI,hhd,hbare⟩
  refine JU [0,1,2,4,10,13,14] ?_;have:=hrest k8q2 _ hI hhd hbare;rw[<-hfm]at this;exact this
theorem sts_clip{wz:World}{h:AHeap}:∀{d:Nat} {v:AVal} {l:List StC},StsV wz d h v l->StsV wz d h (ZA v) l
 |0,_,_,hp=>⟨hp.1,hp.2.clip⟩
 |d+1,_,_,⟨qs,e,a,b⟩=>⟨qs,e,a.clip,b⟩
theorem qdc{wz:World}{h:AHeap}{d:Nat}{v:AVal}{l:List StC}(hp:StsV wz d h v l):∀H:AHeap,Ze Tryz.prog H 45 v=⟨True, .int .i64 l.length⟩:=by
 intro H;obtain⟨qs,rfl,a⟩:=hp.isL;have:=a.len Tryz.underlying45 H
 rwa [Jp,<-Jp (f:=(·.1))]at this
set_option maxHeartbeats 8000000 in
theorem k_bodyC(wz:World)(hm:MaxL wz)(ha:Asp wz)(l:List TokC)(hl:l.length<=65537)(hsh:Short l)(dd:Nat)(hdd:dd<=32)(hli:qoa wz l (dd+1))(B:AHeap)(kp ks kb:Nat)(v ov bv pv:AVal)(op pp tp bp E:AHeap)(O:List Str)(c:Cur)(w:Str)(n i:Nat)
 (hP0:ParS wz l B v ov op O i) (hC:CurS wz (32-dd) c pv bv pp tp bp E) (hF:Fair O) (hO:O.length=dd) (hin:i+n<=l.length) (hpos:0<n\/isV l i=true) (hfew:Few c i) (hTf:Stm.twice c w=false) (g:B2G)
 (hI:B2I wz l B kp ks kb v ov pv bv op pp tp bp E c w (i+n) g) (hhd:headW l O w n i=(g.toks,g.i)) (hbare:¬(w=XW/\(headW l O w n i).1=[])):
 Awp Tryz.prog wz ⟨210,[],GP wz 210 [] [] (qmD B fun f=>BodyRO l dd O c w n i (.bad f))⟩ (Uk 6 (qdG Tryz.f73)) (qdN Tryz.prog wz [] (fun r h'=>r= .tuple []/\qmG wz l B kp ks v pv pp tp O dd n i c w h')) [(0, .ptr (.own kp) 0),(1, .ptr (.own ks) 0),(2, .str w),(4, .int .i64 dd),(10, .int .i64 i),(13, .ptr (.own kb) 0),(14, .str (O.getLastD []))] (g.H):=by
 obtain⟨toks,a,tv,q,H⟩:=g;obtain⟨hS,hrow,hal,hle,hfw⟩:=hI;simp only at hS hrow hal hle hfw hhd|-
 have eb_p:H kp=some _:=hS.at_ (i:=1) rfl;have eb_s:H ks=some _:=hS.at_ (i:=3) rfl;have eb_b:H kb=some _:=hS.at_ (i:=8) rfl;have ne_p_s:kp≠ks:=hS.ne (i:=1) (j:=3) rfl rfl (by decide);have ne_p_b:kp≠kb:=hS.ne (i:=1) (j:=8) rfl rfl (by decide);have ne_s_b:ks≠kb:=hS.ne (i:=3) (j:=8) rfl rfl (by decide);have hs_H:Sub B H:=hS.in_ (i:=0) rfl;have hv:=hP0.toks;have hlv:=hv.live;obtain⟨hpl,hps,hpc⟩:=hC.pv_ok;obtain⟨hbl,hbs,hbc,nb⟩:=hC.bv_len;obtain⟨fm,hfm⟩:∃fm,fm=O.getLastD []:=⟨_,rfl⟩
 obtain⟨hfm1,hfm2⟩:=qjv hF;rw[<-hfm]at hfm1 hfm2|-
 have hW2:(headW l O w n i).2=a:=by rw[hhd]
 have hdj:[B,one ks (curB c pv bv),pp,tp,bp,E,one kb ⟨[.str w,tv, .nilSlice],0⟩,q].Pairwise disj:=(hS.pick [0,3,4,5,6,7,8,9] (by decide) (by simp)).2;have hcall:=hli H (YY [B,one ks (curB c pv bv),pp,tp,bp,E,one kb ⟨[.str w,tv, .nilSlice],0⟩,q]) kp v ov op O a (Sep.fold (ps:=[B,one ks (curB c pv bv),pp,tp,bp,E,one kb ⟨[.str w,tv, .nilSlice],0⟩,q]) (hS.pick [0,3,4,5,6,7,8,9,1,2] (by decide) (by simp))) ⟨hv.mono (Xl hdj B (by simp)),hP0.open_,hP0.isG,hal⟩ hF (by omega);have hwd:IntKind.i64.wrap ((dd:Int)+1)=((dd+1:Nat):Int):=by rw[wrap_i64 (by omega) (by omega)];omega
 change Awp _ _ _ (Code.seq _ _) _ _ _;by_cases hbad:∃f,ListRO l (dd+1) O a [] (.bad f)
 ·skip
  refine qo ?_;refine YF 3 (by rfl) (by rfl) ?_;simp only[Zu];simp+decide only[QH,ZE,↓qc,↓qf];try simp(disch:=omega)only[wrap_i64,wrap_u8]
  refine⟨⟨_,_,by rfl,?_⟩,by intro i;first|trivial|exact .inr trivial|exact .inr rfl⟩;try rw[hwd]
  obtain⟨f,hf⟩:=hbad;refine(hcall.bad fun x h' ⟨L,j,_,_,_,y,_⟩=>by cases y.one hf).mono (fun _ _ q=>q) fun x h' ⟨f',q1,q2,q3⟩=>⟨f',BodyR.bad hTf hbare (by rw[hW2];exact q1),q2,(Xl hdj B (by simp)).trans q3⟩
 refine awp_rseq [0,1,2,10,13,14] (by rfl) fun K hK=>?_;simp+decide only[QH,ZE,↓qc,↓qf];try simp(disch:=omega)only[wrap_i64,wrap_u8]
 refine qM (by rfl) (by rfl) (hcall.ok fun x h' ⟨f,q,_⟩=>hbad ⟨f,q⟩) fun x18q3 h18q3 hx18q3=>?_;obtain⟨L,j,ov2,op2,E2,hR,hij,hLn,hsts,hP2,hS2⟩:=hx18q3;have hS2:=hS2.unfold hdj;obtain⟨hrl,hrs,hrc⟩:=hsts.shape;simp+decide only[YI,↓qg,qfA];refine qN (v:=x18q3) (by rfl) (by rfl) (hS2.at_ (i:=6) rfl) qsV hrl (by rw[hrc];rfl) (by simp only[Xo];omega) (Js _) (by rw[hrc];simp[Qu,hrs]) ?_;simp only[XE,WN,hrc];simp+decide only[qR];apply hK;clear hK K;refine qo ?_;obtain⟨H19,hH19⟩:∃H19,H19=h18q3.set kb ⟨[.str w,tv,x18q3],0⟩:=⟨_,rfl⟩
 refine BO (h':=H19) (by rw[hH19];exact Vk _) ?_;have hS3:=hS2.put (i:=6) rfl ⟨[.str w,tv,x18q3],0⟩;rw[<-hH19]at hS3;simp only[XE,Xv]at hS3;have eb_p:H19 kp=some _:=hS3.at_ (i:=8) rfl;have eb_s:H19 ks=some _:=hS3.at_ (i:=1) rfl;have eb_b:H19 kb=some _:=hS3.at_ (i:=6) rfl;have hs_H19:Sub B H19:=hS3.in_ (i:=0) rfl;have hj:=hP2.at_;have nL:=qdc hsts;have hlo2:=hP2.open_.live;have htl:=hrow.live;obtain⟨S,hSS⟩:∃S,S=Qs l j fm:=⟨_,rfl⟩
 have hE:qhn l O w L j=(decide (L.length=0) && (!decide (w=XW)||(!decide (S.1=XW) && !decide (S.1=qfK)))):=by rw[hSS,hfm];rfl
 refine awp_rseq [0,1,2,10,13,17] (by rfl) fun K hK=>?_;simp+decide only[Qw,↓qc];refine QM (V:= .tuple [.str S.1, .int .i64 S.2]) (by rfl) (by rfl) (by rw[hSS];exact qfC wz ha _ (.own kp) 0 v l j fm (YG wz eb_p 0) (YG wz eb_p 1) (hv.mono zqB) (by omega) hj hfm1 hfm2) ?_;simp+decide only[Xh,Xo,Xi,Xy,↓qc,↓Xr,↓qa,Nat.reduceAdd];apply hK;clear hK K;refine awp_rseq [0,1,10,13,188] (by rfl) fun K hK=>?_;simp+decide only[QH,Zn,Ya,Yh,YS,Qb,Wi,Xk,XM,Zm,qan,qbS,qbR,↓qg,qfA,↓qj,qd qjH,↓Qr,↓qf,↓qc,↓Xc,qY,qZ,qW,↓QI,↓qaA,↓QE,Ql eb_b,nL,hrl];apply hK;clear hK K;refine qz (b:=_) rfl (fun hb1=>?_) (fun hb1=>?_)
 ·try simp only[qG]at hb1
  have hEt:qhn l O w L j=true:=by
   rw[hE,Ky,decide_eq_true_eq];refine⟨by omega,?_⟩;rcases hb1.2 with z|⟨z1,z2⟩
   ·rw[decide_eq_false (show ¬w=XW from z)];rfl
   ·rw[decide_eq_false (show ¬S.1=XW from z1),decide_eq_false (show ¬S.1=qfK from z2)];simp
  refine YF 2 (by rfl) (by rfl) ?_;simp only[Zu];simp+decide only[Qw,↓qc];refine⟨⟨_,_,by rfl,?_⟩,by intro i;first|trivial|exact .inr trivial|exact .inr rfl⟩;exact(qeI wz _ B kp v ov2 l j 4 i zqA zqB hv (by omega) (by omega)).mono (fun _ _ q=>q) fun x h' ⟨q1,q2⟩=>⟨_,BodyR.empty hTf hbare (by rw[hW2];exact hR) hEt,q1,Bt (by assumption) q2⟩
 ·try simp only[qG]at hb1
  have hEf:qhn l O w L j=false:=by
   rw[hE,<-BP];intro z;rw[Ky,decide_eq_true_eq,JJ,Ky]at z;obtain⟨z1,z2⟩:=z;rcases hb1 with y|⟨y1,y2⟩
   ·omega
   ·rcases z2 with x|⟨x1,x2⟩
    ·rw[show decide (w=XW)=true from decide_eq_true y1]at x;cases x
    ·rcases y2 with u|u
     ·rw[show decide (S.1=XW)=true from decide_eq_true u]at x1;cases x1
     ·rw[show decide (S.1=qfK)=true from decide_eq_true u]at x2;cases x2
  refine qE ?_;change Awp _ _ _ _ _ _ _;have htv:=hrow.isL (wz:=wz) (hS3.in_ (i:=7) rfl);obtain⟨qL,hqL,hrv0⟩:=(hsts.mono (hS3.in_ (i:=10) rfl)).isL;have hck:=htv.clip;have hcr:=hrv0.clip;have hckl:=hck.live;have hcrl:=hcr.live;refine qgS 7 [1,13] mixed (by kernel_rfl) (by rfl) fun K hK=>?_;simp only[Zu,VU,Vp];simp+decide only[YI,ZN,↓Yk,qfB,↓qek,qd qcn,Ql eb_b,htl];refine qcG (V:=ZA tv) (by rfl) (by rfl) (qme wz _ tv _ htv) ?_;simp+decide only[YI,ZN,↓Yk,qfA,↓qek,qd qjH,Ql eb_b,hrl];refine qcG (V:=ZA x18q3) (by rfl) (by rfl) (qsr wz _ x18q3 _ hrv0) ?_;simp+decide only[YI,↓Yk,qfB];refine qN (v:=ZA tv) (by rfl) (by rfl) eb_b sz39 hckl (by rw[hck.cells];rfl) (by simp only[Xo];omega) (Js _) (by rw[hck.cells];simp[Qu,hck.scal]) ?_;simp only[XE,WN,hck.cells];simp+decide only[YI,↓qg,qfA];refine qN (v:=ZA x18q3) (by rfl) (by rfl) (Vj _ _ _) qsV hcrl (by rw[hcr.cells];rfl) (by simp only[Xo];omega) (Js _) (by rw[hcr.cells];simp[Qu,hcr.scal]) ?_;simp only[XE,WN,hcr.cells,Bn];simp+decide only[qR];apply hK;clear hK K;obtain⟨H23,hH23⟩:∃H23,H23=H19.set kb ⟨[.str w,ZA tv,ZA x18q3],0⟩:=⟨_,rfl⟩
  refine BO (h':=H23) (by rw[hH23];exact Vk _) ?_;have hS4:=hS3.put (i:=6) rfl ⟨[.str w,ZA tv,ZA x18q3],0⟩;rw[<-hH23]at hS4;simp only[XE]at hS4;have eb_p:H23 kp=some _:=hS4.at_ (i:=8) rfl;have eb_s:H23 ks=some _:=hS4.at_ (i:=1) rfl;have eb_b:H23 kb=some _:=hS4.at_ (i:=6) rfl;have hs_H23:Sub B H23:=hS4.in_ (i:=0) rfl;obtain⟨bs,hb1e,hb2e,hb3e⟩:=id hC.bd;have hbn:c.bodies.length=bs.length:=by rw[hb1e,Jp]
  obtain⟨hf1,hf2,hf3⟩:=hfew;have hin2:i<=l.length:=hP0.at_;refine qeO 7 [0] mixed (by kernel_rfl) (by rfl) ?_;simp only[Zu,VU,Vp];simp+decide only[Qw,Vz,Xm,Xg,ZN,↓qbg,↓qaM,↓YP,Wh,↓qbh,qd qeb,Qa ag86 qbU,Ql eb_s,Ql eb_b,Nat.reduceAdd,hbl,hckl,hcrl];refine UY (by rfl) ?_;refine Qd (cs:=[.str w,ZA tv,ZA x18q3]) (by kernel_rfl) fun k23q6 hk23q6=>?_;have hn_23q6:H23 k23q6=none:=by first|assumption|(simp only[Bi]at hk23q6;simp only[hk23q6])
  have hf_23q6:B k23q6=none:=Bj hs_H23 hn_23q6;have ne_23q6_p:k23q6≠kp:=Bl hn_23q6 eb_p;have ne_23q6_s:k23q6≠ks:=Bl hn_23q6 eb_s;have ne_23q6_b:k23q6≠kb:=Bl hn_23q6 eb_b;rw[Qt];try simp only[qbi,qaS]
  refine Yi (es:=3) (v:=bv) (p:=bp) (xs:=bs.map bdC) (ys:=[[.str w,ZA tv,ZA x18q3]]) (i:=4) (by rfl) (by rfl) Tryz.underlying80 Tryz.underlying80 (fun k e=>by cases e) qbU by86 qob (by rfl) (by decide) (by rfl) hb2e rfl (hS4.forget (Vl hn_23q6)) (by rfl) (BA (Vj _ _ _) (fun x hx=>by rw[V9.1 hx];rfl) (by rfl) (by show(true && ((ZA tv).live && ((ZA x18q3).live && true)))=true;rw[hckl,hcrl];rfl) (.exact 1) (KL _)) (by show(true && ((ZA tv).scal && ((ZA x18q3).scal && true)))=true;rw[hck.scal,hcr.scal];rfl) (by simp) (by simp only[Yb];omega) (by simp only[Yb];omega) fun bv2 bp2 h23 hb2g _ hS5=>?_;simp+decide only[Zg,Xm,Xg,↓Qg,↓qg,Wh];refine qN (v:=bv2) (by rfl) (by rfl) (hS5.at_ (i:=1) rfl) sz80 hb2g.live (by rw[hb2g.cells];rfl) (by simp only[Xo];omega) (Js _) (by rw[hb2g.cells];simp[Qu,hb2g.scal]) ?_;simp only[XE,WN,hb2g.cells];simp+decide only[Zg];refine qaK (qC) ?_;try simp+decide only[qR,qfZ]
  have hS6:=hS5.put (i:=1) rfl (curB {c with bodies:=c.bodies++[(w,toks,L)]} pv bv2);simp only[XE]at hS6;have hdE:[E,q,E2].Pairwise disj:=(hS6.pick [5,7,10] (by decide) (by simp)).2;have hu:=Xl hdE;have hS7:=(Sep.fold (ps:=[E,q,E2]) (hS6.pick [5,7,10,0,8,9,1,2,3,4] (by decide) (by simp))).pick [1,2,3,4,5,6,7,0] (by decide) (by simp);refine⟨_,Vk _,{c with bodies:=c.bodies++[(w,toks,L)]},j,ov2,op2,bv2,bp2,YY [E,q,E2],by have:=BodyR.ok hTf hbare (by rw[hW2];exact hR) hEf;rw[hhd]at this;exact this,?_,rfl,rfl,rfl,rfl,by simp,⟨?_,?_⟩,⟨hv,hP2.open_,hP2.isG,hP2.at_⟩,hS7⟩
  ·rcases hpos with z|z
   ·omega
   ·by_cases hn0:n=0
    ·rcases KU i j with y|y
     ·exact y
     ·exfalso
      have hij2:a=j:=by omega
      have hai:a=i:=by omega
      have hL0:L.length=0:=by omega
      have hwW:w=XW:=by
       by_cases y2:w=XW
       ·exact y2
       ·rw[hE,hL0,decide_eq_false y2]at hEf;cases hEf
      refine hbare ⟨hwW,?_⟩;unfold headW;rw[if_pos hwW,hn0,K8];unfold whenE;rw[qfi (.inr (.inl z))]
    ·omega
  ·obtain⟨qs,w1,ts,tv1,p1,p2,p3,p4⟩:=hC.ph
   exact⟨qs,w1,ts,tv1,p1,p2,p3,fun x hx=>(p4 x hx).mono (hu E (by simp))⟩
  ·refine⟨bs++[((w,toks,L),ZA tv,ZA x18q3)],by simp only;rw[hb1e,JK];rfl,by rw[JK];exact hb2g,fun b hb=>?_⟩
   rcases JX.1 hb with z|z
   ·exact⟨(hb3e b z).1.mono (hu E (by simp)),(hb3e b z).2.mono (hu E (by simp))⟩
   ·rw[V9.1 z]
    refine⟨(hrow.isL (hu q (by simp))).clip,?_⟩;have:=sts_clip (hsts.mono (hu E2 (by simp)))
    rwa [show 33-(dd+1)=32-dd by omega]at this
theorem k_body(wz:World)(hm:MaxL wz)(ha:Asp wz)(l:List TokC)(hl:l.length<=65537)(hsh:Short l)(dd:Nat)(hdd:dd<=32)(hd0:0<dd)(hli:qoa wz l (dd+1)):BodK wz l dd:=
 k_bodyA wz l hl dd fun H B kp ks v ov bv pv op pp tp bp E O c w n i hS hP hC hF hO hin hpos hfew hTf=>
  k_bodyB wz hm ha l hl hsh dd hdd hd0 H B kp ks v ov bv pv op pp tp bp E O c w n i hS hP hC hF hO hin hTf fun kb g hI hhd hbare=>
   k_bodyC wz hm ha l hl hsh dd hdd hli B kp ks kb v ov bv pv op pp tp bp E O c w n i hP hC hF hO hin hpos hfew hTf g hI hhd hbare
theorem cond_P{P:Str×Str->Prop}{b:Bool}{x y:Str×Str}(hx:P x)(hy:P y):P (bif b then x else y):=by cases b<;>assumption
def FairP(p:Str×Str):Prop:=(p.1.length<=1000000/\asciiB p.1=true)/\p.2.length<=1000000/\asciiB p.2=true
instance (p:Str×Str):Decidable (FairP p):=by unfold FairP;exact inferInstance
theorem qlP(s:Str):FairP (Qo s):=by
 unfold Qo;repeat' (refine cond_P (P:=FairP) (by decide) ?_)
 decide
theorem Fair.snoc{O:List Str}(hF:Fair O)(s:Str):Fair (O++[(Qo s).2]):=fun f hf=>by
 rcases JX.1 hf with h|h
 ·exact hF f h
 ·rw[V9.1 h];exact(qlP s).2
structure StI(wz:World)(l:List TokC)(B:AHeap)(kp ks k4:Nat)(b4:Blk)(v ov pv bv:AVal)(op pp tp bp E:AHeap)(O:List Str)(d:Nat)(c:Cur)(j:Nat)(H:AHeap):Prop where
 sep:Sep [B,one kp (parB3 v j ov),op,one ks (curB c pv bv),pp,tp,bp,E,one k4 b4] H
 par:ParS wz l B v ov op O j
 cur:CurS wz d c pv bv pp tp bp E
 few:Few c j
def qfh:Blk:=⟨[.str [], .int .i64 0, .int .i64 0, .nilSlice, .nilSlice],0⟩
set_option maxHeartbeats 8000000 in
theorem k_stmA(wz:World)(l:List TokC)(hl:l.length<=65537)(dd:Nat)(hdd:dd<=33)
 (hrest:dd<=32->∀(H B:AHeap) (kp ks k4:Nat) (v ov pv bv:AVal) (op pp tp bp E:AHeap) (O:List Str) (i:Nat),StI wz l B kp ks k4 qfh v ov pv bv op pp tp bp E (O++[(Qo (l.getD i noT).text).2]) (32-dd) (qck l i) (i+1) H->Fair O->O.length+1=dd->isV l i=true->
   Awp Tryz.prog wz ⟨201,[],GP wz 201 [] [] (qmD B fun f=>StRO l dd O i (.bad f))⟩ (Uk 6 (qkC (Uk 1 (qdG Tryz.f51)))) (qgd (qdN Tryz.prog wz [.cell 4 82] (StmOut wz l B kp v O dd i))) [(0, .ptr (.own kp) 0),(1, .int .i64 dd),(4, .ptr (.own k4) 0),(5, .int .i64 i),(6, .ptr (.own ks) 0),(7, .str (Qo (l.getD i noT).text).1),(8, .str (Qo (l.getD i noT).text).2)] (H)):StmK wz l dd:=by
 intro h B kp v ov op O i hS hP hF hO hvi;have eb_p:h kp=some _:=hS.at_ (i:=1) rfl;have hs_h:Sub B h:=hS.in_ (i:=0) rfl;have hv:=hP.toks;have hlv:=hv.live;have hlo:=hP.open_.live;have hi:=isV_some hvi;refine qbm (k:=201) (rs:=[.cell 4 82]) Tryz.func51 rfl rfl rfl rfl (V7 rfl) ?_;simp only[qU];refine awp_rseq [0,1,4] (by rfl) fun K hK=>?_;refine Qz qoc (cs:=[.str [], .int .i64 0, .int .i64 0, .nilSlice, .nilSlice]) (by rfl) fun k0q0 hk0q0=>?_;have hn_0q0:h k0q0=none:=by first|assumption|(simp only[Bi]at hk0q0;simp only[hk0q0])
 have hf_0q0:B k0q0=none:=Bj hs_h hn_0q0;have ne_0q0_p:k0q0≠kp:=Bl hn_0q0 eb_p;simp+decide only[qR];apply hK;clear hK K;refine awp_scope ?_;refine awp_rseq [0,1,4,5] (by rfl) fun K hK=>?_;simp+decide only[Xh,XD,Xg,↓qc,↓Qg,↓qg,We,↓qj,qd ag3,↓qa,ne_0q0_p.symm,Ql eb_p];apply hK;clear hK K;refine qo ?_;refine awp_rseq [0,1,4,5,23] (by rfl) fun K hK=>?_;simp+decide only[QH,qO,WL,↓qc,↓qf];apply hK;clear hK K;refine qz (b:=_) rfl (fun hb1=>?_) (fun hb1=>?_)
 ·try simp only[qG]at hb1
  refine YF 2 (by rfl) (by rfl) ?_;simp only[Zu];simp+decide only[Qw,↓qc];refine⟨⟨_,_,by rfl,?_⟩,by intro i;first|trivial|exact .inr trivial|exact .inr rfl⟩;exact(qeI wz _ B kp v ov l i 3 i zqA zqB hv (by omega) (by omega)).mono (fun _ _ q=>q) fun x h' ⟨q1,q2⟩=>⟨_,StR.deep (by omega),q1,Bt zqB q2⟩
 ·try simp only[qG]at hb1
  have hd32:dd<=32:=by omega
  refine qE ?_;change Awp _ _ _ _ _ _ _;obtain⟨H4,hH4⟩:∃H4,H4=h.set k0q0 qfh:=⟨_,rfl⟩
  refine BO (h':=H4) (by rw[hH4];exact Vk _) ?_;have hS4:=hS.lay hk0q0 qfh;rw[<-hH4]at hS4;simp only[Xv]at hS4;have eb_p:H4 kp=some _:=hS4.at_ (i:=1) rfl;have eb_0q0:H4 k0q0=some _:=hS4.at_ (i:=3) rfl;have hs_H4:Sub B H4:=hS4.in_ (i:=0) rfl;obtain⟨lc,o,cc,hve⟩:=Yp hv (by omega);have hv2:=hv.mono hs_H4;rw[hve]at hv2;obtain⟨e0,e1,e2,e3,e4⟩:=UI hv2 hi;obtain⟨t,ht⟩:∃t,t=l.getD i noT:=⟨_,rfl⟩
  have hcur:qck l i=⟨t.text,t.line,t.col,[⟨[],[]⟩],[]⟩:=by rw[ht];rfl
  rw[<-ht]at e0 e1 e2 e3 e4;have e3':rd wz H4 lc (o+i*5+2+1)= .int .i64 t.col:=e3;refine qbF 20 [] [0,1,4,5,6] mixed (by kernel_rfl) (by rfl) fun K hK=>?_;simp only[Zu,VU,Vp];simp+decide only[Qw,Xm,QN,Xg,XN,Yo,XO,Za,XZ,Xt,WO,Zw,evP,ZN,Zj,↓qbg,↓qaM,↓YP,qcR,↓qbh,qd qcn,↓Uj,qh Tryz.underlying39 UA,qcT,qd ag9,fa44_2,Qa ag42 sz42,↓qij,↓XL,bld84_,Ql eb_p,hve,e1,e2,e3];repeat (with_reducible refine zqP ?_)
  refine UY (by rfl) ?_;refine Qd (cs:=[.str [], .nilSlice]) (by kernel_rfl) fun k4q17 hk4q17=>?_;have hn_4q17:H4 k4q17=none:=by first|assumption|(simp only[Bi]at hk4q17;simp only[hk4q17])
  have hf_4q17:B k4q17=none:=Bj hs_H4 hn_4q17;have ne_4q17_p:k4q17≠kp:=Bl hn_4q17 eb_p;rw[Qt];simp+decide only[qR,QN,XN,Yo,XO,Za,XZ,Xt,WO,Zw,evP,↓qij,↓XL,qsw];refine UY (by rfl) ?_;refine Qz qoc (cs:=[.str [], .int .i64 0, .int .i64 0, .nilSlice, .nilSlice]) (by rfl) fun k4q19 hk4q19=>?_;have ne_4q19_4q17:k4q19≠k4q17:=by simp only[Bi]at hk4q19;simp only[Ua,hk4q19]
  have hn_4q19:H4 k4q19=none:=by first|assumption|(simp only[Bi]at hk4q19;simp only[hk4q19])
  have hf_4q19:B k4q19=none:=Bj hs_H4 hn_4q19;have ne_4q19_p:k4q19≠kp:=Bl hn_4q19 eb_p;rw[Qt];try simp only[qbi,qaS]
  refine qN (by rfl) (by rfl) zqA UJ (by rfl) (by rfl) zqD (Js _) (by rfl) ?_;simp only[QZ,Bn];simp+decide only[qR,QN,Nat.reduceAdd];apply hK;clear hK K;obtain⟨H5,hH5⟩:∃H5,H5=(H4.set k4q17 ⟨[.str [], .nilSlice],0⟩).set k4q19 ⟨[.str t.text, .int .i64 t.line, .int .i64 t.col, .slice (.own k4q17) 0 1 (.exact 1), .nilSlice],0⟩:=⟨_,rfl⟩
  refine BO (h':=H5) (by rw[hH5];exact Vk _) ?_;have hS5:=(hS4.lay hn_4q17 ⟨[.str [], .nilSlice],0⟩).lay ((Vi _ _ ne_4q19_4q17).trans hn_4q19) ⟨[.str t.text, .int .i64 t.line, .int .i64 t.col, .slice (.own k4q17) 0 1 (.exact 1), .nilSlice],0⟩;rw[<-hH5]at hS5;simp only[Xv]at hS5;have eb_p:H5 kp=some _:=hS5.at_ (i:=1) rfl;have eb_4q19:H5 k4q19=some _:=hS5.at_ (i:=5) rfl;have hs_H5:Sub B H5:=hS5.in_ (i:=0) rfl;refine awp_rseq [0,1,4,5,6,7,8] (by rfl) fun K hK=>?_;simp+decide only[qR,XD,↓qg,qcS,↓qj,qd ag9,Ql eb_4q19];refine QM (V:= .tuple [.str (Qo t.text).1, .str (Qo t.text).2]) (by rfl) (by rfl) (c_forms wz _ t.text) ?_;simp+decide only[Xh,Xo,Xi,Xy,↓qc,↓Xr,↓qa,Nat.reduceAdd];apply hK;clear hK K;refine awp_rseq [0,1,4,5,6,7,8] (by rfl) fun K hK=>?_;simp+decide only[ZU,Xg,↓qc,↓Qg,↓qg,qjw,↓qj,qd ag22,Ql eb_p,hlo];refine Qd (cs:=[.str (Qo t.text).2]) (by kernel_rfl) fun k6q6 hk6q6=>?_;have hn_6q6:H5 k6q6=none:=by first|assumption|(simp only[Bi]at hk6q6;simp only[hk6q6])
  have hf_6q6:B k6q6=none:=Bj hs_H5 hn_6q6;have ne_6q6_p:k6q6≠kp:=Bl hn_6q6 eb_p;have ne_6q6_4q19:k6q6≠k4q19:=Bl hn_6q6 eb_4q19;refine Yi (es:=1) (v:=ov) (p:=op) (xs:=O.map strC) (ys:=[strC (Qo t.text).2]) (i:=2) (by rfl) (by rfl) Tryz.underlying22 Tryz.underlying22 (fun k e=>by cases e) sz9 by9 ze9 (by rfl) (by decide) (by rfl) hP.open_ rfl (hS5.forget (Vl hn_6q6)) (by rfl) (BA (Vj _ _ _) (fun x hx=>by rw[V9.1 hx];rfl) (by rfl) (by rfl) (.exact 1) (KL _)) (by rfl) (by simp) (by simp only[Yb];omega) (by simp only[Yb];omega) fun ov2 op2 h6 hov2 hG2 hS6=>?_;simp+decide only[YI,Xg,↓Qg,↓qg,qjw];refine qN (v:=ov2) (by rfl) (by rfl) (hS6.at_ (i:=1) rfl) sz22 hov2.live (by rw[hov2.cells];rfl) (by simp only[Xo];omega) (Js _) (by rw[hov2.cells];simp[Qu,hov2.scal]) ?_;simp only[XE,WN,hov2.cells];simp+decide only[qR];apply hK;clear hK K;obtain⟨H7,hH7⟩:∃H7,H7=h6.set kp (parB3 v i ov2):=⟨_,rfl⟩
  refine BO (h':=H7) (by rw[hH7];exact Vk _) ?_;have hS7:=hS6.put (i:=1) rfl (parB3 v i ov2);rw[<-hH7]at hS7;simp only[XE]at hS7;have eb_p:H7 kp=some _:=hS7.at_ (i:=1) rfl;have hs_H7:Sub B H7:=hS7.in_ (i:=0) rfl;have hwi:IntKind.i64.wrap ((i:Int)+1)=((i+1:Nat):Int):=by rw[wrap_i64 (by omega) (by omega)];omega
  refine awp_rseq [0,1,4,5,6,7,8] (by rfl) fun K hK=>?_;simp+decide only[Yz,ZE,Xg,↓qc,↓Qg,↓qg,We,↓qj,qd ag3,↓qf,Ql eb_p,hwi];refine qN (by rfl) (by rfl) zqA sz3 (by rfl) (by rfl) zqD (Js _) (by rfl) ?_;simp only[QZ];simp+decide only[qR];apply hK;clear hK K;have hS8:=(hS7.put (i:=1) rfl (parB3 v (i+1) ov2)).emp.emp.emp.pick [0,1,2,5,4,6,7,8,3] (by decide) (by simp);refine JU [0,1,4,5,6,7,8] ?_;have:=hrest hd32 (H7.set kp (parB3 v (i+1) ov2)) B kp k4q19 k0q0 v ov2 (.slice (.own k4q17) 0 1 (.exact 1)) .nilSlice op2 (one k4q17 ⟨[.str [], .nilSlice],0⟩) emp emp emp O i ⟨?_,?_,?_,?_⟩ hF hO hvi
  ·rw[<-ht]at this
   exact this
  ·rw[hcur]
   exact hS8
  ·refine⟨hv,?_,hG2,by omega⟩
   rw[<-ht,JK];exact hov2
  ·rw[hcur]
   exact⟨⟨[],[],[], .nilSlice,rfl,GrowV.new (xs:=[[AVal.str [], .nilSlice]]) rfl (.inl rfl) (fun x hx=>by rw[V9.1 hx];rfl) (by rfl) rfl, .nil,fun q hq=>by cases hq⟩,⟨[],rfl, .nil,fun b hb=>by cases hb⟩⟩
  ·rw[hcur]
   exact⟨by simp only[JH];omega,fun p hp=>by rw[V9.1 hp];exact Js _,Js _⟩
theorem qpd{wz:World}{d:Nat}{c:Cur}{pv bv:AVal}{pp tp bp E H:AHeap}(hc:CurS wz d c pv bv pp tp bp E)(h1:Sub pp H)(h2:Sub tp H)(h3:Sub E H):PhV wz H pv c.phrases:=by
 obtain⟨qs,w,ts,tv,p1,p2,p3,p4⟩:=hc.ph;refine⟨qs++[(⟨w,ts⟩,tv)],by rw[p1,JK];rfl,by rw[JK];exact p2.isL h1,fun q hq=>?_⟩;rcases JX.1 hq with z|z
 ·exact(p4 q z).mono h3
 ·rw[V9.1 z];exact p3.isL h2
theorem qpe{wz:World}{d:Nat}{c:Cur}{pv bv:AVal}{pp tp bp E H:AHeap}(hc:CurS wz d c pv bv pp tp bp E)(h1:Sub bp H)(h3:Sub E H):BdV wz (StsV wz d H) H bv c.bodies:=by
 obtain⟨bs,p1,p2,p3⟩:=hc.bd;exact⟨bs,p1,p2.isL h1,fun b hb=>⟨(p3 b hb).1.mono h3,(p3 b hb).2.mono h3⟩⟩
theorem few_ph{wz:World}{d:Nat}{c:Cur}{pv bv:AVal}{pp tp bp E:AHeap}{j:Nat}(hc:CurS wz d c pv bv pp tp bp E)(hf:Few c j)(hj:j<=1000000):PhFew c.phrases:=by
 obtain⟨qs,w,ts,tv,p1,p2,p3,p4⟩:=hc.ph;exact⟨by rw[p1];simp,Vg hf.1 hj,fun p hp=>Vg (hf.2.1 p hp) hj⟩
theorem qoP{l:List TokC}{c c':Cur}{ph:Str}{j j':Nat}(hf:Few c j)(hne:c.phrases≠[])(hb:c.bodies=[])(h:WS l c ph j= .ok c' j'):Few c' j'/\j<j':=by
 obtain⟨f1,f2,f3⟩:=hf;rw[qfU hb]at h;have hp:=Bv.2 hne;split at h
 ·cases h
  refine⟨⟨?_,fun p hp=>?_,by simp only;omega⟩,by omega⟩
  ·simp only[ZT,qhu,List.length_dropLast];omega
  ·simp only[qhu]at hp
   rcases JX.1 hp with z|z
   ·have:=f2 p (List.dropLast_subset _ z);omega
   ·rw[V9.1 z]
    have:=f2 (c.phrases.getLastD ⟨[],[]⟩) (by
     rw[BQ,List.getLast?_eq_some_getLast hne];exact List.getLast_mem hne)
    simp only[ZT];omega
 ·rename_i hz
  split at h
  ·cases h
   refine⟨⟨?_,fun p hp=>?_,by simp only;omega⟩,by omega⟩
   ·simp only[ZT];omega
   ·simp only at hp
    rcases JX.1 hp with z|z
    ·have:=f2 p z;omega
    ·rw[V9.1 z];exact Js _
  ·cases h
   exact⟨⟨by omega,fun p hp=>by have:=f2 p hp;omega,by omega⟩,by omega⟩
theorem tok_ex{l:List TokC}{c:Cur}{ph:Str}{j:Nat}(hb:c.bodies=[]):∃c' j',WS l c ph j= .ok c' j':=by
 rw[qfU hb];split
 ·exact⟨_,_,rfl⟩
 ·split<;>exact⟨_,_,rfl⟩
theorem tok_le{l:List TokC}{c c':Cur}{ph:Str}{j j':Nat}(hb:c.bodies=[])(hj:j<l.length)(h:WS l c ph j= .ok c' j'):j'<=l.length:=by
 rw[qfU hb]at h;have:=qcJ l j ph (BS hj);split at h
 ·cases h;omega
 ·split at h<;>cases h<;>exact this
theorem Few.up{c:Cur}{j j':Nat}(h:Few c j)(hj:j<=j'):Few c j':=⟨Vg h.1 hj,fun p hp=>Vg (h.2.1 p hp) hj,Vg h.2.2 hj⟩
theorem qrV{c c':Cur}{j j':Nat}(h:Few c j)(hp:c'.phrases=c.phrases)(hb:c'.bodies.length=c.bodies.length+1)(hj:j<j'):Few c' j':=⟨by rw[hp];exact Vg h.1 (BS hj),fun p hpm=>by rw[hp]at hpm;exact Vg (h.2.1 p hpm) (BS hj),by rw[hb];have:=h.2.2;omega⟩
theorem impV_eq(m:Option Str):impV m= .tuple [.str (m.getD []), .bool m.isSome]:=by cases m<;>rfl
structure LoG where
 c:Cur
 j:Nat
 ov:AVal
 pv:AVal
 bv:AVal
 op:AHeap
 pp:AHeap
 tp:AHeap
 bp:AHeap
 E:AHeap
 H:AHeap
theorem isE_in{l:List TokC}{j:Nat}(h:j<l.length):isE l j=decide ((l.getD j noT).kind=6):=by unfold isE;rw[if_pos h]
theorem isE_out{l:List TokC}{j:Nat}(h:¬j<l.length):isE l j=true:=by unfold isE;rw[if_neg h]
set_option maxHeartbeats 16000000 in
theorem k_stmB(wz:World)(hm:MaxL wz)(ha:Asp wz)(l:List TokC)(hl:l.length<=65537)(hsh:Short l)(dd:Nat)(hdd:dd<=32)(hd0:0<dd)(hbk:BodK wz l dd)(B:AHeap)(kp ks k4:Nat)(b4:Blk)(v:AVal)(O O0:List Str)(ph bd:Str)(i:Nat)(Q:AVal->AHeap->Prop)(QP:FaultC->Prop)
 (hF:Fair O) (hO:O.length=dd) (hbd:O.getLastD []=bd) (hph1:ph.length<=1000000) (hph2:asciiB ph=true) (hbad0:∀f,LoopRO l dd O ph (qck l i) (i+1) (.bad f)->QP f)
 (ov pv bv:AVal) (op pp tp bp E H:AHeap) (hI:StI wz l B kp ks k4 b4 v ov pv bv op pp tp bp E O (32-dd) (qck l i) (i+1) H)
 (hrest:∀(H:AHeap) (ov pv bv:AVal) (op pp tp bp E:AHeap) (c:Cur) (cl:Bool) (j:Nat),StI wz l B kp ks k4 b4 v ov pv bv op pp tp bp E O (32-dd) c j H->i<j->LoopRO l dd O ph (qck l i) (i+1) (.ok (c,cl) j)->
   Awp Tryz.prog wz ⟨201,[],GP wz 201 [] [] (qmD B QP)⟩ (Uk 9 (qkC (Uk 1 (qdG Tryz.f51)))) (qgd (qdN Tryz.prog wz [.cell 4 82] (Q))) [(0, .ptr (.own kp) 0),(4, .ptr (.own k4) 0),(5, .int .i64 i),(6, .ptr (.own ks) 0),(9, .bool cl)] (H)):
 Awp Tryz.prog wz ⟨201,[],GP wz 201 [] [] (qmD B QP)⟩ (Uk 6 (qkC (Uk 1 (qdG Tryz.f51)))) (qgd (qdN Tryz.prog wz [.cell 4 82] (Q))) [(0, .ptr (.own kp) 0),(1, .int .i64 dd),(4, .ptr (.own k4) 0),(5, .int .i64 i),(6, .ptr (.own ks) 0),(7, .str ph),(8, .str bd)] (H):=by
 change Awp _ _ _ (Code.seq _ _) _ _ _;refine awp_rseq [0,1,4,5,6,7,8,9] (by rfl) fun K hK=>?_;simp+decide only[qJ,↓qa];apply hK;clear hK K;refine qo ?_;refine awp_label ?_;change Awp _ _ _ _ _ _ _;refine qo ?_;refine qK ?_;refine QD [0,1,4,5,6,7,8,9] (fun g:LoG=>[(0, .ptr (.own kp) 0),(1, .int .i64 dd),(4, .ptr (.own k4) 0),(5, .int .i64 i),(6, .ptr (.own ks) 0),(7, .str ph),(8, .str bd),(9, .bool false)]) (fun g:LoG=>g.H) (fun g:LoG=>StI wz l B kp ks k4 b4 v g.ov g.pv g.bv g.op g.pp g.tp g.bp g.E O (32-dd) g.c g.j g.H/\i<g.j/\∀r,LoopRO l dd O ph g.c g.j r->LoopRO l dd O ph (qck l i) (i+1) r) (fun g:LoG=>l.length-g.j) ⟨qck l i,i+1,ov,pv,bv,op,pp,tp,bp,E,H⟩ (by rfl) (Vk _) ⟨hI,Nat.lt_succ_self _,fun r hr=>hr⟩ ?_;rintro⟨c,j,ov,pv,bv,op,pp,tp,bp,E,H⟩ ⟨⟨hS,hP,hC,hfew⟩,hij,hgo⟩;simp only at hS hP hC hfew hij hgo|-
 have eb_p:H kp=some _:=hS.at_ (i:=1) rfl;have eb_s:H ks=some _:=hS.at_ (i:=3) rfl;have ne_p_s:kp≠ks:=hS.ne (i:=1) (j:=3) rfl rfl (by decide);have hs_H:Sub B H:=hS.in_ (i:=0) rfl;have hv:=hP.toks;have hlv:=hv.live;have nv:=Wn hv;have hjl:=hP.at_;have hlo:=hP.open_.live;obtain⟨hpl,hps,hpc⟩:=hC.pv_ok;obtain⟨hbl,hbs,hbc,nb⟩:=hC.bv_len;refine qo ?_;have mcase:(∃(lc:AM.Loc) (o:Nat) (cc:Cap),v= .slice lc o l.length cc/\j<l.length/\decide ((j:Int)<(l.length:Int))=true/\rd wz H lc (o+j*5)= .int .u8 (l.getD j noT).kind.toNat/\decide (((l.getD j noT).kind.toNat:Int)=6)=decide ((l.getD j noT).kind=6)/\(!isE l j)= !decide ((l.getD j noT).kind=6))\/
  (∃(lc:AM.Loc) (o:Nat) (cc:Cap),v=v/\¬j<l.length/\decide ((j:Int)<(l.length:Int))=false/\True/\True/\(!isE l j)=false):=by
  by_cases hlt:j<l.length
  ·obtain⟨lc,o,cc,hve⟩:=Yp hv (by omega)
   have hv2:=hv.mono hs_H;rw[hve]at hv2;exact .inl ⟨lc,o,cc,hve,hlt,by simpa using hlt,(UI hv2 hlt).1,Yu _ 6,by rw[isE_in hlt]⟩
  ·exact .inr ⟨.base 0,0, .exact 0,rfl,hlt,by simpa using hlt,trivial,trivial,by rw[isE_out hlt];rfl⟩
 refine qai [0,1,4,5,6,7,8,9,92] mixed (by kernel_rfl) (by rfl) (by rfl) fun K hK=>?_;suffices hM:∀b:Bool,b= !isE l j->K [(0, .ptr (.own kp) 0),(1, .int .i64 dd),(4, .ptr (.own k4) 0),(5, .int .i64 i),(6, .ptr (.own ks) 0),(7, .str ph),(8, .str bd),(9, .bool false),(92, .bool b)] (H) by
  rcases mcase with⟨lc,o,cc,hve,hkl,hkd,e0,hk6,hfin⟩|⟨lc,o,cc,hve,hkl,hkd,e0,hk6,hfin⟩<;>(
   simp+decide only[QH,Zn,Vw,qO,K8,Qe,qF,Yh,Zf,Xg,Zz,Xk,Yw,UR,↓qc,↓Qg,↓qg,We,↓qj,qd ag3,qcR,qd qcn,↓Qr,Xp Tryz.underlying39,↓qf,↓Xc,qY,qZ,qW,↓qdt,↓QR,↓XP,↓Zv,qh Tryz.underlying39 UA,qaG,qd qmr,↓QI,↓QE,Ql eb_p,hlv,nv,hve,hkd,e0,hk6];repeat (with_reducible refine zqP ?_)
   exact hM _ hfin.symm)
 intro b hb_9;apply hK;clear hK K;refine qz (b:=_) rfl (fun hb1=>?_) (fun hb1=>?_)
 ·skip
  have hE0:isE l j=false:=by
   have z:(!isE l j)=true:=by rw[<-hb_9];exact hb1
   simpa using z
  have hjlt:j<l.length:=by
   by_cases z:j<l.length
   ·exact z
   ·rw[isE_out z]at hE0;cases hE0
  obtain⟨lc,o,cc,hve⟩:=Yp hv (by omega);have hv2:=hv.mono hs_H;rw[hve]at hv2;obtain⟨e0,e1,e2,e3,e4⟩:=UI hv2 hjlt;obtain⟨t,ht⟩:∃t,t=l.getD j noT:=⟨_,rfl⟩
  rw[<-ht]at e0 e1 e2 e3 e4;have htx:t.text.length<=1000000:=by rw[ht];exact hsh.at hjlt
  have hEV:qav l j=qbE t:=by unfold qav;rw[ht]
  have hVV:isV l j=YN t:=by unfold isV;rw[if_pos hjlt,ht]
  refine qE ?_;change Awp _ _ _ _ _ _ _;refine qK ?_;refine qbF 11 [] [0,1,4,5,6,7,8,9,10] mixed (by kernel_rfl) (by rfl) fun K hK=>?_;simp only[Zu,VU,Vp];simp+decide only[Qw,Xm,QN,Xg,ZN,Zj,↓qbg,↓qaM,↓YP,qcR,↓qbh,qd qcn,We,qd ag3,↓Uj,qh Tryz.underlying39 UA,Qa qmP UA,Ql eb_p,hve,e0,e1,e2,e3,e4];repeat (with_reducible refine zqP ?_)
  refine UY (by rfl) ?_;refine Qz qpB (cs:=[.int .u8 0, .str [], .int .i64 0, .int .i64 0, .bool false]) (by rfl) fun k10q10 hk10q10=>?_;have hn_10q10:H k10q10=none:=by first|assumption|(simp only[Bi]at hk10q10;simp only[hk10q10])
  have hf_10q10:B k10q10=none:=Bj hs_H hn_10q10;have ne_10q10_p:k10q10≠kp:=Bl hn_10q10 eb_p;have ne_10q10_s:k10q10≠ks:=Bl hn_10q10 eb_s;rw[Qt];try simp only[qbi,qaS]
  refine qN (by rfl) (by rfl) zqA UA (by rfl) (by rfl) zqD (Js _) (by rfl) ?_;simp only[QZ,Bn];simp+decide only[qR,QN,Nat.reduceAdd];apply hK;clear hK K;refine qo ?_;obtain⟨H11,hH11⟩:∃H11,H11=H.set k10q10 ⟨[.int .u8 t.kind.toNat, .str t.text, .int .i64 t.line, .int .i64 t.col, .bool t.left],0⟩:=⟨_,rfl⟩
  refine BO (h':=H11) (by rw[hH11];exact Vk _) ?_;have hS1:=hS.lay hn_10q10 ⟨[.int .u8 t.kind.toNat, .str t.text, .int .i64 t.line, .int .i64 t.col, .bool t.left],0⟩;rw[<-hH11]at hS1;simp only[Xv]at hS1;have eb_p:H11 kp=some _:=hS1.at_ (i:=1) rfl;have eb_s:H11 ks=some _:=hS1.at_ (i:=3) rfl;have eb_10q10:H11 k10q10=some _:=hS1.at_ (i:=9) rfl;have hs_H11:Sub B H11:=hS1.in_ (i:=0) rfl;obtain⟨hbd1,hbd2⟩:=qjv hF;rw[hbd]at hbd1 hbd2;obtain⟨S,hSS⟩:∃S,S=Qs l j bd:=⟨_,rfl⟩
  have hSle:=qcJ l j bd hjl;rw[<-hSS]at hSle;have hSO:Qs l j (O.getLastD [])=S:=by rw[hbd,hSS]
  have hwj:IntKind.i64.wrap ((j:Int)+1)=((j+1:Nat):Int):=by rw[wrap_i64 (by omega) (by omega)];omega
  refine awp_rseq [0,1,4,5,6,7,8,9,10,11] (by rfl) fun K hK=>?_;simp+decide only[qR,Xa,↓qj,Qa qmP UA,Ql eb_10q10,Nat.reduceAdd];refine QM (V:= .str (qbE t)) (by rfl) (by rfl) (c_endOf wz hm _ t htx) ?_;simp+decide only[qJ,↓qa];apply hK;clear hK K;refine awp_rseq [0,1,4,5,6,7,8,9,10,11,106] (by rfl) fun K hK=>?_;simp+decide only[XI,Qb,XM,qan,↓qc,↓qf];apply hK;clear hK K;refine qz (b:=_) rfl (fun hb2=>?_) (fun hb2=>?_)
  ·try simp only[qG]at hb2
   refine qo ?_;refine awp_rseq [0,4,5,6,9,110] (by rfl) fun K hK=>?_;simp+decide only[XI,XD,qF,Qb,qhd,↓qc,↓qg,qcS,↓qj,qd ag9,↓qf,Ql eb_s];apply hK;clear hK K;refine qz (b:=_) rfl (fun hb3=>?_) (fun hb3=>?_)
   ·try simp only[qG]at hb3
    have hZ1:StI wz l B kp ks k4 b4 v ov pv bv op pp tp bp E O (32-dd) c (j+1) (H11.set kp (parB3 v (j+1) ov)):=⟨(hS1.put (i:=1) rfl (parB3 v (j+1) ov)).pick [0,1,2,3,4,5,6,7,8] (by decide) (by simp),⟨hv,hP.open_,hP.isG,by omega⟩,hC,hfew.up (Nat.le_succ _)⟩
    have hZ2:=hgo _ (LoopR.endS hE0 (hEV.trans hb3) (by rw[hEV];exact hb2));have hZ3:i<j+1:=by omega
    refine awp_rseq [0,4,5,6,9] (by rfl) fun K hK=>?_;simp+decide only[qJ,↓qa];apply hK;clear hK K;refine QK [0,4,5,6,9] (by rfl) ?_;simp+decide only[Yz,ZE,Xg,↓qc,↓Qg,↓qg,We,↓qj,qd ag3,↓qf,Ql eb_p,hwj];refine qN (by rfl) (by rfl) zqA sz3 (by rfl) (by rfl) zqD (Js _) (by rfl) ?_;simp only[QZ];simp+decide only[qR];change Awp _ _ _ _ _ _ _;refine QC ?_;change Awp _ _ _ _ _ _ _;refine JU [0,4,5,6,9] ?_;exact hrest _ _ _ _ _ _ _ _ _ _ _ _ hZ1 hZ3 hZ2
   ·try simp only[qG]at hb3
    have hZ1:StI wz l B kp ks k4 b4 v ov pv bv op pp tp bp E O (32-dd) c j H11:=⟨hS1.pick [0,1,2,3,4,5,6,7,8] (by decide) (by simp),hP,hC,hfew⟩
    have hZ2:=hgo _ (LoopR.endO hE0 (fun z=>hb3 (hEV.symm.trans z)) (by rw[hEV];exact hb2));have hZ3:=hij;refine qE ?_;change Awp _ _ _ _ _ _ _;refine QC ?_;change Awp _ _ _ _ _ _ _;refine JU [0,4,5,6,9] ?_;exact hrest _ _ _ _ _ _ _ _ _ _ _ _ hZ1 hZ3 hZ2
  ·try simp only[qG]at hb2
   have hEn:qav l j=[]:=by rw[hEV];exact hb2
   refine qE ?_;change Awp _ _ _ _ _ _ _;refine qo ?_;refine awp_rseq [0,1,4,5,6,7,8,9,10,12,13] (by rfl) fun K hK=>?_;simp+decide only[Qw,↓qc];refine QM (V:= .tuple [.str S.1, .int .i64 S.2]) (by rfl) (by rfl) (by rw[hSS];exact qfC wz ha _ (.own kp) 0 v l j bd (YG wz eb_p 0) (YG wz eb_p 1) (hv.mono zqB) (by omega) hjl hbd1 hbd2) ?_;simp+decide only[Xh,Xo,Xi,Xy,↓qc,↓Xr,↓qa,Nat.reduceAdd];apply hK;clear hK K;refine awp_rseq [0,1,4,5,6,7,8,9,10,12,13,125] (by rfl) fun K hK=>?_;simp+decide only[QH,qO,WL,↓qc,↓qf];apply hK;clear hK K;refine qz (b:=_) rfl (fun hb4=>?_) (fun hb4=>?_)
   ·try simp only[qG]at hb4
    have hdj:[B,one k4 b4].Pairwise disj:=(hS1.pick [0,8] (by decide) (by simp)).2;have hcall:=hbk H11 (YY [B,one k4 b4]) kp ks v ov bv pv op pp tp bp E O c (S.1) S.2 j (Sep.fold (ps:=[B,one k4 b4]) (hS1.pick [0,8,1,2,3,4,5,6,7] (by decide) (by simp))) ⟨hv.mono (Xl hdj B (by simp)),hP.open_,hP.isG,hjl⟩ hC hF hO (by omega) (.inl (by omega)) hfew;by_cases hbad:∃f,BodyRO l dd O c (S.1) S.2 j (.bad f)
    ·skip
     refine qo ?_;refine YF 4 (by rfl) (by rfl) ?_;simp only[Zu];simp+decide only[Qw,↓qc];refine⟨⟨_,_,by rfl,?_⟩,by intro i;first|trivial|exact .inr trivial|exact .inr rfl⟩;obtain⟨f,hf⟩:=hbad;refine(hcall.bad fun x h' ⟨_,c',j',_,_,_,_,_,y,_⟩=>by cases y.one hf).mono (fun _ _ q=>q) fun x h' ⟨f',q1,q2,q3⟩=>⟨f',hbad0 _ (hgo _ (LoopR.bodyBad hE0 hEn (by rw[hSO];omega) (by rw[hSO];exact q1))),q2,(Xl hdj B (by simp)).trans q3⟩
    refine awp_rseq [0,1,4,5,6,7,8,9] (by rfl) fun K hK=>?_;simp+decide only[Qw,↓qc];refine qM (by rfl) (by rfl) (hcall.ok fun x h' ⟨f,q,_⟩=>hbad ⟨f,q⟩) fun x18q4 h18q4 hx18q4=>?_;obtain⟨rfl,c',j',ov',op',bv',bp',E',hR,hjj,hp1,hp2,hp3,hp4,hbn,hC',hP',hS'⟩:=hx18q4;have hS':=(hS'.unfold hdj).pick [0,2,3,4,5,6,7,8,1] (by decide) (by simp);have hLoop:∃(c2:Cur) (j2:Nat) (ov2 pv2 bv2:AVal) (op2 pp2 tp2 bp2 E2:AHeap),StI wz l B kp ks k4 b4 v ov2 pv2 bv2 op2 pp2 tp2 bp2 E2 O (32-dd) c2 j2 h18q4/\j<j2/\∀r,LoopRO l dd O ph c2 j2 r->LoopRO l dd O ph (qck l i) (i+1) r:=⟨c',j',ov',pv,bv',op',pp,tp,bp',E',⟨hS',⟨hv,hP'.open_,hP'.isG,hP'.at_⟩,hC',qrV hfew hp1 hbn hjj⟩,hjj,fun r hr=>hgo r (LoopR.body hE0 hEn (by rw[hSO];omega) (by rw[hSO];exact hR) hr)⟩
    simp+decide only[qR];apply hK;clear hK K;refine QC ?_;obtain⟨c2,j2,ov2,pv2,bv2,op2,pp2,tp2,bp2,E2,g1,g2,g3⟩:=hLoop;exact⟨⟨c2,j2,ov2,pv2,bv2,op2,pp2,tp2,bp2,E2,_⟩,rfl,Vk _,⟨g1,by simp only;omega,g3⟩,by have:=g1.par.at_;simp only;omega⟩
   ·try simp only[qG]at hb4
    have hS0:(Qs l j (O.getLastD [])).2=0:=by rw[hSO];omega
    refine qE ?_;change Awp _ _ _ _ _ _ _;refine qo ?_;refine awp_rseq [0,1,4,5,6,7,8,9,10,14,15] (by rfl) fun K hK=>?_;simp+decide only[Zg,Xa,↓qj,Qa qiH UJ,Ql eb_s,Nat.reduceAdd,hpl,hbl];refine qM (by rfl) (by rfl) (c_implicit wz ha _ c pv bv (32-dd) (qpd hC (hS1.in_ (i:=4) rfl) (hS1.in_ (i:=5) rfl) (hS1.in_ (i:=7) rfl)) (qpe hC (hS1.in_ (i:=6) rfl) (hS1.in_ (i:=7) rfl)) (by have:=hfew.2.2;omega) (few_ph hC hfew (by omega))) fun x19q1 h19q1 hx19q1=>?_;obtain⟨rfl,hs19⟩:=hx19q1;rw[impV_eq];obtain⟨m,hmm⟩:∃m,m=Zi wordsO c:=⟨_,rfl⟩
    rw[<-hmm];have hS19:=hS1.forget hs19;have hs_h19q1:Sub B h19q1:=Bt zqC hs19;have hr_h19q1:Sub H11 h19q1:=Bt zqC hs19;have eb_p:=hs19 kp _ zqA;have eb_s:=hs19 ks _ zqA;have eb_10q10:=hs19 k10q10 _ zqA;simp+decide only[Xh,Vz,Xo,Xi,Xy,↓qc,↓Xr,↓qa,Nat.reduceAdd];apply hK;clear hK K;refine awp_rseq [0,1,4,5,6,7,8,9,10,14,140] (by rfl) fun K hK=>?_;simp+decide only[Qw,Vz,Xa,Qe,XF,qcm,agP,Us,qdA,qdz,qdy,qdw,qdv,qdu,qdp,qdo,qpr,qgt,↓qc,↓XP,Qa qmP UA,qY,qZ,qW,Ql eb_10q10,Nat.reduceAdd]
    (refine Wj (V:= .bool (YN t)) (f:=_) (cap:=_) (xs:=_) (by first|rfl|(simp+decide only[ZZ,XT,XK,XJ])) (fun hg=>⟨rfl,?_⟩) (fun hg=>qiB wz hm _ t htx) ?_;· (simp+decide only[ZZ,V8,putD,XT,qaH]at hg;simp+decide only[Zo,absS,absV,Qe,XN,evs,JG,hg]<;>try rfl))
    simp+decide only[qR,XT,qab,qar,qad,↓QE];apply hK;clear hK K;refine qz (b:=_) rfl (fun hb5=>?_) (fun hb5=>?_)
    ·try simp only[qG]at hb5
     have hVb:isV l j=true:=by rw[hVV];exact hb5.2
     obtain⟨w',hw'⟩:=Option.isSome_iff_exists.1 hb5.1;have hwg:m.getD []=w':=by rw[hw'];rfl
     have himp:Zi wordsO c=some (m.getD []):=by rw[hwg,<-hw',hmm]
     have hdj:[B,one k4 b4].Pairwise disj:=(hS19.pick [0,8] (by decide) (by simp)).2;have hcall:=hbk h19q1 (YY [B,one k4 b4]) kp ks v ov bv pv op pp tp bp E O c (m.getD []) 0 j (Sep.fold (ps:=[B,one k4 b4]) (hS19.pick [0,8,1,2,3,4,5,6,7] (by decide) (by simp))) ⟨hv.mono (Xl hdj B (by simp)),hP.open_,hP.isG,hjl⟩ hC hF hO (by omega) (.inr hVb) hfew;by_cases hbad:∃f,BodyRO l dd O c (m.getD []) 0 j (.bad f)
     ·skip
      refine qo ?_;refine YF 3 (by rfl) (by rfl) ?_;simp only[Zu];simp+decide only[Qw,↓qc];refine⟨⟨_,_,by rfl,?_⟩,by intro i;first|trivial|exact .inr trivial|exact .inr rfl⟩;obtain⟨f,hf⟩:=hbad;refine(hcall.bad fun x h' ⟨_,c',j',_,_,_,_,_,y,_⟩=>by cases y.one hf).mono (fun _ _ q=>q) fun x h' ⟨f',q1,q2,q3⟩=>⟨f',hbad0 _ (hgo _ (LoopR.implBad hE0 hEn hS0 hVb himp q1)),q2,(Xl hdj B (by simp)).trans q3⟩
     refine awp_rseq [0,1,4,5,6,7,8,9] (by rfl) fun K hK=>?_;simp+decide only[Qw,↓qc];refine qM (by rfl) (by rfl) (hcall.ok fun x h' ⟨f,q,_⟩=>hbad ⟨f,q⟩) fun x21q3 h21q3 hx21q3=>?_;obtain⟨rfl,c',j',ov',op',bv',bp',E',hR,hjj,hp1,hp2,hp3,hp4,hbn,hC',hP',hS'⟩:=hx21q3;have hS':=(hS'.unfold hdj).pick [0,2,3,4,5,6,7,8,1] (by decide) (by simp);have hLoop:∃(c2:Cur) (j2:Nat) (ov2 pv2 bv2:AVal) (op2 pp2 tp2 bp2 E2:AHeap),StI wz l B kp ks k4 b4 v ov2 pv2 bv2 op2 pp2 tp2 bp2 E2 O (32-dd) c2 j2 h21q3/\j<j2/\∀r,LoopRO l dd O ph c2 j2 r->LoopRO l dd O ph (qck l i) (i+1) r:=⟨c',j',ov',pv,bv',op',pp,tp,bp',E',⟨hS',⟨hv,hP'.open_,hP'.isG,hP'.at_⟩,hC',qrV hfew hp1 hbn hjj⟩,hjj,fun r hr=>hgo r (LoopR.impl hE0 hEn hS0 hVb himp hR hr)⟩
     simp+decide only[qR];apply hK;clear hK K;refine QC ?_;obtain⟨c2,j2,ov2,pv2,bv2,op2,pp2,tp2,bp2,E2,g1,g2,g3⟩:=hLoop;exact⟨⟨c2,j2,ov2,pv2,bv2,op2,pp2,tp2,bp2,E2,_⟩,rfl,Vk _,⟨g1,by simp only;omega,g3⟩,by have:=g1.par.at_;simp only;omega⟩
    ·try simp only[qG]at hb5
     have hnI:isV l j=true->Zi wordsO c=none:=fun z=>by
      rw[<-hmm];cases hm0:m with
      |none=>rfl
      |some w'=>
       exfalso;rw[hVV]at z;rcases hb5 with y|y
       ·rw[hm0]at y;cases y
       ·rw[z]at y;cases y
     refine qE ?_;change Awp _ _ _ _ _ _ _;refine qo ?_;refine awp_rseq [0,1,4,5,6,7,8,9,150] (by rfl) fun K hK=>?_;simp+decide only[qR,Xa,↓qj,Qa qmP UA,Ql eb_10q10,Nat.reduceAdd];refine QM (V:= .bool (YN t)) (by rfl) (by rfl) (qiB wz hm _ t htx) ?_;simp+decide only[Qw,XU,XF,qcm,agP,Us,↓qc,↓Xc,qY,qZ,qW]
     (refine Wj (V:= .bool (qci l O j)) (f:=_) (cap:=_) (xs:=_) (by first|rfl|(simp+decide only[ZZ,XT,XK,XJ])) (fun hg=>⟨rfl,?_⟩) (fun hg=>c_outer wz ha _ kp v ov l j O eb_p (hv.mono zqB) (hP.open_.isL (hS19.in_ (i:=2) rfl)) hF (by omega) (by omega) (by omega) hjl) ?_;· (simp+decide only[ZZ,V8,putD,XT,qaH]at hg;simp+decide only[Zo,absS,absV,Qe,XN,evs,JG,hg]<;>try rfl))
     simp+decide only[qR,XT,qab,qar,qad,↓QE];apply hK;clear hK K;refine qz (b:=_) rfl (fun hb6=>?_) (fun hb6=>?_)
     ·try simp only[qG]at hb6
      have hZ1:StI wz l B kp ks k4 b4 v ov pv bv op pp tp bp E O (32-dd) c j h19q1:=⟨hS19.pick [0,1,2,3,4,5,6,7,8] (by decide) (by simp),hP,hC,hfew⟩
      have hZ2:=hgo _ (LoopR.leave hE0 hEn hS0 hnI (by rw[hVV];exact hb6));have hZ3:=hij;refine QC ?_;change Awp _ _ _ _ _ _ _;refine JU [0,4,5,6,9] ?_;exact hrest _ _ _ _ _ _ _ _ _ _ _ _ hZ1 hZ3 hZ2
     ·try simp only[qG]at hb6
      have hnV:isV l j=false:=by rw[hVV];exact hb6.1
      have hdj:[B,one k4 b4].Pairwise disj:=(hS19.pick [0,8] (by decide) (by simp)).2;have hu:=Xl hdj;have hS20:=Sep.fold (ps:=[B,one k4 b4]) (hS19.pick [0,8,1,2,3,4,5,6,7] (by decide) (by simp));refine qE ?_;change Awp _ _ _ _ _ _ _;by_cases hbb:c.bodies≠[]
      ·skip
       refine YF 2 (by rfl) (by rfl) ?_;simp only[Zu];simp+decide only[Qw,↓qc];refine⟨⟨_,_,by rfl,?_⟩,by intro i;first|trivial|exact .inr trivial|exact .inr rfl⟩;refine(c_tokBad wz _ (YY [B,one k4 b4]) kp ks v ov bv pv op pp tp bp E c (32-dd) j l ph hS20 (hv.mono (hu B (by simp))) hC (by omega) hjl hbb).mono (fun _ _ q=>q) fun x h' ⟨q1,q2⟩=>⟨_,hbad0 _ (hgo _ (LoopR.tokBad hE0 hEn hS0 hnV hb6.2 (by unfold WS;rw[if_pos hbb]))),q1,Bt (hS19.in_ (i:=0) rfl) q2⟩
      refine QK [0,1,4,5,6,7,8,9] (by rfl) ?_;simp+decide only[Qw,↓qc];refine qM (by rfl) (by rfl) (c_tokOk wz ha _ (YY [B,one k4 b4]) kp ks v ov bv pv op pp tp bp E c _ (32-dd) j _ l ph hS20 (hv.mono (hu B (by simp))) hC (by omega) hjlt (Decidable.not_not.1 hbb) hph1 hph2 (tok_ex (Decidable.not_not.1 hbb)).choose_spec.choose_spec hfew hlo) fun x23q2 h23q2 hx23q2=>?_;obtain⟨rfl,pv',pp',tp',E',hC',hS'⟩:=hx23q2;have hS':=(hS'.unfold hdj).pick [0,2,3,4,5,6,7,8,1] (by decide) (by simp);have hok:=(tok_ex (l:=l) (ph:=ph) (j:=j) (Decidable.not_not.1 hbb)).choose_spec.choose_spec;obtain⟨hfw,hjj⟩:=qoP hfew (few_ph hC hfew (by omega)).1 (Decidable.not_not.1 hbb) hok;have hLoop:∃(c2:Cur) (j2:Nat) (ov2 pv2 bv2:AVal) (op2 pp2 tp2 bp2 E2:AHeap),StI wz l B kp ks k4 b4 v ov2 pv2 bv2 op2 pp2 tp2 bp2 E2 O (32-dd) c2 j2 h23q2/\j<j2/\∀r,LoopRO l dd O ph c2 j2 r->LoopRO l dd O ph (qck l i) (i+1) r:=⟨_,_,ov,pv',bv,op,pp',tp',bp,E',⟨hS',⟨hv,hP.open_,hP.isG,tok_le (Decidable.not_not.1 hbb) hjlt hok⟩,hC',hfw⟩,hjj,fun r hr=>hgo r (LoopR.tok hE0 hEn hS0 hnV hb6.2 hok hr)⟩
      simp+decide only[qR];try simp only[QT]
      obtain⟨c2,j2,ov2,pv2,bv2,op2,pp2,tp2,bp2,E2,g1,g2,g3⟩:=hLoop;exact⟨⟨c2,j2,ov2,pv2,bv2,op2,pp2,tp2,bp2,E2,_⟩,rfl,Vk _,⟨g1,by simp only;omega,g3⟩,by have:=g1.par.at_;simp only;omega⟩
 ·skip
  have hE0:isE l j=true:=by
   have z:(!isE l j)=false:=by rw[<-hb_9];exact hb1
   simpa using z
  have hZ1:StI wz l B kp ks k4 b4 v ov pv bv op pp tp bp E O (32-dd) c j H:=⟨hS,hP,hC,hfew⟩
  have hZ2:=hgo _ (LoopR.stop hE0);have hZ3:=hij;refine QC ?_;change Awp _ _ _ _ _ _ _;refine JU [0,4,5,6,9] ?_;exact hrest _ _ _ _ _ _ _ _ _ _ _ _ hZ1 hZ3 hZ2
end Go.Proofs.YtgiadjbiimkbiaaGreatDoor
namespace Go.AM
theorem qnM{α:Type}{es:Nat}(y:α):∀{xs:List (List α)},(∀x∈xs,x.length=es)->∀(i j:Nat),i<xs.length->j<es->xs.flatten.set (i*es+j) y=(xs.set i ((xs.getD i []).set j y)).flatten
 |[],_,i,j,hi,_=>by simp at hi
 |x::xs,h,0,j,_,hj=>by
  have hx:=h x Jg;rw[VS,K9,Jr,List.set_append_left _ _ (by omega),List.set_cons_zero,VS];rfl
 |x::xs,h,i+1,j,hi,hj=>by
  have hx:=h x Jg;rw[VS,BM _ _ (by rw[VT];omega),show(i+1)*es+j-x.length=i*es+j by rw[VT];omega,qnM y (fun z hz=>h z (Jh _ hz)) i j (by simpa using hi) hj,List.set_cons_succ,VS];rfl
theorem qlS{α:Type}{es:Nat}:∀(ys:List α) {xs:List (List α)},(∀x∈xs,x.length=es)->∀(i j:Nat),i<xs.length->j+ys.length<=es->setAt xs.flatten (i*es+j) ys=(xs.set i (setAt (xs.getD i []) j ys)).flatten
 |[],xs,h,i,j,hi,_=>by
  simp only[setAt];congr 1;rw[Ko,JD hi];exact(List.set_getElem_self hi).symm
 |y::ys,xs,h,i,j,hi,hj=>by
  simp only[KZ]at hj;simp only[setAt];have hl:(xs.getD i []).length=es:=by
   rw[Ko,JD hi];exact h _ (VY hi)
  rw[qnM y h i j hi (by omega),Kw,qlS ys (xs:=xs.set i ((xs.getD i []).set j y)) (fun z hz=>?_) i (j+1) (by rw[BI];exact hi) (by omega),List.set_set]
  ·congr 3
   simp[Ko,hi]
  ·rcases BU hz with hz|hz
   ·exact h z hz
   ·rw[hz,BI];exact hl
theorem GrowV.open_{v:AVal}{p:AHeap}{es:Nat}{xs:List (List AVal)}{x:List AVal}(hg:GrowV es v p (xs++[x]))(hG:isG v=true):
 ∃k,v= .slice (.own k) 0 (xs.length+1) (.grow es)/\p=one k ⟨xs.flatten++x,0⟩/\GrowV es (.slice (.own k) 0 xs.length (.grow es)) (one k ⟨xs.flatten,0⟩) xs:=by
 rcases hg with⟨rfl,_,e⟩|⟨k,c,rfl,hc,rfl,hw,hl⟩
 ·simp at e
 ·have hfl:(xs++[x]).flatten=xs.flatten++x:=by simp
  rw[hfl]at hl|-
  rw[Jd,JH]at hc|-
  rcases hc with rfl|rfl
  ·cases hG
  ·rw[YA,Ky]at hl
   exact⟨k,rfl,rfl,GrowV.new rfl (.inr rfl) (fun y hy=>hw y (Vf _ hy)) hl.1 rfl⟩
end Go.AM
namespace Go.Proofs.YtgiadjbiimkbiaaGreatDoor
open Go.AM
open Go.Proofs
open Go.Col (Str FaultC okF)
open Go.Tok (TokC)
open Go.Stm
open Go.RowKit (Below)
set_option maxRecDepth 100000
structure CpG where
 m:Nat
 qs:List (PhrC×AVal)
 H:AHeap
theorem ph_clip{wz:World}{h:AHeap}{v:AVal}{l:List PhrC}(hp:PhV wz h v l):PhV wz h (ZA v) l:=by
 obtain⟨qs,a,b,c⟩:=hp;exact⟨qs,a,b.clip,c⟩
theorem bd_clip{wz:World}{S:AVal->List StC->Prop}{h:AHeap}{v:AVal}{l:List BodC}(hp:BdV wz S h v l):BdV wz S h (ZA v) l:=by
 obtain⟨qs,a,b,c⟩:=hp;exact⟨qs,a,b.clip,c⟩
set_option maxHeartbeats 16000000 in
theorem k_stmC(wz:World)(hm:MaxL wz)(ha:Asp wz)(l:List TokC)(hl:l.length<=65537)(hsh:Short l)(dd:Nat)(hdd:dd<=32)(B:AHeap)(kp ks k4:Nat)(v:AVal)(O0:List Str)(bd ph:Str)(i:Nat)(hF:Fair O0)(hO:O0.length+1=dd)(hvi:isV l i=true)
 (hfo:Qo (l.getD i noT).text=(ph,bd)) (H:AHeap) (ov pv bv:AVal) (op pp tp bp E:AHeap) (c:Cur) (cl:Bool) (j:Nat) (hI:StI wz l B kp ks k4 qfh v ov pv bv op pp tp bp E (O0++[bd]) (32-dd) c j H) (hij:i<j) (hR:LoopRO l dd (O0++[bd]) ph (qck l i) (i+1) (.ok (c,cl) j)):
 Awp Tryz.prog wz ⟨201,[],GP wz 201 [] [] (qmD B fun f=>StRO l dd O0 i (.bad f))⟩ (Uk 9 (qkC (Uk 1 (qdG Tryz.f51)))) (qgd (qdN Tryz.prog wz [.cell 4 82] (StmOut wz l B kp v O0 dd i))) [(0, .ptr (.own kp) 0),(4, .ptr (.own k4) 0),(5, .int .i64 i),(6, .ptr (.own ks) 0),(9, .bool cl)] (H):=by
 obtain⟨hS,hP,hC,hfew⟩:=hI;have eb_p:H kp=some _:=hS.at_ (i:=1) rfl;have eb_s:H ks=some _:=hS.at_ (i:=3) rfl;have ne_p_s:kp≠ks:=hS.ne (i:=1) (j:=3) rfl rfl (by decide);have hs_H:Sub B H:=hS.in_ (i:=0) rfl;have hv:=hP.toks;have hlv:=hv.live;have hjl:=hP.at_;have hopn:=hP.open_;have hos:IsStrs wz H ov (O0++[bd]):=hopn.isL (hS.in_ (i:=2) rfl);have nos:=qbL hos;have hsl:=fun k:IntKind=>qnh (k:=k) hos (n:=O0.length) (by rw[Jd];omega);rw[Jd,JH]at nos;rw[JK]at hopn;obtain⟨ko,rfl,rfl,hov2⟩:=hopn.open_ hP.isG;rw[Jp]at hov2 eb_p hS nos hsl;obtain⟨ov2,hove⟩:∃ov2,ov2=AVal.slice (.own ko) 0 O0.length (.grow 1):=⟨_,rfl⟩
 have hsl2:∀k:IntKind,Ws Tryz.prog 22 (.slice (.own ko) 0 (O0.length+1) (.grow 1)) none (some (.int k O0.length)) none=⟨True,ov2⟩:=fun k=>by rw[hsl k,hove];rfl
 rw[<-hove]at hov2;have ne_p_o:kp≠ko:=hS.ne (i:=1) (j:=2) rfl rfl (by decide);have hol:=hov2.live;have hwo:IntKind.i64.wrap (((O0.length+1:Nat):Int)-1)=(O0.length:Int):=by rw[wrap_i64 (by omega) (by omega)];omega
 obtain⟨hpl,hps,hpc⟩:=hC.pv_ok;obtain⟨hbl,hbs,hbc,nb⟩:=hC.bv_len;change Awp _ _ _ (Code.seq _ _) _ _ _;refine qdH 14 [0,4,5,6,9] mixed (by kernel_rfl) (by rfl) (by rfl) fun K hK=>?_;simp+decide only[Yz,qO,Qm,Xg,UC,↓qc,↓Qg,↓qg,qjw,↓qj,qd ag22,↓Qr,Xp Tryz.underlying22,↓qf,Ql eb_p,hwo];try simp+decide only[YI,Xg,Wz,qay,↓qaz,evO,pSlice_gr Tryz.underlying22 sz9,qov,bndA_none,↓Qg,↓qg,qjw]
 repeat (with_reducible refine zqP ?_)
 refine qN (v:=ov2) (by rfl) (by rw[hove];show AVal.slice (.own ko) _ _ _=AVal.slice _ _ _ _;congr 1;all_goals simp) eb_p sz22 hol (by rw[hov2.cells];rfl) (by simp only[Xo];omega) (Js _) (by rw[hov2.cells];simp[Qu,hov2.scal]) ?_;simp only[XE,WN,hov2.cells];simp+decide only[qR];apply hK;clear hK K;refine qo ?_;refine Awp.trunc (k:=ko) (cs:=(O0.map strC).flatten) (xs:=strC bd) ((Vi _ _ ne_p_o.symm).trans (hS.at_ (i:=2) rfl)) ?_;obtain⟨H25,hH25⟩:∃H25,H25=(H.set kp (parB3 v j ov2)).set ko ⟨(O0.map strC).flatten,0⟩:=⟨_,rfl⟩
 refine BO (h':=H25) (by rw[hH25];exact Vk _) ?_;have hS1:=(hS.put (i:=1) rfl (parB3 v j ov2)).put (i:=2) rfl ⟨(O0.map strC).flatten,0⟩;rw[<-hH25]at hS1;simp only[XE]at hS1;have eb_p:H25 kp=some _:=hS1.at_ (i:=1) rfl;have eb_s:H25 ks=some _:=hS1.at_ (i:=3) rfl;have hs_H25:Sub B H25:=hS1.in_ (i:=0) rfl;refine awp_rseq [0,4,5,6,171] (by rfl) fun K hK=>?_;simp+decide only[Qw,Vz,Xa,↓qj,Qa qiH UJ,↓qc,Ql eb_s,Nat.reduceAdd,hpl,hbl];refine qM (by rfl) (by rfl) (c_whole wz ha _ c pv bv (32-dd) cl (qpd hC (hS1.in_ (i:=4) rfl) (hS1.in_ (i:=5) rfl) (hS1.in_ (i:=7) rfl)) (qpe hC (hS1.in_ (i:=6) rfl) (hS1.in_ (i:=7) rfl)) (by have:=hfew.2.2;omega) (few_ph hC hfew (by omega))) fun x25q2 h25q2 hx25q2=>?_;obtain⟨rfl,hs25⟩:=hx25q2;have hS2:=hS1.forget hs25;have hs_h25q2:Sub B h25q2:=Bt zqC hs25;have hr_h25q2:Sub H25 h25q2:=Bt zqC hs25;have eb_p:=hs25 kp _ zqA;have eb_s:=hs25 ks _ zqA;simp+decide only[Zg,UB,Yc,↓qiG];apply hK;clear hK K;refine qz (b:=_) rfl (fun hb1=>?_) (fun hb1=>?_)
 ·try simp only[qG]at hb1
  refine YF 2 (by rfl) (by rfl) ?_;simp only[Zu];simp+decide only[Qw,↓qc];refine⟨⟨_,_,by rfl,?_⟩,by intro i;first|trivial|exact .inr trivial|exact .inr rfl⟩;exact(qeI wz _ B kp v ov2 l j 4 i zqA zqB hv (by omega) (by omega)).mono (fun _ _ q=>q) fun x h' ⟨q1,q2⟩=>⟨_,StR.part (by omega) (by rw[hfo];exact hR) hb1,q1,Bt (by assumption) q2⟩
 ·try simp only[qG]at hb1
  refine qE ?_;change Awp _ _ _ _ _ _ _;refine qo ?_;obtain⟨qs0,w,ts,tv,hph,hg0,hgt,hqE⟩:=hC.ph;obtain⟨kh,ch,rfl,hch,rfl⟩:=qgh hg0;have hS3:=(Sep.fold (ps:=[tp,E]) (hS2.pick [5,7,0,1,2,3,4,6,8] (by decide) (by simp))).pick [1,2,3,4,5,6,0,7] (by decide) (by simp);have hu:=Xl (ps:=[tp,E]) (hS2.pick [5,7] (by decide) (by simp)).2;obtain⟨E',hE'⟩:∃E',E'=YY [tp,E]:=⟨_,rfl⟩
  rw[<-hE']at hS3 hu;obtain⟨q0,hq0⟩:∃q0,q0=qs0++[((⟨w,ts⟩:PhrC),tv)]:=⟨_,rfl⟩
  have hq1:q0.map (·.1)=c.phrases:=by rw[hq0,hph,JK];rfl
  have hq2:∀q∈q0,IsL wz E' 5 q.2 (q.1.toks.map Zb):=fun q hq=>by
   rw[hq0]at hq;rcases JX.1 hq with z|z
   ·exact(hqE q z).mono (hu E (by simp))
   ·rw[V9.1 z];exact hgt.isL (hu tp (by simp))
  have hqn:q0.length=qs0.length+1:=by rw[hq0,Jd];rfl
  have hqf:(qs0.map phC).flatten++[AVal.str w,tv]=(q0.map phC).flatten:=by rw[hq0];simp[phC]
  rw[hqf]at hS3;rw[<-hqn]at hpl hps hpc hch eb_s hS3;have nq0:∀H:AHeap,Ze Tryz.prog H 79 (.slice (.own kh) 0 q0.length ch)=⟨True, .int .i64 q0.length⟩:=fun H=>by
   have:=(hg0.isL (wz:=wz) (Vk _)).len Tryz.underlying79 H
   rwa [Jd,Jp,JH,<-hqn]at this
  have hqs:q0.length<=l.length:=by rw[hqn];have:=hfew.1;rw[hph,Jd,Jp,JH]at this;omega
  refine awp_rseq [4,6,176,177,178] (by rfl) fun K hK=>?_;simp+decide only[ZU,Qm,↓qg,YR,↓qj,qd qec,↓Qr,Xp Tryz.underlying79,↓qc,Ql eb_s,hpl];apply hK;clear hK K;refine qK ?_;refine QD [4,6,176,177,178] (fun g:CpG=>[(4, .ptr (.own k4) 0),(6, .ptr (.own ks) 0),(176, .slice (.own kh) 0 q0.length ch),(177, .int .i64 q0.length),(178, .int .i64 g.m)]) (fun g:CpG=>g.H) (fun g:CpG=>g.m<=q0.length/\g.qs.length=q0.length/\g.qs.map (·.1)=c.phrases/\(∀q∈g.qs,IsL wz E' 5 q.2 (q.1.toks.map Zb))/\Sep [B,one kp (parB3 v j ov2),one ko ⟨(O0.map strC).flatten,0⟩,one ks (curB c (.slice (.own kh) 0 q0.length ch) bv),one kh ⟨(g.qs.map phC).flatten,0⟩,bp,E',one k4 qfh] g.H) (fun g:CpG=>q0.length-g.m) ⟨0,q0,_⟩ (by rfl) (Vk _) ⟨Js _,rfl,hq1,hq2,hS3⟩ ?_;rintro⟨m,qm,H⟩ ⟨hm1,hm2,hm3,hm4,hS⟩;simp only at hm1 hm2 hm3 hm4 hS|-
  have eb_s:H ks=some _:=hS.at_ (i:=3) rfl;have hs_H:Sub B H:=hS.in_ (i:=0) rfl;refine awp_rseq [4,6,176,177,178,179] (by rfl) fun K hK=>?_;simp+decide only[Zp,YT,↓qf];apply hK;clear hK K;refine qo (qz (b:=_) rfl (fun hb2=>?_) (fun hb2=>?_))
  ·try simp only[qG]at hb2
   have hmm:m<qm.length:=by omega
   have hqm:GrowV 2 (.slice (.own kh) 0 q0.length ch) (one kh ⟨(qm.map phC).flatten,0⟩) (qm.map phC):=by
    refine GrowV.new (by rw[Jp,hm2]) hch qfm (WB.2 fun x hx=>?_) rfl;obtain⟨q,hq,rfl⟩:=JM.1 hx;show(true && (q.2.live && true))=true
    rw[(hm4 q hq).live];rfl
   obtain⟨q,hqe⟩:∃q,q=qm.getD m qfp:=⟨_,rfl⟩
   have hqmem:q∈qm:=by rw[hqe,Ko,JD hmm];exact VY hmm
   have hqL:=hqm.isL (wz:=wz) (hS.in_ (i:=4) rfl);rw[<-hm2]at hqL;obtain⟨e0,e1⟩:=qfl hqL hmm;rw[<-hqe,Jr]at e0 e1;have hqt:=(hm4 q hqmem).mono (hS.in_ (i:=6) rfl);have hql:=hqt.live;have hqs1:=hqt.scal;have hqc:=hqt.cells;have hck:=hqt.clip;have hckl:=hck.live;have hcks:=hck.scal;have hckc:=hck.cells;have eb_h:H kh=some _:=hS.at_ (i:=4) rfl;have ne_s_h:ks≠kh:=hS.ne (i:=3) (j:=4) rfl rfl (by decide);have hset:setAt (qm.map phC).flatten (m*2+1) [ZA q.2]=((qm.set m (q.1,ZA q.2)).map phC).flatten:=by
    rw[qlS [ZA q.2] qfm m 1 (by rw[Jp];exact hmm) (by simp),BV];congr 2;rw[getD_map qfp hmm,<-hqe];rfl
   have hwm:IntKind.i64.wrap ((m:Int)+1)=((m+1:Nat):Int):=by rw[wrap_i64 (by omega) (by omega)];omega
   have hmq:((m:Int)<(q0.length:Int))=True:=eq_true (by omega);have hml:(qm.map phC).flatten.length=qm.length*2:=qew qm;refine qE ?_;change Awp _ _ _ _ _ _ _;refine qo ?_;refine qK ?_;refine awp_rseq [4,6,16,17,176,177,178] (by rfl) fun K hK=>?_;simp+decide only[Qw,Vz,Xa,QN,↓qc,↓qI,qh Tryz.underlying79 qcH,↓qj,Qa ag84 qcH,e0,e1,hql];repeat (with_reducible refine zqP ?_)
   refine Qz ze84 (cs:=[.str [], .nilSlice]) (by rfl) fun k29q3 hk29q3=>?_;have hn_29q3:H k29q3=none:=by first|assumption|(simp only[Bi]at hk29q3;simp only[hk29q3])
   have hf_29q3:B k29q3=none:=Bj hs_H hn_29q3;have ne_29q3_s:k29q3≠ks:=Bl hn_29q3 eb_s;simp+decide only[qJ,Vz,QN,↓qa];refine qN (by rfl) (by rfl) zqA qcH (by rfl) (by rfl) zqD (Js _) (by first|rfl|(simp+decide only[ZJ,Qu,hqs1,ZM])) ?_;simp only[QZ,Bn];simp+decide only[Zg,QN];apply hK;clear hK K;refine qgU 8 mixed (by kernel_rfl) (by rfl) ?_;simp only[Zu,VU,Vp];simp+decide only[Qw,Xm,QN,ZN,↓Yk,YR,↓qek,qd qec,↓qof,qcj,qd qcn,ne_29q3_s.symm,Ql eb_s,hql];refine qcG (V:=ZA q.2) (by rfl) (by rfl) (qme wz _ q.2 _ (hqt.mono zqB)) ?_;simp+decide only[YI,QN,Zj,↓qhz,qh Tryz.underlying79 qcH,↓Yk,qcj,hmq];repeat (with_reducible refine zqP ?_)
   refine qN (v:=ZA q.2) (by rfl) (by rfl) ((Vi _ _ (Bl hn_29q3 eb_h).symm).trans eb_h) sz39 hckl (by rw[hckc];rfl) (by simp only[Xo];omega) (Js _) (by rw[hckc];simp[Qu,hcks]) ?_;simp only[hckc,hset];simp+decide only[qR,QN];change Awp _ _ _ _ _ _ _;refine QK [4,6,176,177,178] (by rfl) ?_;simp+decide only[QH,ZE,↓qf,↓qc,hwm];try simp only[QT]
   refine⟨⟨m+1,qm.set m (q.1,ZA q.2),(H.set k29q3 ⟨[.str q.1.words,q.2],0⟩).set kh ⟨((qm.set m (q.1,ZA q.2)).map phC).flatten,0⟩⟩,rfl,Vk _,⟨by simp only;omega,by simp only;rw[BI];exact hm2,?_,fun x hx=>?_,?_⟩,by simp only;omega⟩
   ·simp only
    rw[BV,<-hm3];have:(qm.map (·.1))[m]?=some q.1:=by
     rw[List.getElem?_map,JD hmm];have:qm[m]=q:=by rw[hqe,Ko,JD hmm];rfl
     rw[this];rfl
    refine List.ext_getElem? fun x=>?_;rw[K5];by_cases z:m=x
    ·subst z
     rw[if_pos rfl,if_pos (by rw[Jp];exact hmm),this]
    ·rw[if_neg z]
   ·rcases BU hx with z|z
    ·exact hm4 x z
    ·rw[z];exact(hm4 q hqmem).clip
   ·have hSa:=(hS.lay hn_29q3 ⟨[.str q.1.words,q.2],0⟩).put (i:=4) rfl ⟨((qm.set m (q.1,ZA q.2)).map phC).flatten,0⟩
    exact hSa.pick [0,1,2,3,4,5,6,7] (by decide) (by simp)
  ·try simp only[qG]at hb2
   have hmm:m=q0.length:=by omega
   have hqm:GrowV 2 (.slice (.own kh) 0 q0.length ch) (one kh ⟨(qm.map phC).flatten,0⟩) (qm.map phC):=by
    refine GrowV.new (by rw[Jp,hm2]) hch qfm (WB.2 fun x hx=>?_) rfl;obtain⟨q,hq,rfl⟩:=JM.1 hx;show(true && (q.2.live && true))=true
    rw[(hm4 q hq).live];rfl
   have hu2:=Xl (ps:=[one kh ⟨(qm.map phC).flatten,0⟩,bp,E']) (hS.pick [4,5,6] (by decide) (by simp)).2;obtain⟨E2,hE2⟩:∃E2,E2=YY [one kh ⟨(qm.map phC).flatten,0⟩,bp,E']:=⟨_,rfl⟩
   rw[<-hE2]at hu2;have hS4:=(Sep.fold (ps:=[one kh ⟨(qm.map phC).flatten,0⟩,bp,E']) (hS.pick [4,5,6,0,1,2,3,7] (by decide) (by simp))).pick [1,2,3,4,0,5] (by decide) (by simp);rw[<-hE2]at hS4;have hpF:PhV wz E2 (.slice (.own kh) 0 q0.length ch) c.phrases:=⟨qm,hm3.symm,hqm.isL (hu2 _ (by simp)),fun q hq=>(hm4 q hq).mono (hu2 E' (by simp))⟩
   have hbF:BdV wz (StsV wz (32-dd) E2) E2 bv c.bodies:=by
    obtain⟨bs,p1,p2,p3⟩:=hC.bd;exact⟨bs,p1,p2.isL (hu2 bp (by simp)),fun b hb=>⟨(p3 b hb).1.mono ((hu E (by simp)).trans (hu2 E' (by simp))),(p3 b hb).2.mono ((hu E (by simp)).trans (hu2 E' (by simp)))⟩⟩
   have hpH:=hpF.mono (hS4.in_ (i:=4) rfl);obtain⟨qb,hqb1,hqb2,hqb3⟩:=id (hbF.mono (S':=StsV wz (32-dd) H) (hS4.in_ (i:=4) rfl) fun _ _=>StsV.mono (hS4.in_ (i:=4) rfl));obtain⟨qp,hqp1,hqp2,hqp3⟩:=id hpH;have hcp:=hqp2.clip;have hcb:=hqb2.clip;have hcpl:=hcp.live;have hcbl:=hcb.live;have eb_4:H k4=some _:=hS4.at_ (i:=5) rfl;have ne_s_4:ks≠k4:=hS4.ne (i:=3) (j:=5) rfl rfl (by decide);refine QC ?_;change Awp _ _ _ _ _ _ _;refine qgS 7 [4,6] mixed (by kernel_rfl) (by rfl) fun K hK=>?_;simp only[Zu,VU,Vp];simp+decide only[YI,ZN,↓Yk,YR,↓qek,qd qec,Ql eb_s,hpl];refine qcG (V:=ZA (.slice (.own kh) 0 q0.length ch)) (by rfl) (by rfl) (c_clipPh wz _ _ _ hqp2) ?_;simp+decide only[YI,ZN,↓Yk,Wh,↓qek,qd qeb,Ql eb_s,hbl];refine qcG (V:=ZA bv) (by rfl) (by rfl) (c_clipBd wz _ _ _ hqb2) ?_;simp+decide only[YI,↓Yk,YR];refine qN (v:=ZA (.slice (.own kh) 0 q0.length ch)) (by rfl) (by rfl) eb_s sz79 hcpl (by rw[hcp.cells];rfl) (by simp only[Xo];omega) (Js _) (by rw[hcp.cells];simp[Qu,hcp.scal]) ?_;simp only[XE,WN,hcp.cells];simp+decide only[YI,↓qg,Wh];refine qN (v:=ZA bv) (by rfl) (by rfl) (Vj _ _ _) sz80 hcbl (by rw[hcb.cells];rfl) (by simp only[Xo];omega) (Js _) (by rw[hcb.cells];simp[Qu,hcb.scal]) ?_;simp only[XE,WN,hcb.cells,Bn];simp+decide only[qR];apply hK;clear hK K;refine awp_rseq [4] (by rfl) fun K hK=>?_;simp+decide only[Zg,Xa,↓qj,Qa qiH UJ,Nat.reduceAdd,hcpl,hcbl];refine qN (v:= .agg [.str c.verb, .int .i64 c.line, .int .i64 c.col,ZA (.slice (.own kh) 0 q0.length ch),ZA bv]) (by rfl) (by rfl) ((Vi _ _ ne_s_4.symm).trans eb_4) UJ (by simp+decide only[J8,allLive,qjl,qlH,qoD]) (by rfl) (by simp only[AVal.cells,Xo,qfh];omega) (Js _) (by show(true && (true && (true && ((ZA (.slice (.own kh) 0 q0.length ch)).scal && ((ZA bv).scal && true)))))=true;rw[hcp.scal,hcb.scal];rfl) ?_;simp only[QZ,qfh,Nat.reduceAdd];simp+decide only[Zg];apply hK;clear hK K;refine qV ?_;try simp only[Xz,qrz]
   refine Qk (?_) ?_
   ·simp+decide only[qeJ,ev,J8,and_true,true_and,ne_eq,not_false_eq_true,Qt,cellsAt,qeK,Vz,ZV,qaC,Wp,Qa qiH UJ,Nat.reduceAdd,Nat.reduceAdd,hcpl,hcbl]
   simp+decide only[Zg,ZV,qaC,qhc,Qa qiH UJ,Nat.reduceAdd,Nat.reduceAdd,hcpl,hcbl];have hS6:=((hS4.put (i:=3) rfl ⟨[.str c.verb, .int .i64 c.line, .int .i64 c.col,ZA (.slice (.own kh) 0 q0.length ch),ZA bv],0⟩).put (i:=5) rfl ⟨[.str c.verb, .int .i64 c.line, .int .i64 c.col,ZA (.slice (.own kh) 0 q0.length ch),ZA bv],0⟩).pick [0,1,2,4] (by decide) (by simp);exact⟨_,Vk _,hdd,c.done,j,ov2,one ko ⟨(O0.map strC).flatten,0⟩,E2,ZA (.slice (.own kh) 0 q0.length ch),ZA bv,StR.ok (by omega) (by rw[hfo];exact hR) hb1,hij,rfl,ph_clip hpF,bd_clip hbF,⟨hv,hov2,by rw[hove];rfl,hjl⟩,hS6⟩
theorem k_stm(wz:World)(hm:MaxL wz)(ha:Asp wz)(l:List TokC)(hl:l.length<=65537)(hsh:Short l)(dd:Nat)(hdd:dd<=33)(hd0:0<dd)(hli:dd<=32->qoa wz l (dd+1)):StmK wz l dd:=
 k_stmA wz l hl dd hdd fun hd32 H B kp ks k4 v ov pv bv op pp tp bp E O i hI hF hO hvi=>by
  have hfair:=qlP (l.getD i noT).text;refine k_stmB wz hm ha l hl hsh dd hd32 hd0 (k_body wz hm ha l hl hsh dd hd32 hd0 (hli hd32)) B kp ks k4 qfh v (O++[(Qo (l.getD i noT).text).2]) O _ _ i _ _ (hF.snoc _) (by rw[Jd,JH];exact hO) (by rw[BQ,List.getLast?_concat];rfl) hfair.1.1 hfair.1.2 (fun f hf=>StR.bad (by omega) hf) ov pv bv op pp tp bp E H hI fun H ov pv bv op pp tp bp E c cl j hI hij hR=>?_;exact k_stmC wz hm ha l hl hsh dd hd32 B kp ks k4 v O _ _ i hF hO hvi rfl H ov pv bv op pp tp bp E c cl j hI hij hR
theorem k_all(wz:World)(hm:MaxL wz)(ha:Asp wz)(l:List TokC)(hl:l.length<=65537)(hsh:Short l):∀n dd:Nat,dd+n=33->0<dd->qoa wz l dd
 |0,dd,hn,h0=>k_list wz hm l hl hsh dd (by omega) (k_stm wz hm ha l hl hsh dd (by omega) h0 fun h=>by omega)
 |n+1,dd,hn,h0=>k_list wz hm l hl hsh dd (by omega) (k_stm wz hm ha l hl hsh dd (by omega) h0 fun _=>k_all wz hm ha l hl hsh n (dd+1) (by omega) (by omega))
theorem c_list(wz:World)(hm:MaxL wz)(ha:Asp wz)(l:List TokC)(hl:l.length<=65537)(hsh:Short l):qoa wz l 1:=k_all wz hm ha l hl hsh 32 1 (by omega) (by omega)
end Go.Proofs.YtgiadjbiimkbiaaGreatDoor
namespace Go.AM
section
variable {P:Program}
theorem Leaves.mono{fn:Func}{tmps:Array Value}{R R':Ending->World->Prop}(hr:∀e w,R e w->R' e w):∀{ds:List Deferred} {u:FrameMode} {w:World},Leaves P fn tmps R ds u w->Leaves P fn tmps R' ds u w
 |[], .returning,w,⟨v,h1,h2⟩=>⟨v,h1,hr _ _ h2⟩
 |[], .panicking ch,w,h=>hr _ _ h
 |[], .run,w,h=>h
 |d::ds,u,w,⟨hu,fv,cap,f,args,h1,h2,h3⟩=>⟨hu,fv,cap,f,args,h1,h2,h3.mono fun e u' w' q=>by
   cases e with
   |returned v=>exact Leaves.mono hr q
   |panicked ch=>exact Leaves.mono hr q
   |outgrown=>exact hr _ _ q⟩
theorem qmk{fn:Func}{R R':Ending->World->Prop}(hr:∀e w,R e w->R' e w){e:Exit}{a:Act}{w:World}(h:bodyPostD P fn R e a w):bodyPostD P fn R' e a w:=by
 cases e<;>simp only[bodyPostD]at h|- <;>first
  |exact h.elim
  |exact Leaves.mono hr h
  |exact hr _ _ h
end
def RetR(wz:World)(R:AVal->AHeap->Prop)(Ps:PMap):Ending->World->Prop:=fun e w'=>∃v,e= .returned v/\∃χ x h',Ps.le χ/\HRel wz χ h' w'/\VR χ x v/\R x h'
theorem RetR.up{wz:World}{R:AVal->AHeap->Prop}{fi Ps:PMap}(hl:fi.le Ps){e:Ending}{w:World}(h:RetR wz R Ps e w):RetR wz R fi e w:=by
 obtain⟨v,h1,χ,x,h',h2,h3⟩:=h;exact⟨v,h1,χ,x,h',JR hl h2,h3⟩
def GC(P:Program)(wz:World)(fn:Func)(R:AVal->AHeap->Prop):Exit->PMap->Act->World->Prop:=fun e Ps a w=>bodyPostD P fn (RetR wz R Ps) e a w
theorem acall_putC{P:Program}{wz:World}{f:FuncId}{args:List AVal}{h:AHeap}{R:AVal->AHeap->Prop}{fn:Func}{c:Code}{rs:List ResultVar}{k:Nat}(hf:P.funcs[f]?=some fn)
 (hname:(fn.name== "runtime.NumGoroutine")=false) (hb:fn.body=some c) (hn:fn.ntmps=k) (hrs:fn.results=rs.toArray) (hargs:args.length<=k)
 (hc:Awp P wz ⟨k,[],GC P wz fn R⟩ c (fun _ _ _=>False) (qU 0 args) h):ACall P wz f args h R:=by
 intro fi vals w hr hv;refine .inl ⟨fn,hf,hname,by rw[hb];rfl,?_⟩;have hl:=XA hv;refine calls_of_wp_defers hf hb (wp_mono (hc fi _ w hr ⟨?_,rfl,fun i=>?_⟩) fun e a' w' q=>?_)
 ·simp[hn]
  omega
 ·have:=(qbO fi args vals 0 i hv).2 undef (Js i)
  by_cases hi:i<vals.length
  ·have e:(vals.toArray++Jw (fn.ntmps-vals.toArray.size) undef).getD i undef=vals.getD i undef:=by
    simp[Ku,Jy,hi,Ko]
   rw[e];simpa using this
  ·have e:(vals.toArray++Jw (fn.ntmps-vals.toArray.size) undef).getD i undef=undef:=by
    simp[Ku,Jy,hi,Bd];split<;>simp
   rw[e];have e2:vals.getD (i-0) undef=undef:=by simp[Ko,Kr (Kt hi)]
   rw[e2]at this;exact this
 ·rcases q with⟨_,_,_,_,_,_,q⟩|⟨_,Ps,hl1,q⟩
  ·exact q.elim
  ·exact qmk (fun e w q=>q.up hl1) q
def dOf(f:FuncId)(vs:List Value):Deferred:={target:= .fn (.func f) vs.toArray,args:= #[]}
def retQ(P1:Slots->AHeap->Prop):Exit->Slots->AHeap->Prop
 | .ret,s,h=>P1 s h
 |_,_,_=>False
theorem awp_put_fn{P:Program}{wz:World}{k id:Nat}{l pre:List Oper}{x:Operand}{ts:Array TypeId}{ty:TypeId}{pos:String}{af:Array Edge}{rest:Code}{s s₀:Slots}{h:AHeap}{fn:Func}{R Rp:AVal->AHeap->Prop}{P1:Slots->AHeap->Prop}{f:FuncId}{cap:List AVal}
 (hl:l=pre++[⟨none, .defer ⟨.value x,#[],ts⟩,ty,pos,af,none⟩]) (hd:Qv k l=true)
 (hc:Qp P wz l pre s h (fun s' h'=>ev s' x= .func f cap/\∀d,Awp P wz ⟨k,[d],GP wz k [d] s₀ Rp⟩ rest (retQ P1) s' h'))
 (hret:∀(Ps:PMap) (vs:List Value) (s':Slots) (h':AHeap) (a:Act) (w:World) (G:Exit->PMap->Act->World->Prop),VRs Ps cap vs->HRel wz Ps h' w->SRel Ps ⟨k,[dOf f vs],G⟩ s' a->P1 s' h'->Leaves P fn a.tmps (RetR wz R Ps) [dOf f vs] .returning w)
 (hpan:∀(Ps:PMap) (vs:List Value) (v:Value) (y:AVal) (h':AHeap) (a:Act) (w:World) (G:Exit->PMap->Act->World->Prop),VRs Ps cap vs->HRel wz Ps h' w->VR Ps y v->Rp y h'->SRel Ps ⟨k,[dOf f vs],G⟩ s₀ a->Leaves P fn a.tmps (RetR wz R Ps) [dOf f vs] (.panicking [{v,recovered:=false}]) w):
 Awp P wz ⟨k,[],GC P wz fn R⟩ (.seq (.region id l.toArray false) rest) (fun _ _ _=>False) s h:=by
 have hdp:Qv k pre=true:=by
  have:∀(p q:List Oper),Qv k (p++q)=true->Qv k p=true:=by
   intro p q hp;induction p with
   |nil=>rfl
   |cons o p ih=>
    simp only[Ky,Kh,Qv]at hp|-
    exact⟨hp.1,ih hp.2⟩
  exact this pre _ (hl ▸ hd)
 intro fi a w hr hs;refine wp_seq (wp_region ?_);rw[KC,Be];have hlen:l.length=pre.length+1:=by rw[hl];simp
 rw[hlen,List.range'_concat];refine qed (P:=P) (wz:=wz) l ⟨k,[],GC P wz fn R⟩ _ hd pre 0 fi s h a w _ _ (fun j hj=>by rw[hl,Jr,Bg hj]) hdp hc hr hs ?_;intro Ps s' h' a' w' hle hr' hs' ⟨em,hk⟩;have hat:l.toArray[0+1*pre.length]?=some ⟨none, .defer ⟨.value x,#[],ts⟩,ty,pos,af,none⟩:=by
  rw[Jr,Nat.one_mul,hl];simp
 simp only[wpOps,hat];rw[if_pos (by simp[Region.wanted])];refine .inl ?_;have hvx:=hs'.ev x;rw[em]at hvx;simp only[VR]at hvx;obtain⟨vs,hfe,hcap⟩:=hvx;have hx:(execOp a'.eval ⟨none, .defer ⟨.value x,#[],ts⟩,ty,pos,af,none⟩).run P w'= .ok (.defer (dOf f vs)) w':=by
  simp[execOp,resolve,hfe,Deferred.ofValue,dOf]
 simp only[Oper.wp,hx,Oper.upon_defer,Act.put,Exit.then];refine wp_mono (hk (dOf f vs) Ps _ w' hr' ⟨hs'.size,by rw[hs'.defers],hs'.val⟩) fun e a'' w'' q=>?_;rcases q with⟨χ,s'',h'',e1,e2,e3,e4⟩|⟨ha,χ,e1,q⟩
 ·cases e<;>simp only[retQ]at e4<;>first
   |exact e4.elim
   |skip
  refine .inr ⟨trivial,χ,JR hle e1,?_⟩;have:=hret χ vs s'' h'' a'' w'' _ (qbo e1 _ _ hcap) e2 e3 e4;simp only[GC,bodyPostD];rw[e3.defers];exact this
 ·obtain⟨v,rfl,χ2,y,h2,g1,g2,g3,g4,g5⟩:=q
  refine .inr ⟨trivial,χ,JR hle e1,?_⟩;have:=hpan χ2 vs v y h2 a'' w'' (fun _ _ _ _=>False) (qbo (JR e1 g1) _ _ hcap) g2 g3 g4 g5;simp only[GC,bodyPostD];rw[g5.defers];exact Leaves.mono (fun e w q=>q.up g1) this
section
variable {P:Program} {wz:World} {n:FrameK} {s:Slots} {h:AHeap} {Q:Exit->Slots->AHeap->Prop}
theorem awp_ta{id d:Nat}{l pre post:List Oper}{x:Operand}{t ti:TypeId}{ty:TypeId}{pos:String}{af:Array Edge}
 (hl:l=pre++⟨some d, .typeAssert x t ti true,ty,pos,af,none⟩::post) (hd:Qv n l=true) (hta:∀(y:Value) (w:World),(Instr.typeAssert (.iface ti y) t ti true).run P w= .ok (.tuple #[y, .bool true]) w)
 (hc:Qp P wz l pre s h (fun s' h'=>∃y,ev s' x= .iface ti y/\Qp P wz l post (putD s' (some d) (.tuple [y, .bool true])) h' (fun s'' h''=>Q .normal s'' h''))):
 Awp P wz n (.region id l.toArray false) Q s h:=by
 have happ:∀(p q:List Oper),Qv n (p++q)=true->Qv n p=true/\Qv n q=true:=by
  intro p q hp;induction p with
  |nil=>exact⟨rfl,hp⟩
  |cons o p ih=>
   simp only[Ky,Kh,Qv]at hp|-
   exact⟨⟨hp.1,(ih hp.2).1⟩,(ih hp.2).2⟩
 have h1:=happ pre _ (hl ▸ hd);have hdx:d<n.sz/\Qv n post=true:=by
  have:=h1.2;simp only[Wy,Qv]at this;exact this
 intro fi a w hr hs;refine wp_region ?_;rw[KC,Be];have hlen:l.length=pre.length+(post.length+1):=by rw[hl];simp
 rw[hlen,<-Bf];refine qed (P:=P) (wz:=wz) l n _ hd pre 0 fi s h a w _ _ (fun j hj=>by rw[hl,Jr,Bg hj]) h1.1 hc hr hs ?_;intro Ps s' h' a' w' hle hr' hs' ⟨y,hy,hk⟩;have hat:l.toArray[0+pre.length]?=some ⟨some d, .typeAssert x t ti true,ty,pos,af,none⟩:=by
  rw[Jr,hl];simp
 rw[Bh];simp only[wpOps,hat];rw[if_pos (by simp[Region.wanted])];refine .inl ?_;have hyv:=hs'.ev x;rw[hy]at hyv;simp only[VR]at hyv;obtain⟨yv,hye,hyy⟩:=hyv;have hx:(execOp a'.eval ⟨some d, .typeAssert x t ti true,ty,pos,af,none⟩).run P w'= .ok (.value (.tuple #[yv, .bool true])) w':=by
  simp[execOp,hye,hta]
 simp only[Oper.wp,hx,Oper.upon_value];have hs2:=hs'.put d hdx.1 (x:= .tuple [y, .bool true]) (v:= .tuple #[yv, .bool true]) (by simp only[VR,VRs];exact⟨_,rfl,_,_,rfl,hyy,_,_,rfl,rfl,rfl⟩);have:=qed (P:=P) (wz:=wz) l n [] hd post (0+pre.length+1) Ps _ h' _ w' _ (AQ wz n fi Q) (fun j hj=>by
  rw[hl,Jr,BN (by omega),show pre.length+1+j-pre.length=j+1 by omega];rfl) hdx.2 hk hr' hs2 (fun χ s'' h'' a'' w'' e1 e2 e3 e4=> .inl ⟨χ,s'',h'',JR hle e1,e2,e3,e4⟩)
 rwa [JG]at this
theorem qdJ{ops:List Oper}{i:Nat}{o:Oper}{fi:PMap}{a:Act}{w:World}{Q:Exit->Act->World->Prop}{K:Act->World->Prop}(ho:ops[i]?=some o)(hg:o.guard=none)(hd:(match o.dst with|some d=>decide (d<n.sz)|none=>true)=true)
 (hp:(pop P wz h s o.op).pre) (hr:HRel wz fi h w) (hs:SRel fi n s a) (hK:∀a',SRel fi n (putD s o.dst (pop P wz h s o.op).val) a'->K a' w):wpOp P ops.toArray Q i K a w:=by
 obtain⟨r,h1,h2⟩:=qjf o hp hr hs;have hx:=h1 w (Same.refl w);have ho':ops.toArray[i]?=some o:=by simpa using ho
 unfold wpOp;simp only[ho'];rw[if_pos (by simp[Region.wanted,hg])];refine .inl ?_;unfold Oper.wp;rw[hx,Oper.upon_value];exact hK _ (hs.putD hd h2)
end
end Go.AM
namespace Go.Proofs.YtgiadjbiimkbiaaGreatDoor
open Go.AM
open Go.Proofs
open Go.Col (Str FaultC okF)
open Go.Tok (TokC)
open Go.Stm
open Go.RowKit (Below)
set_option maxRecDepth 100000
theorem catch_idle(p q:Addr)(w:World):CallsD Tryz.prog 28 #[.pointer (some p), .pointer (some q)] .returning w fun e u' w'=>e= .returned (.tuple #[])/\u'= .returning/\w'=w:=by
 refine callsD_of_wpS Tryz.func28 rfl fun c₀ cs hu=>?_;apply wpS_seq;apply wpS_region;simp[wpOpsS,go_sem,recoverD,hu,Tryz.ntmps28,Exit.thenS];apply wpS_seq;apply wpS_region;simp[wpOpsS,go_sem,Exit.thenS];refine wpS_cond (t:=false) (by simp[Act.eval,Jw]) ?_;simp only[if_false,KX];refine wpS_of_wp (wp_skip ?_);cases c₀
 simp_all [bodyPostS,results,Tryz.results28]
def ClosR(B:AHeap)(k2 k3:Nat)(f:FaultC):AVal->AHeap->Prop:=fun r h'=>r= .tuple []/\h' k2=some ⟨[.nilSlice],0⟩/\h' k3=some ⟨[.int .i64 f.e, .int .i64 f.line, .int .i64 f.col],0⟩/\Sub B h'
theorem l_clos(wz:World)(H B:AHeap)(k2 k3:Nat)(hB:Sub B H)(hB2:B k2=none)(hB3:B k3=none)(b2 b3:AVal)(y1 y2 y3:AVal)(f:FaultC)(eb_2:H k2=some ⟨[b2],0⟩)(eb_3:H k3=some ⟨[y1,y2,y3],0⟩)(ne_2_3:k2≠k3):
 Awp Tryz.prog wz 11 (Uk 1 (qdG Tryz.f28)) (qdN Tryz.prog wz [] (ClosR B k2 k3 f)) [(0, .ptr (.own k2) 0),(1, .ptr (.own k3) 0),(2, .iface 48 (faultV f))] (H):=by
 have hs_H:Sub H H:=Vk _;change Awp _ _ _ (Code.seq _ _) _ _ _;refine awp_rseq [0,1,2,5] (by rfl) fun K hK=>?_;simp+decide only[Qw,qaf,cond_true,↓qc,↓qf,isNilC_nil,qto Tryz.underlying20,faultV];apply hK;clear hK K;refine qz (b:=_) rfl (fun hb1=>?_) (fun hb1=>?_)
 ·try simp only[qG]at hb1
  refine awp_rseq [1,2] (by rfl) fun K hK=>?_;refine qN (by rfl) (by rfl) zqA qsV (by rfl) (by rfl) zqD (Js _) (by rfl) ?_;simp only[QZ];simp+decide only[qR];apply hK;clear hK K;refine awp_ta (qiF (i:=1) (by rfl)) (by rfl) (fun y w=>?_) ?_
  ·simp[Instr.typeAssert,qH Tryz.underlying48]
  simp only[Zu,VU,Vp];simp+decide only[Zo,Ul,Qt,Slots.keep,List.getD_cons_zero,List.getD_cons_succ,qbV,Xo,Xi,↓qc,↓Xr];refine⟨_,rfl,?_⟩;refine⟨(by show(0:Nat)<2;decide),(by show(1:Nat)<2;decide),?_⟩;refine qN (v:= .agg [.int .i64 f.e, .int .i64 f.line, .int .i64 f.col]) (by rfl) (by rfl) ((Vi _ _ ne_2_3.symm).trans eb_3) UF (by rfl) (by rfl) (by simp only[AVal.cells,Xo];omega) (Js _) (by rfl) ?_;simp only[QZ,Nat.reduceAdd];rw[Qt];exact⟨qC,_,Vk _,rfl,(Vi _ _ ne_2_3).trans (Vj _ _ _),Vj _ _ _,(hB.off hB2 _).off hB3 _⟩
 ·cases hb1
theorem catch_bad(wz:World)(fi:PMap)(w:World)(H B:AHeap)(k2 k3:Nat)(hB:Sub B H)(hB2:B k2=none)(hB3:B k3=none)(b2 b3:AVal)(y1 y2 y3:AVal)(f:FaultC)(p2 p3 vf:Value)(eb_2:H k2=some ⟨[b2],0⟩)(eb_3:H k3=some ⟨[y1,y2,y3],0⟩)(ne_2_3:k2≠k3)(hr:HRel wz fi H w)
 (h2:VR fi (.ptr (.own k2) 0) p2) (h3:VR fi (.ptr (.own k3) 0) p3) (hf:VR fi (.iface 48 (faultV f)) vf):
 CallsD Tryz.prog 28 #[p2,p3] (.panicking [{v:=vf,recovered:=false}]) w fun e u' w'=>∃r,e= .returned r/\u'= .panicking [{v:=vf,recovered:=true}]/\∃Ps h',fi.le Ps/\HRel wz Ps h' w'/\h' k2=some ⟨[.nilSlice],0⟩/\h' k3=some ⟨[.int .i64 f.e, .int .i64 f.line, .int .i64 f.col],0⟩/\Sub B h':=by
 refine callsD_of_wpS Tryz.func28 rfl fun c₀ cs hu=>?_;apply wpS_seq;apply wpS_region;simp[wpOpsS,go_sem,recoverD,hu,Tryz.ntmps28,Exit.thenS];have hl:=l_clos wz H B k2 k3 hB hB2 hB3 b2 b3 y1 y2 y3 f eb_2 eb_3 ne_2_3 fi;refine wpS_of_wp (wp_mono (hl _ w hr ⟨?_,?_,fun i=>?_⟩) fun e a' w' q=>?_)
 ·simp;rfl
 ·rfl
 ·match i with
  |0=>exact h2
  |1=>exact h3
  |2=>exact hf
  |i+3=>
   have:Slots.get [(0,AVal.ptr (.own k2) 0),(1, .ptr (.own k3) 0),(2, .iface 48 (faultV f))] (i+3)= .dead:=by simp[Slots.get]
   rw[this];simp[VR]
 ·rcases q with⟨Ps,s',h',e1,e2,e3,e4⟩|⟨_,_,_,q⟩
  ·cases e<;>simp only[qdN]at e4<;>first
    |exact e4.elim
    |skip
   all_goals
    obtain⟨hp,h'',hsub,-,g2,g3,g4⟩:=e4;simp only[bodyPostS];refine⟨e3.defers, .panicking [{v:=vf,recovered:=true}],rfl, .tuple #[],?_,⟨_,rfl⟩,rfl,Ps,e1,h'',e2.forget hsub,g2,g3,g4⟩;simp[results,Tryz.results28]
  ·exact q.elim
end Go.Proofs.YtgiadjbiimkbiaaGreatDoor
namespace Go.AM
theorem flat_nil{es:Nat}(hes:es≠0){xs:List (List AVal)}(hw:∀x∈xs,x.length=es)(h:xs.flatten=[]):xs=[]:=by
 have:=flatten_len hw;rw[h,JF]at this;rcases BF.1 this.symm with e|e
 ·exact Kg e
 ·exact absurd e hes
section
variable {P:Program} {wz:World} {ops rest:List Oper} {s:Slots} {H:AHeap} {K:Slots->AHeap->Prop} {dst:Option Tmp} {ty:TypeId} {pos:String} {af:Array Edge} {ts:Array TypeId} {t u e:TypeId} {d:TypeDesc} {x y:Operand} {v v':AVal} {p:AHeap} {es by' i:Nat} {z:Value} {xs ys:List (List AVal)} {ps:List AHeap}
theorem Un(h0:ts[0]?=some t)(h1:ts[1]?=some u)(ht:P.underlying t=some (.slice e))(hu:P.underlying u=some d)(hd:∀k,d≠ .int k)
 (hs:Zy P e=some es) (hb:qdF P e=some by') (hz:Uy P e=some z) (hzs:z.cells.size=es) (hes:es≠0)
 (hx:ev s x=v) (hg:GrowV es v p xs) (hG:isG v=true) (hi:ps[i]?=some p) (hS:Sep ps H) (hy:ev s y=v') (hv':IsL wz H es v' ys) (hsc:Qu ys.flatten=true)
 (hl:(xs.length+ys.length)*by'<=140737488355328) (hl':xs.length+ys.length<4611686018427387904)
 (hkk:∀u p' H',GrowV es u p' (xs++ys)->isG u=true->Sep (ps.set i p') H'->Qp P wz ops rest (putD s dst u) H' K):
 Qp P wz ops (⟨dst, .call ⟨.builtin .append,[x,y].toArray,ts⟩,ty,pos,af,none⟩::rest) s H K:=by
 have hw:∀x∈xs++ys,x.length=es:=fun x hx=>by
  rcases JX.1 hx with h|h
  ·exact hg.wide x h
  ·exact hv'.wide x h
 have hal:allLive (xs++ys).flatten=true:=by rw[Vv,YA,(hg.isL (wz:=wz) (hS.in_ hi)).allLive,hv'.allLive];rfl
 have fin:∀(H0:AHeap) (b':Option Buf) (h':AHeap),(∀j q,j≠i->ps[j]?=some q->Sub q H0)->qko H0 es b'->qkz b'=(xs++ys).flatten->Sub (qgG H0 b') h'->Qp P wz ops rest (putD s dst (qgF es b')) h' K:=by
  intro H0 b' h' hq o1 o2 o3;cases b' with
  |none=>
   have e0:xs++ys=[]:=flat_nil hes hw o2.symm;refine hkk _ emp h' (.inl ⟨rfl,rfl,e0⟩) rfl (hS.turn (fun j c hj=>by cases hj) fun j q hj hjq=>⟨(hq j q hj hjq).trans o3,(qsa q).symm⟩)
  |some b=>
   obtain⟨kb,cells⟩:=b;obtain⟨n1,n2,n3⟩:=o1;have hcl:cells=(xs++ys).flatten:=o2;subst hcl;have hlen2:(xs++ys).flatten.length / es=(xs++ys).length:=by rw[flatten_len hw,Vo _ (Vn hes)]
   simp only[qgF,hlen2];refine hkk _ (one kb ⟨(xs++ys).flatten,0⟩) h' (GrowV.new rfl (.inr rfl) hw hal rfl) rfl (hS.turn (fun j c hj=>by obtain⟨rfl,rfl⟩:=qlD hj;exact o3 _ _ (Vj _ _ _)) fun j q hj hjq=>?_);have hsub:=hq j q hj hjq;have hqn:q kb=none:=hsub.none n1;refine⟨(Bt (hsub.off hqn ⟨(xs++ys).flatten,0⟩) o3),fun x=>?_⟩;by_cases ex:x=kb
   ·subst ex;exact .inr hqn
   ·exact .inl (qlE _ ex)
 rcases hg with⟨rfl,rfl,rfl⟩|⟨k,c,rfl,hc,rfl,hw1,hl1⟩
 ·refine qcy (zs:=[]) (H0:=H) (b:=none) h0 h1 ht hu hd hs hb hz hzs hes (by rw[hx];rfl) trivial rfl (fun x hx=>by cases hx) (Vk _) hy hv' hsc (by simpa using hl) (by simpa using hl') fun b' h' o1 o2 o3=>?_
  exact fin H b' h' (fun j q _ hq=>hS.in_ hq) o1 (by simpa using o2) o3
 ·have hcg:c= .grow es:=by
   rcases hc with rfl|rfl
   ·cases hG
   ·rfl
  subst hcg;have hk:=hS.at_ hi;have hlen:xs.flatten.length / es=xs.length:=by rw[flatten_len hw1,Vo _ (Vn hes)]
  refine qcy (zs:=xs) (H0:=H.del k) (b:=some ⟨k,xs.flatten⟩) h0 h1 ht hu hd hs hb hz hzs hes (by rw[hx];simp only[qgF,hlen]) ⟨by simp[BC],by simp only;rw[flatten_len hw1];exact BD _ _,hl1⟩ rfl hw1 ?_ hy hv' hsc hl hl' fun b' h' o1 o2 o3=>?_
  ·intro j d hj
   by_cases e:j=k
   ·subst e
    rw[show qgG (H.del j) (some ⟨j,xs.flatten⟩)=(H.del j).set j ⟨xs.flatten,0⟩from rfl,Vj]at hj;rw[<-hj];exact hk
   ·rw[show qgG (H.del k) (some ⟨k,xs.flatten⟩)=(H.del k).set k ⟨xs.flatten,0⟩from rfl,Vi _ _ e]at hj
    simpa[BC,e]using hj
  ·refine fin (H.del k) b' h' (fun j q hj hq=>?_) o1 o2 o3
   have hqk:=hS.not hi hq (fun e=>hj e.symm);intro a b hab;have:a≠k:=fun e=>by subst e;rw[hqk]at hab;cases hab
   simpa[BC,this]using hS.in_ hq _ _ hab
end
end Go.AM
