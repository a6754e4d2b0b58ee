/-
  Texts of this proof, joined: SnE, SnF, SnG, SnH, SnI, BmJ, SnJ, SnK, SmE, SnL, SnM, SnN, SoA, SoB.
  Conditions: none.
-/
import Derived.Test.YtgiadjbiimkbiaaDoorEb
import Derived.RangeFuncIn
import Derived.RangeFuncSeq
import Derived.RangeFuncLeaves
import Derived.RangeFuncCalls
import Derived.Shelf.Abstract
import Derived.OwnWalkIn
import Derived.TacticsInMore
import Derived.LoopNIn
import Derived.LoopIn
import Derived.Laws.EntriesVeiled
import Derived.WalkSmall
set_option linter.unusedSimpArgs false
set_option linter.unnecessarySimpa false
set_option linter.unusedVariables false
open List renaming take_add_one->VY,getElem?_eq_getElem->JB,map_append->VZ,getD->Ko,mem_singleton->V4,mem_cons->KW,length_cons->KX,length_append->Jb,length_map->Jn,contains_cons->VC,contains_nil->VD,set_cons_zero->VF,set_cons_succ->Kj,getD_cons_zero->VG,getD_cons_succ->Kn,getElem_mem->Vr,length_take->K4,length_pos_iff->V5,mem_map->JI,take_length->Jo,mem_cons_of_mem->Jf,cons_append->Kh,take_succ_cons->Ki,drop_succ_cons->Ba,size_toArray->KC,length_nil->JD,push_toArray->Bd,append_toArray->Be,nil_append->Jd,length_drop->K5,mem_append->JS,mem_cons_self->Je,eq_nil_of_length_eq_zero->Kg,map_cons->Ke,map_nil->Vh,take_zero->Bj,map_eq_nil_iff->Vu,drop_eq_getElem_cons->J9,drop_of_length_le->Bl,zipIdx_append->Bn,flatten_append->Bo,find?_cons->Bp,append_assoc->K9,append_nil->JE,getElem?_eq_some_iff->Jw,pairwise_iff_getElem->Bv,pairwise_append->Bz,getElem_set->BA,pairwise_cons->BC
open Nat renaming le_refl->KL,le_trans->Vb,le_of_ble_eq_true->Vy,zero_add->Jp,zero_le->Jq,mul_one->V6,add_zero->K6,zero_mul->K7,mul_div_cancel->Vj,pos_of_ne_zero->Vi
open Go.AM.Slots renaming put->Vz,get->VA,keep->VB
open Go.AM.AVal renaming cells->VE
open Bool renaming and_true->J4,and_eq_true->Ky,or_eq_true->JH,not_eq_true'->Jh,and_eq_false_iff->VH,or_eq_false_iff->VI,not_eq_false'->VJ,true_eq->VV,false_eq->VW,false_eq_true->KV,true_or->VT,false_or->VU,not_not->VK,not_false->VL,not_true->VM,and_false->VN,true_and->VO,false_and->VP,or_true->VQ,or_false->VS,and_eq_false_imp->Br
open Go.AM.AHeap renaming set_same->Vf,set_none->V7,set_set->Bi,set_ne->Ve,del->Bu
open Go.AM.Sub renaming refl->Vg,set->V8,none->Bh,trans->Bq
open Int renaming toNat_natCast->VX,toNat_zero->Bt
open Go.AM.IsL renaming own->V9
open Array renaming replicate_succ->Bb,replicate_zero->Bc,getD_eq_getD_getElem?->Ku,getElem?_push->Bf,getElem?_eq_some_iff->Bg,replicate->Ju,getElem?_append->Jv
open Go.AM.PMap renaming le_trans->JN
namespace Go.Proofs.YtgiadjbiimkbiaaDoor
open Go.AM
open Go.Proofs
open Go.Col (Str FaultC okF)
open Go.Tok (TokC)
open Go.Stm
open Go.RowKit (Below)
set_option maxRecDepth 100000
structure CnG where
 i:Nat
 b:Option Buf
def qeW(ws:List Str):List Str:=(ws.filter fun w=> !decide (w.getD 0 0=91)).map fun w=>Lib.trimS w qrG
theorem qpR{ws:List Str}{i:Nat}(hi:i<ws.length):qeW (ws.take (i+1))=if (ws.getD i []).getD 0 0=91 then qeW (ws.take i)else qeW (ws.take i)++[Lib.trimS (ws.getD i []) qrG]:=by
 unfold qeW;rw[VY,JB hi,List.filter_append,VZ];have e:ws.getD i []=ws[i]:=by simp[Ko,hi]
 rw[e];by_cases h:ws[i].getD 0 0=91
 ·rw[if_pos h]
  have h2:ws[i][0]?.getD 0=91:=h;simp[h2]
 ·rw[if_neg h]
  have h2:¬ws[i][0]?.getD 0=91:=h;simp[h2]
theorem qiw{s:Str}:∀w∈Lib.fields s,w≠[]:=by
 have go:∀(s cur:Str),∀w∈Lib.fieldsGo cur s,w≠[]:=by
  intro s;induction s with
  |nil=>
   intro cur w hw;unfold Lib.fieldsGo at hw;split at hw
   ·cases hw
   ·rename_i hc
    rw[V4.1 hw];intro e;rw[e]at hc;exact hc rfl
  |cons b s ih=>
   intro cur w hw;unfold Lib.fieldsGo at hw;split at hw
   ·split at hw
    ·exact ih [] w hw
    ·rename_i hc
     rcases KW.1 hw with q|q
     ·rw[q];intro e;rw[e]at hc;exact hc rfl
     ·exact ih [] w q
   ·exact ih _ w hw
 exact fun w hw=>go s [] w hw
theorem qrk(s cs:Str):(Lib.trimS s cs).length<=s.length:=by
 have hd:∀(p:UInt8->Bool) (s:Str),(s.dropWhile p).length<=s.length:=by
  intro p s;induction s with
  |nil=>exact KL _
  |cons b s ih=>
   rw[List.dropWhile_cons];split
   ·rw[KX];omega
   ·exact KL _
 unfold Lib.trimS Lib.trimLeftS Lib.trimRightS;have h1:=hd (cs.contains ·) s.reverse;have h2:=hd (cs.contains ·) (List.dropWhile (cs.contains ·) s.reverse).reverse;rw[List.length_reverse]at h1 h2;omega
theorem join_le(l:List Str)(sep:Str)(m:Nat)(h:∀w∈l,w.length<=m):(Lib.join l sep).length<=l.length*(m+sep.length):=by
 unfold Lib.join;induction l with
 |nil=>simp
 |cons x r ih=>
  have hx:=h x (by simp);have ih':=ih fun w hw=>h w (by simp[hw]);cases r with
  |nil=>simp;omega
  |cons y r=>
   rw[List.intercalate_cons_cons];simp only[Jb,KX,Nat.succ_mul]at ih'|-
   omega
theorem qtj{w0:World}{h:AHeap}{k:Nat}{l:List Str}(hk:h k=some ⟨l.map AVal.str,0⟩)(H:AHeap)(hs:Sub h H){i:Nat}(hi:i<l.length):rd w0 H (.own k) i= .str (l.getD i []):=qfi (hs _ _ hk) hi
theorem qma(ws:List Str):(qeW ws).length<=ws.length:=by
 unfold qeW;rw[Jn];exact List.length_filter_le _ _
set_option maxHeartbeats 1000000 in
theorem c_canon(w0:World)(ha:Asp w0)(h:AHeap)(form:Str)(hf:form.length<=1000000)(hfa:asciiB form=true):
 ACall Tryd.prog w0 81 [.str form] h (fun r h'=>r= .str (qcL form)/\h'=h):=by
 have hfs:=qbd form;obtain⟨ws,hws⟩:∃ws,ws=Lib.fields form:=⟨_,rfl⟩
 have hsm:∀w∈ws,w.length<=1000000/\w≠[]:=fun w hw=>by
  rw[hws]at hw;exact⟨Vb (qbK w hw) hf,qiw w hw⟩
 have hR:qcL form=if form=[84,72,82,79,85,71,72]then qmv else if form=[84,79,32,80,82,79,67,69,69,68,32,84,79]then TOw else if form=[82,69,67,79,82,68]then[]else Lib.join (qeW ws) [32]:=by rw[hws];rfl
 rw[<-hws]at hfs;have hbl:=qjS 1 none;refine Xf (n:=31) (rs:=[.tmp 2]) Tryd.func81 rfl rfl rfl rfl (Vy rfl) ?_;simp only[Xe];refine awp_rseq [0] (by rfl) fun K hK=>?_;simp+decide only[qh,qi,qj,qo,ev,qZ,qY,putD,Vz,VA,VB,Ka,VC,VD,Kb,and_true,↓qV,qP,qM,ne_eq,not_false_eq_true,qN,qJ,VE,setAt,VF,Kj,qC,VG,Kn,Jp,Nat.reduceAdd,qF,qG,qI,qf,qK,qa,qz,qd,qE,qc,qA,qg,qH,qy,allLive,J4,tokV,hbl];repeat (with_reducible refine And.intro ?_ ?_;· first|trivial|omega|(intro hg;simp only[Ky,JH,Jh,VH,VI,VJ,decide_eq_true_eq,decide_eq_false_iff_not,qR]at hg;omega))
 apply hK;clear hK K;refine Qp ?_;refine awp_rseq [0,6] (by rfl) fun K hK=>?_;simp+decide only[qh,qi,qj,qo,ev,qZ,qY,putD,Vz,VA,VB,Ka,VC,VD,Kb,and_true,↓qW,qU,qM,ne_eq,not_false_eq_true,qN,qJ,VE,setAt,VF,Kj,qC,VG,Kn,Jp,Nat.reduceAdd,qF,qG,qI,qf,qK,qa,qz,qd,qE,qc,qA,qg,qH,qy,allLive,J4,tokV,hbl];repeat (with_reducible refine And.intro ?_ ?_;· first|trivial|omega|(intro hg;simp only[Ky,JH,Jh,VH,VI,VJ,decide_eq_true_eq,decide_eq_false_iff_not,qR]at hg;omega))
 apply hK;clear hK K;refine QL ?_;refine awp_rseq [0,6,7] (by rfl) fun K hK=>?_;simp+decide only[qh,qi,qj,qo,ev,qZ,qY,putD,Vz,VA,VB,Ka,VC,VD,Kb,and_true,↓Qj,Qa,XK,cond_false,XC,Wv,↓qV,qP,qM,ne_eq,not_false_eq_true,qN,qJ,VE,setAt,VF,Kj,qC,VG,Kn,Jp,Nat.reduceAdd,qF,qG,qI,qf,qK,qa,qz,qd,qE,qc,qA,qg,qH,qy,allLive,J4,tokV,hbl];repeat (with_reducible refine And.intro ?_ ?_;· first|trivial|omega|(intro hg;simp only[Ky,JH,Jh,VH,VI,VJ,decide_eq_true_eq,decide_eq_false_iff_not,qR]at hg;omega))
 apply hK;clear hK K;refine Qw (b:=_) rfl (fun hb1=>?_) (fun hb1=>?_)
 ·try simp only[decide_eq_true_eq,decide_eq_false_iff_not,Jh,VJ,Ky,VH,JH,VI,VV,VW,reduceCtorEq]at hb1
  refine awp_rseq [2] (by rfl) fun K hK=>?_;simp+decide only[qh,qi,qj,qo,ev,qZ,qY,putD,Vz,VA,VB,Ka,VC,VD,Kb,and_true,↓qV,qP,qM,ne_eq,not_false_eq_true,qN,qJ,VE,setAt,VF,Kj,qC,VG,Kn,Jp,Nat.reduceAdd,qF,qG,qI,qf,qK,qa,qz,qd,qE,qc,qA,qg,qH,qy,allLive,J4,tokV,hbl];repeat (with_reducible refine And.intro ?_ ?_;· first|trivial|omega|(intro hg;simp only[Ky,JH,Jh,VH,VI,VJ,decide_eq_true_eq,decide_eq_false_iff_not,qR]at hg;omega))
  apply hK;clear hK K;refine Xd ?_;try simp only[QF,Qn]
  refine XV h zqC (Qr (Qv)) ?_;simp+decide only[qh,qi,qj,qo,ev,qZ,qY,putD,Vz,VA,VB,Ka,VC,VD,Kb,and_true,QU,qM,ne_eq,not_false_eq_true,qN,qJ,VE,setAt,VF,Kj,qC,VG,Kn,Jp,Nat.reduceAdd,qF,qG,qI,qf,qK,qa,qz,qd,qE,qc,qA,qg,qH,qy,allLive,J4,tokV,hbl];rw[hR,if_pos hb1];rfl
 ·try simp only[decide_eq_true_eq,decide_eq_false_iff_not,Jh,VJ,Ky,VH,JH,VI,VV,VW,reduceCtorEq]at hb1
  rw[if_neg hb1]at hR;refine awp_rseq [0,6,9] (by rfl) fun K hK=>?_;simp+decide only[qh,qi,qj,qo,ev,qZ,qY,putD,Vz,VA,VB,Ka,VC,VD,Kb,and_true,↓Qj,Qa,XK,cond_false,XC,Wv,↓qV,qP,qM,ne_eq,not_false_eq_true,qN,qJ,VE,setAt,VF,Kj,qC,VG,Kn,Jp,Nat.reduceAdd,qF,qG,qI,qf,qK,qa,qz,qd,qE,qc,qA,qg,qH,qy,allLive,J4,tokV,hbl];repeat (with_reducible refine And.intro ?_ ?_;· first|trivial|omega|(intro hg;simp only[Ky,JH,Jh,VH,VI,VJ,decide_eq_true_eq,decide_eq_false_iff_not,qR]at hg;omega))
  apply hK;clear hK K;refine Qw (b:=_) rfl (fun hb2=>?_) (fun hb2=>?_)
  ·try simp only[decide_eq_true_eq,decide_eq_false_iff_not,Jh,VJ,Ky,VH,JH,VI,VV,VW,reduceCtorEq]at hb2
   refine awp_rseq [2] (by rfl) fun K hK=>?_;simp+decide only[qh,qi,qj,qo,ev,qZ,qY,putD,Vz,VA,VB,Ka,VC,VD,Kb,and_true,↓qV,qP,qM,ne_eq,not_false_eq_true,qN,qJ,VE,setAt,VF,Kj,qC,VG,Kn,Jp,Nat.reduceAdd,qF,qG,qI,qf,qK,qa,qz,qd,qE,qc,qA,qg,qH,qy,allLive,J4,tokV,hbl];repeat (with_reducible refine And.intro ?_ ?_;· first|trivial|omega|(intro hg;simp only[Ky,JH,Jh,VH,VI,VJ,decide_eq_true_eq,decide_eq_false_iff_not,qR]at hg;omega))
   apply hK;clear hK K;refine Xd ?_;try simp only[QF,Qn]
   refine XV h zqC (Qr (Qv)) ?_;simp+decide only[qh,qi,qj,qo,ev,qZ,qY,putD,Vz,VA,VB,Ka,VC,VD,Kb,and_true,QU,qM,ne_eq,not_false_eq_true,qN,qJ,VE,setAt,VF,Kj,qC,VG,Kn,Jp,Nat.reduceAdd,qF,qG,qI,qf,qK,qa,qz,qd,qE,qc,qA,qg,qH,qy,allLive,J4,tokV,hbl];rw[hR,if_pos hb2];rfl
  ·try simp only[decide_eq_true_eq,decide_eq_false_iff_not,Jh,VJ,Ky,VH,JH,VI,VV,VW,reduceCtorEq]at hb2
   rw[if_neg hb2]at hR;refine awp_rseq [0,11] (by rfl) fun K hK=>?_;simp+decide only[qh,qi,qj,qo,ev,qZ,qY,putD,Vz,VA,VB,Ka,VC,VD,Kb,and_true,↓Qj,Qa,XK,cond_false,XC,Wv,↓qV,qP,qM,ne_eq,not_false_eq_true,qN,qJ,VE,setAt,VF,Kj,qC,VG,Kn,Jp,Nat.reduceAdd,qF,qG,qI,qf,qK,qa,qz,qd,qE,qc,qA,qg,qH,qy,allLive,J4,tokV,hbl];repeat (with_reducible refine And.intro ?_ ?_;· first|trivial|omega|(intro hg;simp only[Ky,JH,Jh,VH,VI,VJ,decide_eq_true_eq,decide_eq_false_iff_not,qR]at hg;omega))
   apply hK;clear hK K;refine Qw (b:=_) rfl (fun hb3=>?_) (fun hb3=>?_)
   ·try simp only[decide_eq_true_eq,decide_eq_false_iff_not,Jh,VJ,Ky,VH,JH,VI,VV,VW,reduceCtorEq]at hb3
    refine awp_rseq [2] (by rfl) fun K hK=>?_;simp+decide only[qh,qi,qj,qo,ev,qZ,qY,putD,Vz,VA,VB,Ka,VC,VD,Kb,and_true,↓qV,qP,qM,ne_eq,not_false_eq_true,qN,qJ,VE,setAt,VF,Kj,qC,VG,Kn,Jp,Nat.reduceAdd,qF,qG,qI,qf,qK,qa,qz,qd,qE,qc,qA,qg,qH,qy,allLive,J4,tokV,hbl];repeat (with_reducible refine And.intro ?_ ?_;· first|trivial|omega|(intro hg;simp only[Ky,JH,Jh,VH,VI,VJ,decide_eq_true_eq,decide_eq_false_iff_not,qR]at hg;omega))
    apply hK;clear hK K;refine Xd ?_;try simp only[QF,Qn]
    refine XV h zqC (Qr (Qv)) ?_;simp+decide only[qh,qi,qj,qo,ev,qZ,qY,putD,Vz,VA,VB,Ka,VC,VD,Kb,and_true,QU,qM,ne_eq,not_false_eq_true,qN,qJ,VE,setAt,VF,Kj,qC,VG,Kn,Jp,Nat.reduceAdd,qF,qG,qI,qf,qK,qa,qz,qd,qE,qc,qA,qg,qH,qy,allLive,J4,tokV,hbl];rw[hR,if_pos hb3]
   ·try simp only[decide_eq_true_eq,decide_eq_false_iff_not,Jh,VJ,Ky,VH,JH,VI,VV,VW,reduceCtorEq]at hb3
    rw[if_neg hb3]at hR;refine QJ ?_;change Awp _ _ _ _ _ _ _;refine awp_rseq [0,3] (by rfl) fun K hK=>?_;simp+decide only[qh,qi,qj,qo,ev,qZ,qY,putD,Vz,VA,VB,Ka,VC,VD,Kb,and_true,↓qV,qP,qM,ne_eq,not_false_eq_true,qN,qJ,VE,setAt,VF,Kj,qC,VG,Kn,Jp,Nat.reduceAdd,qF,qG,qI,qf,qK,qa,qz,qd,qE,qc,qA,qg,qH,qy,allLive,J4,tokV,hbl];repeat (with_reducible refine And.intro ?_ ?_;· first|trivial|omega|(intro hg;simp only[Ky,JH,Jh,VH,VI,VJ,decide_eq_true_eq,decide_eq_false_iff_not,qR]at hg;omega))
    apply hK;clear hK K;refine Qp ?_;refine awp_rseq [3,14,15,16] (by rfl) fun K hK=>?_;simp+decide only[qh,qi,qj,qo,ev,qZ,qY,putD,Vz,VA,VB,Ka,VC,VD,Kb,and_true,↓qW,qU,qM,ne_eq,not_false_eq_true,qN,qJ,VE,setAt,VF,Kj,qC,VG,Kn,Jp,Nat.reduceAdd,qF,qG,qI,qf,qK,qa,qz,qd,qE,qc,qA,qg,qH,qy,allLive,J4,tokV,hbl];repeat (with_reducible refine And.intro ?_ ?_;· first|trivial|omega|(intro hg;simp only[Ky,JH,Jh,VH,VI,VJ,decide_eq_true_eq,decide_eq_false_iff_not,qR]at hg;omega))
    refine QN (by rfl) (by rfl) (qdk w0 ha _ form (by omega) hfa) fun x9q1 h9q1 hx9q1=>?_;obtain⟨kw,hkw,rfl,rfl⟩:=hx9q1;rw[<-hws];have lw:=qav (qcv (w0:=w0) (Vf h kw ⟨ws.map AVal.str,0⟩));simp+decide only[qh,qi,qj,qo,ev,qZ,qY,putD,Vz,VA,VB,Ka,VC,VD,Kb,and_true,↓XG,Xh,QE Tryd.underlying22,QT Tryd.underlying22,↓qW,qU,qM,ne_eq,not_false_eq_true,qN,qJ,VE,setAt,VF,Kj,qC,VG,Kn,Jp,Nat.reduceAdd,qF,qG,qI,qf,qK,qa,qz,qd,qE,qc,qA,qg,qH,qy,allLive,J4,tokV,hbl,lw];repeat (with_reducible refine And.intro ?_ ?_;· first|trivial|omega|(intro hg;simp only[Ky,JH,Jh,VH,VI,VJ,decide_eq_true_eq,decide_eq_false_iff_not,qR]at hg;omega))
    apply hK;clear hK K;refine QL ?_;refine XI [3,14,15,16] (fun g:CnG=>[(3,qeY 1 g.b),(14, .slice (.own kw) 0 ws.length (.exact ws.length)),(15, .int .i64 ws.length),(16, .int .i64 g.i)]) (fun g:CnG=>qeZ (h.set kw ⟨ws.map AVal.str,0⟩) g.b) (fun g:CnG=>g.i<=ws.length/\qhv (h.set kw ⟨ws.map AVal.str,0⟩) 1 g.b/\qhA g.b=((qeW (ws.take g.i)).map fun s=>[AVal.str s]).flatten) (fun g:CnG=>ws.length-g.i) ⟨0,none⟩ (by rfl) (Vg _) ⟨Jq _,trivial,by rfl⟩ ?_;rintro⟨i,b⟩ ⟨g1,g2,g3⟩;simp only at g1 g2 g3|-
    have hbl:=qjS 1 b;have hBs:Sub (h.set kw ⟨ws.map AVal.str,0⟩) (qeZ (h.set kw ⟨ws.map AVal.str,0⟩) b):=Sub.buf g2;refine awp_rseq [3,14,15,16,17] (by rfl) fun K hK=>?_;simp+decide only[qh,qi,qj,qo,ev,qZ,qY,putD,Vz,VA,VB,Ka,VC,VD,Kb,and_true,↓Qj,Qa,Qz,cond_false,Qh,Zo,qM,ne_eq,not_false_eq_true,qN,qJ,VE,setAt,VF,Kj,qC,VG,Kn,Jp,Nat.reduceAdd,qF,qG,qI,qf,qK,qa,qz,qd,qE,qc,qA,qg,qH,qy,allLive,J4,tokV,hbl];repeat (with_reducible refine And.intro ?_ ?_;· first|trivial|omega|(intro hg;simp only[Ky,JH,Jh,VH,VI,VJ,decide_eq_true_eq,decide_eq_false_iff_not,qR]at hg;omega))
    apply hK;clear hK K;refine Qp (Qw (b:=_) rfl (fun hb4=>?_) (fun hb4=>?_))
    ·try simp only[decide_eq_true_eq,decide_eq_false_iff_not,Jh,VJ,Ky,VH,JH,VI,VV,VW,reduceCtorEq]at hb4
     have hi:i<ws.length:=by omega
     obtain⟨w,hw⟩:∃w,w=ws.getD i []:=⟨_,rfl⟩
     have ew:=qtj (w0:=w0) (Vf h kw ⟨ws.map AVal.str,0⟩) _ hBs hi;rw[<-hw]at ew;obtain⟨hwl,hwp⟩:=hsm w (by rw[hw,Ko,JB hi];exact Vr hi);have hst:=qpR hi;rw[<-hw]at hst;have hcl:=qma (ws.take i);rw[K4]at hcl;have hwi:IntKind.i64.wrap ((i:Int)+1)=((i+1:Nat):Int):=by rw[wrap_i64 (by omega) (by omega)];omega
     have hw0:((0:Int)<w.length)=True:=eq_true (by have:=V5.2 hwp;omega);have hu8:∀c:UInt8,decide ((c.toNat:Int)=91)=decide (c=91):=fun c=>Wj c 91;refine QJ ?_;change Awp _ _ _ _ _ _ _;refine Qp ?_;refine QL ?_;refine awp_rseq [3,5,14,15,16] (by rfl) fun K hK=>?_;simp+decide only[qh,qi,qj,qo,ev,qZ,qY,putD,Vz,VA,VB,Ka,VC,VD,Kb,and_true,↓QV,QM,Ql Tryd.underlying22 sz9,↓Qu,Qi ag9,↓qV,qP,qM,ne_eq,not_false_eq_true,qN,qJ,VE,setAt,VF,Kj,qC,VG,Kn,Jp,Nat.reduceAdd,qF,qG,qI,qf,qK,qa,qz,qd,qE,qc,qA,qg,qH,qy,allLive,J4,tokV,hbl,ew,VX,V6,Jp];repeat (with_reducible refine And.intro ?_ ?_;· first|trivial|omega|(intro hg;simp only[Ky,JH,Jh,VH,VI,VJ,decide_eq_true_eq,decide_eq_false_iff_not,qR]at hg;omega))
     apply hK;clear hK K;refine awp_rseq [3,5,14,15,16,22] (by rfl) fun K hK=>?_;simp+decide only[qh,qi,qj,qo,ev,qZ,qY,putD,Vz,VA,VB,Ka,VC,VD,Kb,and_true,↓qW,qU,↓qmn,qju,qif Tryd.underlying9,↓Qj,Qa,Qm,cond_false,Qh,qai,qM,ne_eq,not_false_eq_true,qN,qJ,VE,setAt,VF,Kj,qC,VG,Kn,Jp,Nat.reduceAdd,qF,qG,qI,qf,qK,qa,qz,qd,qE,qc,qA,qg,qH,qy,allLive,J4,tokV,hbl,hw0,hu8];repeat (with_reducible refine And.intro ?_ ?_;· first|trivial|omega|(intro hg;simp only[Ky,JH,Jh,VH,VI,VJ,decide_eq_true_eq,decide_eq_false_iff_not,qR]at hg;omega))
     apply hK;clear hK K;refine Qw (b:=_) rfl (fun hb5=>?_) (fun hb5=>?_)
     ·try simp only[decide_eq_true_eq,decide_eq_false_iff_not,Jh,VJ,Ky,VH,JH,VI,VV,VW,reduceCtorEq]at hb5
      rw[if_neg (by simpa using hb5)]at hst;obtain⟨u,hu⟩:∃u,u=Lib.trimS w qrG:=⟨_,rfl⟩
      rw[<-hu]at hst;refine XZ [3,14,15,16] (by rfl) ?_;simp+decide only[qh,qi,qj,qo,ev,qZ,qY,putD,Vz,VA,VB,Ka,VC,VD,Kb,and_true,↓qW,qU,qM,ne_eq,not_false_eq_true,qN,qJ,VE,setAt,VF,Kj,qC,VG,Kn,Jp,Nat.reduceAdd,qF,qG,qI,qf,qK,qa,qz,qd,qE,qc,qA,qg,qH,qy,allLive,J4,tokV,hbl];repeat (with_reducible refine And.intro ?_ ?_;· first|trivial|omega|(intro hg;simp only[Ky,JH,Jh,VH,VI,VJ,decide_eq_true_eq,decide_eq_false_iff_not,qR]at hg;omega))
      refine XD (V:= .str u) (by rfl) (by rfl) (by rw[hu];exact qsw w0 _ w qrG (by omega) (by decide) (by decide) (by decide)) ?_;refine QS (cs:=[.str u]) (by kernel_rfl) fun k13q3 hk13q3=>?_;try have hf_13q3:h k13q3=none:=by first|assumption|(simp only[V7]at hk13q3;simp only[hk13q3])
      refine qbS (es:=1) (zs:=(qeW (ws.take i)).map fun s=>[AVal.str s]) (xs:=[[.str u]]) (H0:=h.set kw ⟨ws.map AVal.str,0⟩) (b:=b) (by rfl) (by rfl) Tryd.underlying22 Tryd.underlying22 (fun k e=>by cases e) sz9 by9 ze9 (by rfl) (by decide) (by rfl) g2 g3 (fun y hy=>by obtain⟨d,_,rfl⟩:=JI.1 hy;rfl) (V8 hk13q3) (by rfl) (V9 (Vf _ _ _) (by simp) (by rfl) (by rfl) (.exact 1) (KL _)) (by rfl) (by simp;omega) (by simp;omega) fun b' h5 o1 o2 o3=>?_;simp+decide only[qh,qi,qj,qo,ev,qZ,qY,putD,Vz,VA,VB,Ka,VC,VD,Kb,and_true,↓qV,qP,qM,ne_eq,not_false_eq_true,qN,qJ,VE,setAt,VF,Kj,qC,VG,Kn,Jp,Nat.reduceAdd,qF,qG,qI,qf,qK,qa,qz,qd,qE,qc,qA,qg,qH,qy,allLive,J4,tokV,hbl];repeat (with_reducible refine And.intro ?_ ?_;· first|trivial|omega|(intro hg;simp only[Ky,JH,Jh,VH,VI,VJ,decide_eq_true_eq,decide_eq_false_iff_not,qR]at hg;omega))
      change Awp _ _ _ _ _ _ _;refine XZ [3,14,15,16] (by rfl) ?_;simp+decide only[qh,qi,qj,qo,ev,qZ,qY,putD,Vz,VA,VB,Ka,VC,VD,Kb,and_true,↓Qj,Qa,Qm,cond_false,Qh,XM,↓qW,qU,qM,ne_eq,not_false_eq_true,qN,qJ,VE,setAt,VF,Kj,qC,VG,Kn,Jp,Nat.reduceAdd,qF,qG,qI,qf,qK,qa,qz,qd,qE,qc,qA,qg,qH,qy,allLive,J4,tokV,hbl,hwi];try simp(disch:=omega)only[wrap_i64,wrap_u8]
      repeat (with_reducible refine And.intro ?_ ?_;· first|trivial|omega|(intro hg;simp only[Ky,JH,Jh,VH,VI,VJ,decide_eq_true_eq,decide_eq_false_iff_not,qR]at hg;omega))
      try simp only[QK,Qt]
      first
      |exact⟨⟨i+1,b'⟩,rfl,o3,⟨hi,o1,by rw[o2];simp only;rw[hst,VZ];rfl⟩,by(simp only;omega)⟩
      |exact⟨⟨i+1,b⟩,rfl,Vg _,⟨hi,g2,by rw[g3];simp only;rw[hst]⟩,by(simp only;omega)⟩
     ·try simp only[decide_eq_true_eq,decide_eq_false_iff_not,Jh,VJ,Ky,VH,JH,VI,VV,VW,reduceCtorEq]at hb5
      rw[if_pos (by simpa using hb5)]at hst;refine QJ ?_;change Awp _ _ _ _ _ _ _;refine XZ [3,14,15,16] (by rfl) ?_;simp+decide only[qh,qi,qj,qo,ev,qZ,qY,putD,Vz,VA,VB,Ka,VC,VD,Kb,and_true,↓Qj,Qa,Qm,cond_false,Qh,XM,↓qW,qU,qM,ne_eq,not_false_eq_true,qN,qJ,VE,setAt,VF,Kj,qC,VG,Kn,Jp,Nat.reduceAdd,qF,qG,qI,qf,qK,qa,qz,qd,qE,qc,qA,qg,qH,qy,allLive,J4,tokV,hbl,hwi];try simp(disch:=omega)only[wrap_i64,wrap_u8]
      repeat (with_reducible refine And.intro ?_ ?_;· first|trivial|omega|(intro hg;simp only[Ky,JH,Jh,VH,VI,VJ,decide_eq_true_eq,decide_eq_false_iff_not,qR]at hg;omega))
      try simp only[QK,Qt]
      first
      |exact⟨⟨i+1,b'⟩,rfl,o3,⟨hi,o1,by rw[o2];simp only;rw[hst,VZ];rfl⟩,by(simp only;omega)⟩
      |exact⟨⟨i+1,b⟩,rfl,Vg _,⟨hi,g2,by rw[g3];simp only;rw[hst]⟩,by(simp only;omega)⟩
    ·try simp only[decide_eq_true_eq,decide_eq_false_iff_not,Jh,VJ,Ky,VH,JH,VI,VV,VW,reduceCtorEq]at hb4
     have hi:i=ws.length:=by omega
     have htk:ws.take i=ws:=by rw[hi,Jo]
     rw[htk]at g3;have hwide:∀x∈(qeW ws).map fun s=>[AVal.str s],x.length=1:=fun y hy=>by obtain⟨d,_,rfl⟩:=JI.1 hy;rfl
     have hcl:=qma ws;have hjl:(Lib.join (qeW ws) [32]).length<=140737488355328:=by
      refine Vb (join_le (qeW ws) [32] 1000000 fun w hw=>?_) ?_
      ·unfold qeW at hw
       obtain⟨x,hx,rfl⟩:=JI.1 hw;exact Vb (qrk _ _) (hsm x (List.mem_filter.1 hx).1).1
      ·have:(qeW ws).length*(1000000+1)<=1000001*1000001:=Nat.mul_le_mul (by omega) (by omega)
       simpa using Vb this (by decide)
     refine XJ ?_;change Awp _ _ _ _ _ _ _;refine awp_rseq [2] (by rfl) fun K hK=>?_;simp+decide only[qh,qi,qj,qo,ev,qZ,qY,putD,Vz,VA,VB,Ka,VC,VD,Kb,and_true,↓qW,qU,qM,ne_eq,not_false_eq_true,qN,qJ,VE,setAt,VF,Kj,qC,VG,Kn,Jp,Nat.reduceAdd,qF,qG,qI,qf,qK,qa,qz,qd,qE,qc,qA,qg,qH,qy,allLive,J4,tokV,hbl];repeat (with_reducible refine And.intro ?_ ?_;· first|trivial|omega|(intro hg;simp only[Ky,JH,Jh,VH,VI,VJ,decide_eq_true_eq,decide_eq_false_iff_not,qR]at hg;omega))
     refine XD (V:= .str (Lib.join (qeW ws) [32])) (by rfl) (by rfl) (qgW w0 _ _ (qeW ws) [32] (IsL.buf g2 (by decide) g3 hwide (Vg _)) (by omega) hjl) ?_;simp+decide only[qh,qi,qj,qo,ev,qZ,qY,putD,Vz,VA,VB,Ka,VC,VD,Kb,and_true,↓qV,qP,qM,ne_eq,not_false_eq_true,qN,qJ,VE,setAt,VF,Kj,qC,VG,Kn,Jp,Nat.reduceAdd,qF,qG,qI,qf,qK,qa,qz,qd,qE,qc,qA,qg,qH,qy,allLive,J4,tokV,hbl];repeat (with_reducible refine And.intro ?_ ?_;· first|trivial|omega|(intro hg;simp only[Ky,JH,Jh,VH,VI,VJ,decide_eq_true_eq,decide_eq_false_iff_not,qR]at hg;omega))
     apply hK;clear hK K;refine Xd ?_;try simp only[QF,Qn]
     refine Xu (Qr (Qv)) ?_;simp+decide only[qh,qi,qj,qo,ev,qZ,qY,putD,Vz,VA,VB,Ka,VC,VD,Kb,and_true,QU,qM,ne_eq,not_false_eq_true,qN,qJ,VE,setAt,VF,Kj,qC,VG,Kn,Jp,Nat.reduceAdd,qF,qG,qI,qf,qK,qa,qz,qd,qE,qc,qA,qg,qH,qy,allLive,J4,tokV,hbl];exact⟨h,(V8 hkw).trans hBs,by rw[hR],rfl⟩
end Go.Proofs.YtgiadjbiimkbiaaDoor
namespace Go.Proofs.YtgiadjbiimkbiaaDoor
open Go.AM
open Go.Proofs
open Go.Col (Str FaultC okF)
open Go.Tok (TokC)
open Go.Stm
open Go.RowKit
open Go.Shelf
set_option maxRecDepth 100000
attribute [local go_sem] Oper.semAt_some
theorem qmJ{s:Str}(h:(59:UInt8)∉s):qcd s=[s]:=by
 have go:∀(s acc:Str),(59:UInt8)∉s->WK 59 acc s=[acc++s]:=by
  intro s;induction s with
  |nil=>intro acc _;simp[WK]
  |cons c s ih=>
   intro acc hc;have h1:c≠59:=fun e=>hc (by rw[e];simp);rw[WK,if_neg h1,ih _ fun hm=>hc (Jf _ hm)];simp
 simpa[qcd]using go s [] h
theorem qpf{a:Str}(b:Str)(h:(59:UInt8)∉a):qcd (a++59::b)=a::qcd b:=by
 have go:∀(a acc:Str),(59:UInt8)∉a->WK 59 acc (a++59::b)=(acc++a)::WK 59 [] b:=by
  intro a;induction a with
  |nil=>intro acc _;simp[WK]
  |cons c s ih=>
   intro acc hc;have h1:c≠59:=fun e=>hc (by rw[e];simp);rw[Kh,WK,if_neg h1,ih _ fun hm=>hc (Jf _ hm)];simp
 simpa[qcd]using go a [] h
theorem idxB(b:UInt8):∀s:Str,(Lib.indexByte s b= -1/\b∉s)\/∃i:Nat,Lib.indexByte s b=i/\i<s.length/\s=s.take i++b::s.drop (i+1)/\b∉s.take i
 |[]=> .inl ⟨rfl,by simp⟩
 |c::s=>by
  unfold Lib.indexByte;by_cases h:c=b
  ·subst h
   exact .inr ⟨0,by simp,by simp,by simp,by simp⟩
  ·have hb:(c==b)=false:=by simpa using h
   rw[hb];simp only[KV,if_false];rcases idxB b s with⟨e,hn⟩|⟨i,e,hi,hs,hn⟩
   ·left
    rw[e];refine⟨by simp,?_⟩;intro hm;rcases KW.1 hm with q|q
    ·exact h q.symm
    ·exact hn q
   ·right
    refine⟨i+1,?_,by simpa using hi,?_,?_⟩
    ·rw[e]
     have:((i:Int)== -1)=false:=by simp
     rw[this];simp
    ·rw[Ki,Ba,Kh,<-hs]
    ·rw[Ki]
     intro hm;rcases KW.1 hm with q|q
     ·exact h q.symm
     ·exact hn q
theorem qnl(s:ByteArray)(w:World):Calls Tryd.prog 80 #[.string s, .string ⟨#[59]⟩] w fun e w'=>
 e= .returned (.func (.func 99) #[] #[.pointer (some ⟨w.heap.size+1,0,none⟩), .pointer (some ⟨w.heap.size,0,none⟩), .pointer (some ⟨w.heap.size+2,0,none⟩)])/\
  w'=((w.alloc (.cells #[.string s] 9)).alloc (.cells #[.string ⟨#[59]⟩] 9)).alloc (.cells #[.int .i64 0] 3):=by
 go_enter Tryd.func80,Tryd.ntmps80
 go_wp2
 go_ret
 exact⟨rfl,rfl⟩
def qrU(W:World)(b:Nat):Nat:=match W.cell? ⟨b,0,none⟩with
 |some (.string s)=>s.size
 |_=>0
theorem qrv(l bS bP bV:Nat)(J Jx:Str->World->Prop)(fit:Str->Bool)
 (hc:∀r W,J r W->W.cell? ⟨bS,0,none⟩=some (.string ⟨⟨r⟩⟩)/\W.frozen? ⟨bS,0,none⟩=false/\W.cell? ⟨bP,0,none⟩=some (.string ⟨#[59]⟩)/\W.cell? ⟨bV,0,none⟩=some (.int .i64 0))
 (hs:∀r r' W,J r W->J r' (W.setCell ⟨bS,0,none⟩ (.string ⟨⟨r'⟩⟩)))
 (s:Str) (hl:s.length<=1000000)
 (hY:∀r p W,J r W->p∈qcd s->YieldAt Fence.wide 0 Tryd.prog l #[.string ⟨⟨p⟩⟩] W fun e W'=>(fit p=false/\e= .returned (.bool true)/\J r W')\/(fit p=true/\e= .returned (.bool false)/\Jx p W'))
 (W:World) (h0:J s W):
 CallsIn Fence.wide 0 Tryd.prog 99 #[.func (.yield l) #[] #[], .pointer (some ⟨bP,0,none⟩), .pointer (some ⟨bS,0,none⟩), .pointer (some ⟨bV,0,none⟩)] W fun e W'=>
  (∃v,e= .returned v)/\((∃r,J r W'/\(qcd s).find? fit=none)\/(∃p,Jx p W'/\(qcd s).find? fit=some p)):=by
 refine callsIn_of_wp Tryd.func99 rfl trivial ?_ rfl;simp only[Tryd.ntmps99,KC,KX,JD,Nat.reduceAdd,Nat.reduceSub,Bb,Bc,Bd,Be,Jd,Kh];obtain⟨c1,c2,c3,c4⟩:=hc _ _ h0
 gi_wp2
 gi_loopw [] (fun wr=>∃r,J r wr/\r.length<=1000000/\(∀p∈qcd r,p∈qcd s)/\(qcd s).find? fit=(qcd r).find? fit) (fun wr=>qrU wr bS)
 case atStart=>exact⟨s,h0,hl,fun _ h=>h,rfl⟩
 case round=>
  obtain⟨r,hJ,hrl,hm,hf⟩:=hrel;obtain⟨d1,d2,d3,d4⟩:=hc _ _ hJ;have hix:=Tryd.strings_Index_one ⟨⟨r⟩⟩ 59;rcases idxB 59 r with⟨e,hn⟩|⟨i,e,hi,hs2,hn⟩
  ·have hsr:=qmJ hn
   obtain⟨fn,tmps,assign,body,hy,hR⟩:=hY r r wr hJ (hm r (by rw[hsr];simp))
   gi_wp2_with (refine⟨trivial,rfl,?_⟩;gi_at_call 46;refine(callsIn_wide.2 (hix _)).mono ?_;rintro e' w' ⟨rfl,rfl⟩;rw[show Lib.indexByte (⟨⟨r⟩⟩:ByteArray).data.toList 59= -1 from e])
   refine⟨rfl,hR.mono ?_⟩;rintro e3 W3 (⟨hp,rfl,hJ3⟩|⟨hp,rfl,hx3⟩)
   ·gi_wp2
    go_end0
    exact⟨⟨_,rfl⟩, .inl ⟨r,hJ3,by rw[hf,hsr];simp[hp]⟩⟩
   ·gi_wp2
    go_end0
    exact⟨⟨_,rfl⟩, .inr ⟨r,hx3,by rw[hf,hsr];simp[hp]⟩⟩
  ·have hsr:=qpf (r.drop (i+1)) hn
   rw[<-hs2]at hsr;clear hs2;obtain⟨fn,tmps,assign,body,hy,hR⟩:=hY r (r.take i) wr hJ (hm _ (by rw[hsr];simp));have hex:(⟨⟨r⟩⟩:ByteArray).extract 0 i=⟨⟨r.take i⟩⟩:=by rw[extract_mk];simp
   rw[<-hex]at hy;clear hex;have b1:¬(i:Int)<0:=by omega
   have b2:wrap64 ((i:Int)+0)=i:=by unfold wrap64;omega
   have b3:(0:Int)<=i:=by omega
   have b4:(i:Int)<=((⟨⟨r⟩⟩:ByteArray).size:Nat):=by show(i:Int)<=(r.length:Nat);omega
   gi_wp2_with (refine⟨trivial,rfl,?_⟩;gi_at_call 46;refine(callsIn_wide.2 (hix _)).mono ?_;rintro e' w' ⟨rfl,rfl⟩;rw[show Lib.indexByte (⟨⟨r⟩⟩:ByteArray).data.toList 59=(i:Int)from e])
   refine⟨rfl,hR.mono ?_⟩;rintro e3 W3 (⟨hp,rfl,hJ3⟩|⟨hp,rfl,hx3⟩)
   ·obtain⟨f1,f2,f3,f4⟩:=hc _ _ hJ3
    have b5:wrap64 ((i:Int)+1)=i+1:=by unfold wrap64;omega
    have b6:(0:Int)<=i+1:=by omega
    have b7:(i:Int)+1<=((⟨⟨r⟩⟩:ByteArray).size:Nat):=by show(i:Int)+1<=(r.length:Nat);omega
    gi_wp2
    have hex:(⟨⟨r⟩⟩:ByteArray).extract (i+1) r.length=⟨⟨r.drop (i+1)⟩⟩:=by
     rw[extract_mk,List.take_of_length_le (by simp)]
    have hle:∀(A:World) (x:Str),J x A->qrU A bS=x.length:=fun A x hA=>by
     unfold qrU;rw[(hc _ _ hA).1];rfl
    have hJ4:=hs r (r.drop (i+1)) W3 hJ3;rw[hex,hle _ _ hJ4,hle _ _ hJ];refine⟨⟨_,hJ4,by rw[K5];omega,fun p hp'=>hm p (by rw[hsr];exact Jf _ hp'),by rw[hf,hsr];simp[hp]⟩,by rw[K5];omega⟩
   ·gi_wp2
    refine bodyPost_ret (results_none rfl _ _ _) rfl ?_;exact⟨⟨_,rfl⟩, .inr ⟨r.take i,hx3,by rw[hf,hsr];simp[hp]⟩⟩
attribute [local go_sem] Oper.semAt_some
theorem qdP{P:Program}{f:FuncId}{args:List AVal}{vals:List Value}{w:World}{V:AVal}{val:Value}(hv:VRs (fun _=>none) args vals)(hc:ACall P w f args (fun _=>none) (fun x h'=>x=V/\h'=fun _=>none))
 (hV:∀Ps v,VR Ps V v->v=val) (hcalls:∃fn,P.funcs[f]?=some fn/\fn.body.isSome=true):Calls P f vals.toArray w fun e w'=>e= .returned val/\Below w.heap.size w w':=by
 rcases hc _ vals w (HRel.start w) hv with⟨fn,_,_,_,h4⟩|⟨v,w',h1,_⟩
 ·refine h4.mono fun e w' ⟨v,he,Ps,x,h',e1,e2,e3,e4,e5⟩=>?_
  subst he e4;exact⟨by rw[hV Ps v e3],e2.below⟩
 ·exfalso
  obtain⟨fn,g1,g2⟩:=hcalls;have hb:¬fn.body=none:=fun e=>by rw[e]at g2;cases g2
  simp only[callFunc,Sem.run_bind,run_program,Result.andThen_ok,g1]at h1;split at h1
  ·simp at h1
  ·simp[hb]at h1
theorem qry{w W:World}(hb:Below w.heap.size w W)(h:AHeap){l:AM.Loc}{o:Nat}(hl:(rd w (fun _=>none) l o).live=true):rd W h l o=rd w (fun _=>none) l o:=by
 cases l with
 |own k=>simp[AM.rd,AVal.live]at hl
 |base b=>
  simp only[AM.rd]at hl|-
  by_cases hlt:b<w.heap.size
  ·have h2:b<W.heap.size:=Nat.lt_of_lt_of_le hlt hb.size
   simp only[hlt,h2,if_true];rw[hb.cell (p:=⟨b,o,none⟩) hlt]
  ·simp[hlt,AVal.live]at hl
theorem qhs{w W:World}(hb:Below w.heap.size w W)(h:AHeap){l:AM.Loc}:∀(n o:Nat),allLive (qC w (fun _=>none) l o n)=true->qC W h l o n=qC w (fun _=>none) l o n
 |0,_,_=>rfl
 |n+1,o,hl=>by
  simp only[qC,allLive,Ky]at hl|-
  rw[qry hb h hl.1,qhs hb h n _ hl.2]
theorem qjG{w W:World}(hb:Below w.heap.size w W){es:Nat}{v:AVal}{xs:List (List AVal)}(hv:IsL w (fun _=>none) es v xs)(h:AHeap):IsL W h es v xs:=by
 cases hv with
 |nil=>exact .nil
 |mk l o n c xs hn hw hc hl hcap=>exact .mk l o n c xs hn hw ((qhs hb h _ _ (by rw[hc];exact hl)).trans hc) hl hcap
structure PAt(w:World)(bp op:Nat)(vl:Value)(at_:Nat)(l:List TokC):Prop where
 c0:w.cell? ⟨bp,op,none⟩=some vl
 c1:w.cell? ⟨bp,op+1,none⟩=some (.int .i64 at_)
 tok:IsL w (fun _=>none) 5 (qY vl) (l.map Zh)
theorem PAt.below{w W:World}{bp op:Nat}{vl:Value}{at_:Nat}{l:List TokC}(hp:PAt w bp op vl at_ l)(hb:Below w.heap.size w W):PAt W bp op vl at_ l:=by
 have hlt:bp<w.heap.size:=qhI hp.c0;exact⟨(hb.cell (p:=⟨bp,op,none⟩) hlt).trans hp.c0,(hb.cell (p:=⟨bp,op+1,none⟩) hlt).trans hp.c1,qjG hb hp.tok _⟩
theorem qhF{w:World}{b o:Nat}{v:Value}(hc:w.cell? ⟨b,o,none⟩=some v)(h:AHeap):rd w h (.base b) o=qY v:=by
 simp only[AM.rd,qhI hc,if_true,hc]
theorem k_fits(w:World)(ha:Asp w)(bq bp op:Nat)(vl:Value)(at_:Nat)(l:List TokC)(hP:PAt w bp op vl at_ l)(hq:w.cell? ⟨bq,0,none⟩=some (.pointer (some ⟨bp,op,none⟩)))(form:Str)(hl:l.length<=1000000)(hat:at_<=l.length)(hf:form.length<=1000000)(hfa:asciiB form=true):
 Calls Tryd.prog 79 #[.string ⟨⟨form⟩⟩, .pointer (some ⟨bq,0,none⟩)] w fun e w'=>e= .returned (.int .i64 (qaW l at_ form))/\Below w.heap.size w w':=
 qdP (args:=[.str form, .ptr (.base bq) 0]) (vals:=[.string ⟨⟨form⟩⟩, .pointer (some ⟨bq,0,none⟩)]) (V:= .int .i64 (qaW l at_ form)) (by simp only[VRs,VR,XU];exact⟨_,_,rfl,rfl,_,_,rfl,⟨_,rfl,rfl⟩,rfl⟩)
  (c_fits w ha _ bq 0 bp op (qY vl) l at_ form (fun h=>qhF hq h) (fun h=>qhF hP.c0 h) (fun h=>qhF hP.c1 h) (fun h=>qjG (Below.refl _ _) hP.tok h) hl hat hf hfa) (fun Ps v hv=>hv) ⟨_,Tryd.func79,rfl⟩
theorem k_canon(w:World)(ha:Asp w)(form:Str)(hf:form.length<=1000000)(hfa:asciiB form=true):
 Calls Tryd.prog 81 #[.string ⟨⟨form⟩⟩] w fun e w'=>e= .returned (.string ⟨⟨qcL form⟩⟩)/\Below w.heap.size w w':=
 qdP (args:=[.str form]) (vals:=[.string ⟨⟨form⟩⟩]) (V:= .str (qcL form)) (by simp only[VRs,VR];exact⟨_,_,rfl,rfl,rfl⟩) (c_canon w ha _ form hf hfa) (fun Ps v hv=>hv) ⟨_,Tryd.func81,rfl⟩
theorem qib{s:Str}:∀p∈qcd s,p.length<=s.length/\∀b∈p,b∈s:=by
 have go:∀(s acc:Str),∀p∈WK 59 acc s,p.length<=acc.length+s.length/\∀b∈p,b∈acc\/b∈s:=by
  intro s;induction s with
  |nil=>
   intro acc p hp;simp only[WK,V4]at hp;subst hp;exact⟨by simp,fun b hb=> .inl hb⟩
  |cons c s ih=>
   intro acc p hp;rw[WK]at hp;split at hp
   ·rcases KW.1 hp with q|q
    ·subst q;exact⟨by simp,fun b hb=> .inl hb⟩
    ·obtain⟨h1,h2⟩:=ih [] p q
     refine⟨by simp only[JD,KX]at h1|-;omega,fun b hb=>?_⟩;rcases h2 b hb with z|z
     ·cases z
     ·exact .inr (Jf _ z)
   ·obtain⟨h1,h2⟩:=ih _ p hp
    refine⟨by simp only[Jb,KX,JD]at h1|-;omega,fun b hb=>?_⟩;rcases h2 b hb with z|z
    ·rcases JS.1 z with y|y
     ·exact .inl y
     ·rw[V4.1 y];exact .inr (by simp)
    ·exact .inr (Jf _ z)
 intro p hp;obtain⟨h1,h2⟩:=go s [] p hp;exact⟨by simpa using h1,fun b hb=>(h2 b hb).resolve_left (by simp)⟩
theorem qlj{s:Str}(h:asciiB s=true):∀p∈qcd s,asciiB p=true:=fun p hp=>by
 unfold asciiB at h|-
 rw[List.all_eq_true]at h|-
 exact fun b hb=>h b ((qib p hp).2 b hb)
attribute [local go_sem] Oper.semAt_some
structure SpJ(W0:World)(bS:Nat)(rec:LoopState->Option Code->Loop)(r:Str)(W:World):Prop where
 os:W.os=W0.os
 tape:W.tape=W0.tape
 output:W.output=W0.output
 size:W0.heap.size+2<=W.heap.size
 block:∀k,k<W0.heap.size->k≠bS->W.heap[k]?=W0.heap[k]?
 cell:W.heap[bS]?=some (.cells #[.string ⟨⟨r⟩⟩] 9 (0,0))
 recd:W.heap[W0.heap.size+1]?=some (.loop (rec .ready none))
 dfr:W.heap[W0.heap.size]?=some (.deferred (some []))
theorem heap_setCell_same(W:World)(b:Nat)(c v:Value)(t:TypeId)(h:W.heap[b]?=some (.cells #[c] t (0,0))):(W.setCell ⟨b,0,none⟩ v).heap[b]?=some (.cells #[v] t (0,0)):=by
 simp only[World.setCell,Array.getElem?_modify,if_true,h];rfl
theorem cell_of_one{W:World}{b:Nat}{c:Value}{t:TypeId}(h:W.heap[b]?=some (.cells #[c] t (0,0))):W.cell? ⟨b,0,none⟩=some c/\W.frozen? ⟨b,0,none⟩=false:=by
 constructor
 ·simp[World.cell?,h]
 ·simp[World.frozen?,h]
theorem qhY{w V:World}{B:Nat}{s:Str}{n:Nat}{T:Array Value}(HB:Hid (B=w.heap.size))(h1:V.heap[B+1]?=some (.cells #[.string ⟨⟨s⟩⟩] 9 (0,0)))(h2:V.heap[B+2]?=some (.cells #[.int .i64 n] 3 (0,0)))
 (hD:V.heap[B+7]?=some (.deferred (some []))) (hB:Below B w V) (t4:T.getD 4 undef= .pointer (some ⟨B+1,0,none⟩):=by rfl) (t5:T.getD 5 undef= .pointer (some ⟨B+2,0,none⟩):=by rfl):
 bodyPostM Fence.wide 0 Tryd.prog Tryd.f58 (fun e w'=>e= .returned (.tuple #[.string ⟨⟨s⟩⟩, .int .i64 n])/\Below w.heap.size w w') .ret {tmps:=T,defers:=[{target:= .collected (B+7),args:= #[]}]} V:=by
 refine⟨by simp, .inl ⟨_,_,rfl,run_takeDeferred hD,?_⟩⟩;obtain⟨c1,-⟩:=cell_of_one ((World.putObj_heap_other (o:= .deferred none) (show B+1≠B+7 by omega)).trans h1);obtain⟨c2,-⟩:=cell_of_one ((World.putObj_heap_other (o:= .deferred none) (show B+2≠B+7 by omega)).trans h2);have hB':=HB.out;refine⟨.tuple #[.string ⟨⟨s⟩⟩, .int .i64 n],?_,rfl,?_⟩
 ·rw[Ku]at t4 t5
  simp[results,Tryd.f58,go_sem,c1,c2,t4,t5]
 ·rw[<-hB']
  exact⟨hB.os,hB.tape,hB.output,by rw[World.putObj_size];exact hB.size,fun k hk=>(World.putObj_heap_other (by omega)).trans (hB.block k hk)⟩
theorem qrY(w:World)(ha:Asp w)(bp op:Nat)(vl:Value)(at_:Nat)(l:List TokC)(hP:PAt w bp op vl at_ l)(forms:Str)(hl:l.length<=1000000)(hat:at_<=l.length)(hf:forms.length<=1000000)(hfa:asciiB forms=true):
 Calls Tryd.prog 58 #[.pointer (some ⟨bp,op,none⟩), .string ⟨⟨forms⟩⟩] w fun e w'=>e= .returned (.tuple #[.string ⟨⟨(Xr l at_ forms).1⟩⟩, .int .i64 (Xr l at_ forms).2])/\Below w.heap.size w w':=by
 refine(callsIn_wide (n:=0)).1 ?_;refine callsIn_of_wp_marks Tryd.func58 rfl trivial ?_ rfl;simp only[Tryd.ntmps58,KC,KX,JD,Nat.reduceAdd,Nat.reduceSub,Bb,Bc,Bd,Be,Jd,Kh];have hsp:=qnl ⟨⟨forms⟩⟩
 gi_wp2_with (refine⟨trivial,rfl,?_⟩;gi_at_call 80;refine(callsIn_wide.2 (hsp _)).mono ?_;rintro e' w' ⟨rfl,hw'⟩;subst hw')
 obtain⟨W0,hW0⟩:∃W0,(((((((w.alloc (Obj.cells #[Value.pointer (some ⟨bp,op,none⟩)] 58)).alloc (Obj.cells #[Value.string ⟨#[]⟩] 9)).alloc (Obj.cells #[Value.int IntKind.i64 0] 3)).alloc
  (Obj.cells #[Value.func (Fn.func 79) #[] #[Value.pointer (some ⟨w.heap.size,0,none⟩)]] 148)).alloc (Obj.cells #[Value.string ⟨⟨forms⟩⟩] 9)).alloc (Obj.cells #[Value.string ⟨#[59]⟩] 9)).alloc (Obj.cells #[Value.int IntKind.i64 0] 3))=W0:=⟨_,rfl⟩
 obtain⟨B,hB⟩:∃B,B=w.heap.size:=⟨_,rfl⟩
 have z:W0.heap.size=B+7/\Below B w W0/\W0.heap[B]?=some (.cells #[.pointer (some ⟨bp,op,none⟩)] 58 (0,0))/\W0.heap[B+1]?=some (.cells #[.string ⟨#[]⟩] 9 (0,0))/\W0.heap[B+2]?=some (.cells #[.int .i64 0] 3 (0,0))/\
  W0.heap[B+3]?=some (.cells #[.func (.func 79) #[] #[.pointer (some ⟨B,0,none⟩)]] 148 (0,0))/\W0.heap[B+4]?=some (.cells #[.string ⟨⟨forms⟩⟩] 9 (0,0))/\W0.heap[B+5]?=some (.cells #[.string ⟨#[59]⟩] 9 (0,0))/\W0.heap[B+6]?=some (.cells #[.int .i64 0] 3 (0,0)):=by
  subst hW0 hB;have hp:∀(A:World) (o:Obj) (k:Nat),(A.alloc o).heap[k]?=if k=A.heap.size then some o else A.heap[k]?:=fun A o k=>by
   show(A.heap.push o)[k]?=_
   rw[Bf]
  refine⟨by simp,?_,?_,?_,?_,?_,?_,?_,?_⟩
  ·repeat (first|exact Below.refl _ _|refine Below.alloc ?_ (by first|exact KL _|(simp only[World.size_alloc];omega)) _)
  all_goals (simp only[hp,World.size_alloc];repeat (first|rfl|rw[if_pos (by omega)]|rw[if_neg (by omega)]))
 rw[hW0];clear hW0 hsp;obtain⟨z0,zb,z1,z2,z3,z4,z5,z6,z7⟩:=z;simp only[<-hB,Nat.add_assoc,Nat.reduceAdd];have HB:Hid (B=w.heap.size):=hB;clear hB;refine wpIn_rangeFunc ?_;intro fn hfn;have eg:∀args w,(callFunc 99 args).run Tryd.prog w= .ok (.enter 99 args) w:=enters_of Tryd.func99 (by kernel_rfl) rfl;generalize hT:(#[Value.pointer (some ⟨bp,op,none⟩),Value.string ⟨⟨forms⟩⟩,Value.pointer (some ⟨B,0,none⟩),undef,Value.pointer (some ⟨B+1,0,none⟩),Value.pointer (some ⟨B+2,0,none⟩),Value.pointer (some ⟨B+3,0,none⟩),undef,undef,
  Value.func (Fn.func 79) #[] #[Value.pointer (some ⟨B,0,none⟩)],Value.string ⟨⟨forms⟩⟩,Value.func (Fn.func 99) #[] #[Value.pointer (some ⟨B+5,0,none⟩),Value.pointer (some ⟨B+4,0,none⟩),Value.pointer (some ⟨B+6,0,none⟩)],
  undef,undef,undef,undef,undef,undef,undef,undef,undef]:Array Value)=T
 generalize hA:Code.region 3 _ false=assign;generalize hC:Code.block 1 _=body;obtain⟨rec,hrec⟩:∃rec:LoopState->Option Code->Loop,rec=fun st pe=>{state:=st,pending:=pe,fn,tmps:=T,params:= #[12],assign,body,defers:=W0.heap.size}:=⟨_,rfl⟩
 obtain⟨W1,hW1⟩:∃W1,(W0.alloc (.deferred (some []))).alloc (.loop (rec .ready none))=W1:=⟨_,rfl⟩
 refine⟨W0.heap.size+1,[{target:= .collected W0.heap.size,args:= #[]}],W1,{target:= .fn (.func 99) #[Value.pointer (some ⟨B+5,0,none⟩),Value.pointer (some ⟨B+4,0,none⟩),Value.pointer (some ⟨B+6,0,none⟩)],args:= #[.func (.yield (W0.heap.size+1)) #[] #[]]},W1,99,
  #[.func (.yield (W0.heap.size+1)) #[] #[],Value.pointer (some ⟨B+5,0,none⟩),Value.pointer (some ⟨B+4,0,none⟩),Value.pointer (some ⟨B+6,0,none⟩)],W1,?_,?_,?_,?_,(fun h=>by simp[Fence.wide]at h),?_⟩
 ·rw[<-hW1,hrec];exact run_enterLoop_outer _ _ _ _ _
 ·subst hT
  simp only[resolve];simp[go_sem]
 ·intro f' hf';trivial
 ·simp[invoke,go_sem,eg]
 have hJ0:SpJ W0 (B+4) rec forms W1:=by
  have hp:∀(A:World) (o:Obj) (k:Nat),(A.alloc o).heap[k]?=if k=A.heap.size then some o else A.heap[k]?:=fun A o k=>by
   show(A.heap.push o)[k]?=_
   rw[Bf]
  subst hW1;refine⟨rfl,rfl,rfl,by simp,fun k hk _=>?_,?_,?_,?_⟩
  ·rw[hp,hp,if_neg (by simp only[World.size_alloc];omega),if_neg (by omega)]
  ·rw[hp,hp,if_neg (by simp only[World.size_alloc];omega),if_neg (by omega)];exact z5
  ·rw[hp,if_pos (by simp only[World.size_alloc])]
  ·rw[hp,hp,if_neg (by simp only[World.size_alloc];omega),if_pos rfl]
 refine(qrv (W0.heap.size+1) (B+4) (B+5) (B+6) (SpJ W0 (B+4) rec) (fun p W=>Below B w W/\W.heap[B+1]?=some (.cells #[.string ⟨⟨qcL p⟩⟩] 9 (0,0))/\W.heap[B+2]?=some (.cells #[.int .i64 (qaW l at_ p)] 3 (0,0))/\
  W.heap[W0.heap.size+1]?=some (.loop (rec .done (some .ret)))/\W.heap[W0.heap.size]?=some (.deferred (some []))) (fun p=>decide (0<qaW l at_ p)) ?_ ?_ forms hf ?_ W1 hJ0).mono ?_
 ·intro r W hJ
  have g5:=hJ.block (B+5) (by omega) (by omega);have g6:=hJ.block (B+6) (by omega) (by omega);rw[z6]at g5;rw[z7]at g6;exact⟨(cell_of_one hJ.cell).1,(cell_of_one hJ.cell).2,(cell_of_one g5).1,(cell_of_one g6).1⟩
 ·intro r r' W hJ
  refine⟨hJ.os,hJ.tape,hJ.output,by rw[World.size_setCell];exact hJ.size,fun k hk hne=>?_,heap_setCell_same W (B+4) _ _ _ hJ.cell,?_,?_⟩
  ·rw[Below.heap_setCell _ _ _ _ hne];exact hJ.block k hk hne
  ·rw[Below.heap_setCell _ _ _ _ (show W0.heap.size+1≠B+4 by omega)];exact hJ.recd
  ·rw[Below.heap_setCell _ _ _ _ (show W0.heap.size≠B+4 by omega)];exact hJ.dfr
 ·intro r p W hJ hp
  have hpl:=(qib p hp).1;have hpa:=qlj hfa p hp;have hy:=run_yield (P:=Tryd.prog) (args:= #[.string ⟨⟨p⟩⟩]) hJ.recd (by rw[hrec];rfl);have hyf:(rec .ready none).fn=fn/\(rec .ready none).assign=assign/\(rec .ready none).body=body/\(rec .ready none).state= .ready/\(rec .ready none).tmps=T/\(rec .ready none).params= #[12]:=by rw[hrec];exact⟨rfl,rfl,rfl,rfl,rfl,rfl⟩
  obtain⟨y1,y2,y3,y4,y5,y6⟩:=hyf;rw[y1,y2,y3,y5,y6]at hy;refine⟨fn,_,assign,body,hy,roundIn_of_wpIn trivial ?_⟩;clear hy;subst hA;subst hT
  gi_wp2
  refine⟨_,run_beginRound hJ.recd y4,?_⟩;obtain⟨Wb,hWb⟩:∃Wb,W.putObj (W0.heap.size+1) (.loop {rec .ready none with state:= .busy})=Wb:=⟨_,rfl⟩
  rw[hWb];have hlt:W0.heap.size+1<W.heap.size:=(Bg.1 hJ.recd).1;have u1:Wb.heap[W0.heap.size+1]?=some (.loop {rec .ready none with state:= .busy}):=by rw[<-hWb];exact World.putObj_heap_same hlt
  have u2:∀k,k≠W0.heap.size+1->Wb.heap[k]?=W.heap[k]?:=fun k hk=>by rw[<-hWb];exact World.putObj_heap_other hk
  have u3:∀k,k<B+7->k≠B+4->Wb.heap[k]?=W0.heap[k]?:=fun k hk hne=>by rw[u2 k (by omega)];exact hJ.block k (by omega) hne
  have u4:Wb.heap.size=W.heap.size:=by rw[<-hWb];simp
  have u5:Below B w Wb:=⟨by rw[<-hWb];exact hJ.os.trans zb.os,by rw[<-hWb];exact hJ.tape.trans zb.tape,by rw[<-hWb];exact hJ.output.trans zb.output,by have:=zb.size;have:=hJ.size;omega,fun k hk=>by rw[u3 k (by omega) (by omega)];exact zb.block k hk⟩
  have haW:Asp Wb:=by have hB:=HB.out;subst hB;exact ha.later u5
  have hPW:PAt Wb bp op vl at_ l:=by have hB:=HB.out;subst hB;exact hP.below u5
  have v0:=cell_of_one ((u3 B (by omega) (by omega)).trans z1);have v3:=cell_of_one ((u3 (B+3) (by omega) (by omega)).trans z4);have hft:=k_fits Wb haW B bp op vl at_ l hPW v0.1 p hl hat (by omega) hpa;have HC:Hid (∀A,Asp A->Calls Tryd.prog 81 #[.string ⟨⟨p⟩⟩] A fun e w'=>e= .returned (.string ⟨⟨qcL p⟩⟩)/\Below A.heap.size A w'):=fun A hA=>k_canon A hA p (by omega) hpa;obtain⟨c3,-⟩:=v3;subst hC;have fin:∀(jump:Option Code) (V:World),Below Wb.heap.size Wb V\/(V.heap[W0.heap.size+1]?=Wb.heap[W0.heap.size+1]?/\V.heap[W0.heap.size]?=Wb.heap[W0.heap.size]?)->
   (Instr.endRound (W0.heap.size+1) jump).run Tryd.prog V= .ok (.bool jump.isNone) (V.putObj (W0.heap.size+1) (.loop (rec (if jump.isNone then .ready else .done) jump)))/\
   (V.putObj (W0.heap.size+1) (.loop (rec (if jump.isNone then .ready else .done) jump))).heap[W0.heap.size+1]?=some (.loop (rec (if jump.isNone then .ready else .done) jump))/\
   (V.putObj (W0.heap.size+1) (.loop (rec (if jump.isNone then .ready else .done) jump))).heap[W0.heap.size]?=some (.deferred (some [])):=fun jump V hV=>by
   have hv1:V.heap[W0.heap.size+1]?=some (.loop {rec .ready none with state:= .busy}):=by
    rcases hV with hV|⟨hV,-⟩
    ·rw[hV.block _ (by omega)];exact u1
    ·rw[hV];exact u1
   have hv2:V.heap[W0.heap.size]?=some (.deferred (some [])):=by
    rcases hV with hV|⟨-,hV⟩
    ·rw[hV.block _ (by omega),u2 _ (by omega)];exact hJ.dfr
    ·rw[hV,u2 _ (by omega)];exact hJ.dfr
   have:=run_endRound (P:=Tryd.prog) jump hv1;refine⟨?_,World.putObj_heap_same (Bg.1 hv1).1,(World.putObj_heap_other (by omega)).trans hv2⟩;rw[this,hrec]
  have HF:Hid _:=fin;clear fin;rcases Nat.eq_zero_or_pos (qaW l at_ p)with hz|hz
  ·gi_wp2_with (refine⟨trivial,rfl,?_⟩;gi_at_call 79;refine(CallsIn.inRound _ (callsIn_wide.2 hft)).mono ?_;rintro e' V ⟨rfl,hV⟩)
   obtain⟨f1,f2,f3⟩:=HF.out none V (.inl hV);refine⟨_,_,f1, .inl ⟨by simp[hz],rfl,?_⟩⟩;have g0:∀k,k<Wb.heap.size->k≠W0.heap.size+1->(V.putObj (W0.heap.size+1) (.loop (rec (if (none:Option Code).isNone then .ready else .done) none))).heap[k]?=Wb.heap[k]?:=fun k hk hne=>by
    rw[World.putObj_heap_other hne,hV.block k hk]
   refine⟨?_,?_,?_,?_,fun k hk hne=>?_,?_,f2,f3⟩
   ·show V.os=W0.os;rw[hV.os,<-hWb];exact hJ.os
   ·show V.tape=W0.tape;rw[hV.tape,<-hWb];exact hJ.tape
   ·show V.output=W0.output;rw[hV.output,<-hWb];exact hJ.output
   ·rw[World.putObj_size];have:=hV.size;have:=hJ.size;omega
   ·rw[g0 k (by omega) (by omega)];exact u3 k (by omega) hne
   ·rw[g0 _ (by omega) (by omega),u2 _ (by omega)];exact hJ.cell
  ·have hz':decide (0<qaW l at_ p)=true:=by simp[hz]
   have m1:=(u3 (B+1) (by omega) (by omega)).trans z2;have m2:=(u3 (B+2) (by omega) (by omega)).trans z3;have HA:Hid (Asp Wb):=haW;have HZ:Hid (B+7+2<=Wb.heap.size):=by have:=hJ.size;unfold Hid;omega
   clear haW hPW
   gi_wp2_with (refine⟨trivial,rfl,?_⟩;gi_at_call 79;refine(CallsIn.inRound _ (callsIn_wide.2 hft)).mono ?_;rintro e' V ⟨rfl,hV⟩)
   refine⟨trivial,rfl,(CallsIn.inRound _ (callsIn_wide.2 (HC.out V (HA.out.later hV)))).mono ?_⟩;rintro e' V2 ⟨rfl,hV2⟩;have hVV:Below Wb.heap.size Wb V2:=hV.trans (hV2.mono hV.size);have hz2:=HZ.out;have n1:=(hVV.block (B+1) (by omega)).trans m1;have n2:=(hVV.block (B+2) (by omega)).trans m2;obtain⟨n1c,n1f⟩:=cell_of_one n1;obtain⟨n2c,n2f⟩:=cell_of_one n2;clear hz2
   gi_wp2
   obtain⟨V3,hV3⟩:∃V3,(V2.setCell ⟨B+1,0,none⟩ (Value.string ⟨⟨qcL p⟩⟩)).setCell ⟨B+2,0,none⟩ (Value.int .i64 (qaW l at_ p))=V3:=⟨_,rfl⟩
   rw[hV3];have hz2:=HZ.out;have q0:∀k,k≠B+1->k≠B+2->k<Wb.heap.size->V3.heap[k]?=Wb.heap[k]?:=fun k k1 k2 k3=>by
    rw[<-hV3,Below.heap_setCell _ _ _ _ k2,Below.heap_setCell _ _ _ _ k1,hVV.block k k3]
   obtain⟨f1,f2,f3⟩:=HF.out (some .ret) V3 (.inr ⟨q0 _ (by omega) (by omega) (by omega),q0 _ (by omega) (by omega) (by omega)⟩);refine⟨_,_,f1, .inr ⟨hz',rfl,?_,?_,?_,f2,f3⟩⟩
   ·refine⟨?_,?_,?_,?_,fun k hk=>?_⟩
    ·show V3.os=w.os;rw[<-hV3];exact hVV.os.trans u5.os
    ·show V3.tape=w.tape;rw[<-hV3];exact hVV.tape.trans u5.tape
    ·show V3.output=w.output;rw[<-hV3];exact hVV.output.trans u5.output
    ·rw[World.putObj_size,<-hV3,World.size_setCell,World.size_setCell];exact Vb u5.size hVV.size
    ·rw[World.putObj_heap_other (by omega),q0 k (by omega) (by omega) (by omega)];exact u5.block k hk
   ·rw[World.putObj_heap_other (by omega),<-hV3,Below.heap_setCell _ _ _ _ (show B+1≠B+2 by omega)]
    exact heap_setCell_same V2 _ _ _ _ n1
   ·rw[World.putObj_heap_other (by omega),<-hV3]
    refine heap_setCell_same _ _ (.int .i64 0) _ _ ?_;rw[Below.heap_setCell _ _ _ _ (show B+2≠B+1 by omega)];exact n2
 ·rintro e W2 ⟨⟨v,rfl⟩,h⟩
  have pend:∀st j,(rec st j).pending=j:=fun st j=>by rw[hrec]
  have stat:∀st j,(rec st j).state=st:=fun st j=>by rw[hrec]
  have out:∀(st:LoopState) (j:Option Code),st≠ .busy->W2.heap[W0.heap.size+1]?=some (.loop (rec st j))->∃V,(Instr.endLoop (W0.heap.size+1)).run Tryd.prog W2= .ok j V/\(∀k,k≠W0.heap.size+1->V.heap[k]?=W2.heap[k]?)/\V.os=W2.os/\V.tape=W2.tape/\V.output=W2.output/\V.heap.size=W2.heap.size:=fun st j hst hl=>by
   refine⟨_,(run_endLoop (P:=Tryd.prog) hl (by rw[stat];exact hst)).trans (by rw[pend]),fun k hk=>World.putObj_heap_other hk,rfl,rfl,rfl,by simp⟩
  clear hrec pend stat hJ0 hW1;subst hT;rcases h with⟨r,hJ,hfd⟩|⟨p,⟨j1,j2,j3,j4,j5⟩,hfd⟩
  ·have hst:Xr l at_ forms=([],0):=by unfold Xr;rw[hfd]
   obtain⟨V,e1,e2,e3,e4,e5,e6⟩:=out .ready none (by simp) hJ.recd;refine⟨none,V,e1,?_⟩;have i1:V.heap[B+1]?=some (.cells #[.string ⟨#[]⟩] 9 (0,0)):=by rw[e2 _ (by omega),hJ.block _ (by omega) (by omega)];exact z2
   have i2:V.heap[B+2]?=some (.cells #[.int .i64 0] 3 (0,0)):=by rw[e2 _ (by omega),hJ.block _ (by omega) (by omega)];exact z3
   have iD:V.heap[W0.heap.size]?=some (.deferred (some [])):=by rw[e2 _ (by omega)];exact hJ.dfr
   have iB:Below B w V:=⟨by rw[e3,hJ.os];exact zb.os,by rw[e4,hJ.tape];exact zb.tape,by rw[e5,hJ.output];exact zb.output,by have:=zb.size;have:=hJ.size;omega,fun k hk=>by rw[e2 k (by omega),hJ.block k (by omega) (by omega)];exact zb.block k hk⟩
   obtain⟨i1c,i1f⟩:=cell_of_one i1;obtain⟨i2c,i2f⟩:=cell_of_one i2;clear out hJ e1 e2 e3 e4 e5 e6
   gi_wp2
   obtain⟨V2,hV2⟩:∃V2,(V.setCell ⟨B+1,0,none⟩ (Value.string ⟨#[]⟩)).setCell ⟨B+2,0,none⟩ (Value.int .i64 0)=V2:=⟨_,rfl⟩
   rw[hV2];have q1:V2.heap[B+1]?=some (.cells #[.string ⟨#[]⟩] 9 (0,0)):=by
    rw[<-hV2,Below.heap_setCell _ _ _ _ (show B+1≠B+2 by omega)];exact heap_setCell_same V _ _ _ _ i1
   have q2:V2.heap[B+2]?=some (.cells #[.int .i64 0] 3 (0,0)):=by
    rw[<-hV2];refine heap_setCell_same _ _ (.int .i64 0) _ _ ?_;rw[Below.heap_setCell _ _ _ _ (show B+2≠B+1 by omega)];exact i2
   have qD:V2.heap[B+7]?=some (.deferred (some [])):=by
    rw[<-hV2,Below.heap_setCell _ _ _ _ (show B+7≠B+2 by omega),Below.heap_setCell _ _ _ _ (show B+7≠B+1 by omega),<-z0];exact iD
   have qB:Below B w V2:=by rw[<-hV2];exact(iB.setCell (p:=⟨B+1,0,none⟩) (by simp) _).setCell (p:=⟨B+2,0,none⟩) (by simp) _
   rw[hst];exact qhY HB q1 q2 qD qB
  ·have hst:Xr l at_ forms=(qcL p,qaW l at_ p):=by unfold Xr;rw[hfd]
   obtain⟨V,e1,e2,e3,e4,e5,e6⟩:=out .done (some .ret) (by simp) j4;refine⟨some .ret,V,e1,?_⟩;have iD:V.heap[W0.heap.size]?=some (.deferred (some [])):=by rw[e2 _ (by omega)];exact j5
   have iB:Below B w V:=⟨by rw[e3];exact j1.os,by rw[e4];exact j1.tape,by rw[e5];exact j1.output,by rw[e6];exact j1.size,fun k hk=>by rw[e2 k (by omega)];exact j1.block k hk⟩
   have i1:V.heap[B+1]?=some (.cells #[.string ⟨⟨qcL p⟩⟩] 9 (0,0)):=by rw[e2 _ (by omega)];exact j2
   have i2:V.heap[B+2]?=some (.cells #[.int .i64 (qaW l at_ p)] 3 (0,0)):=by rw[e2 _ (by omega)];exact j3
   clear out e1 e2 e3 e4 e5 e6
   gi_wp2
   rw[hst];exact qhY HB i1 i2 (by rw[<-z0];exact iD) iB
end Go.Proofs.YtgiadjbiimkbiaaDoor
namespace Go.Proofs.YtgiadjbiimkbiaaDoor
open Go.AM
open Go.Proofs
open Go.Col (Str FaultC okF)
open Go.Tok (TokC)
open Go.Stm
open Go.RowKit (Below)
set_option maxRecDepth 100000
def qll:AVal->Bool
 | .bool _=>true
 | .int _ _=>true
 | .str _=>true
 |_=>false
theorem qph{fi:PMap}{x:AVal}{u:Value}(hr:qll x=true)(h:VR fi x u):qY u=x:=by
 cases x<;>simp only[qll,KV]at hr<;>simp only[VR]at h<;>subst h<;>rfl
theorem qhf{w:World}{fi:PMap}{b:Nat}:∀{xs:List AVal} {vs:List Value} {o:Nat},VRs fi xs vs->(∀x∈xs,qll x=true)->(∀j v,vs[j]?=some v->w.cell? ⟨b,o+j,none⟩=some v)->qC w (fun _=>none) (.base b) o xs.length=xs
 |[],_,_,_,_,_=>rfl
 |x::xs,vs,o,h,hr,hc=>by
  simp only[VRs]at h;obtain⟨v,vs',rfl,h1,h2⟩:=h;simp only[KX,qC];have h0:=hc 0 v rfl;rw[K6]at h0;rw[qhF h0,qph (hr x Je) h1,qhf h2 (fun y hy=>hr y (Jf _ hy)) fun j u hj=>by
   have:=hc (j+1) u (by simpa using hj)
   rwa [show o+1+j=o+(j+1) by omega]]
theorem qnn{w0 w:World}{fi:PMap}{h:AHeap}{es:Nat}{v:AVal}{vl:Value}{xs:List (List AVal)}(hr:HRel w0 fi h w)(hv:IsL w0 h es v xs)(hx:VR fi v vl)(hg:∀x∈xs.flatten,qll x=true):IsL w (fun _=>none) es (qY vl) xs:=by
 cases hv with
 |nil=>simp only[VR]at hx;subst hx;exact .nil
 |mk l o n c xs hn hw hc hl hcap=>
  obtain⟨ad,cap,rfl,had⟩:=Yz hx;have hcp:n<=cap:=by
   cases c with
   |exact c=>
    simp only[VR]at hx;obtain⟨a',e1,_⟩:=hx;cases e1;exact hcap
   |grow es=>
    simp only[VR]at hx;obtain⟨k,p,c',a',_,_,e1,hle,_⟩:=hx;cases e1;exact hle
  by_cases h0:n=0
  ·subst h0
   have hxs:xs=[]:=Kg hn.symm;subst hxs;have hsp:cap≠0->ad.spot=none:=fun hc0=>by
    cases c with
    |exact c=>
     simp only[VR]at hx;obtain⟨a',e1,e2⟩:=hx;cases e1;rw[qbI (e2 (.inl hc0))]
    |grow es=>
     simp only[VR]at hx;obtain⟨k,p,c',a',_,_,e1,_,e2⟩:=hx;cases e1;rw[(e2 hc0).1]
   obtain⟨b,of,sp⟩:=ad;have e:qY (.slice (some ⟨b,of,sp⟩) 0 cap)= .slice (.base b) of 0 (.exact cap):=by
    cases sp with
    |none=>rfl
    |some s=>
     by_cases hc0:cap=0
     ·subst hc0;rfl
     ·exact absurd (hsp hc0) (by simp)
   rw[e];exact .mk _ _ _ _ _ rfl (fun x hx=>by cases hx) (by simp[qC]) rfl (Jq _)
  ·have ha:=had h0
   obtain⟨vs,e1,e2,e3⟩:=qdH hr l (n*es) o ad ha (by rw[hc];exact hl);rw[hc]at e2;have hsp:=qbI ha;have hlen:xs.flatten.length=n*es:=by rw[Zw hw,hn]
   have:=qhf (w:=w) (b:=ad.block) (o:=ad.off) e2 hg fun j u hj=>by
    have:=e3 j u hj;rw[hsp]at this;by_cases hj0:j=0
    ·subst hj0;simpa[Addr.add]using this
    ·simpa[Addr.add,hj0]using this
   rw[hlen]at this;obtain⟨b,of,sp⟩:=ad;simp only[Addr.mk.injEq,Kb]at hsp;subst hsp;exact .mk _ _ _ _ _ hn hw this hl hcp
theorem qpb(l:List TokC):∀x∈(l.map Zh).flatten,qll x=true:=by
 intro x hx;obtain⟨y,hy,hm⟩:=List.mem_flatten.1 hx;obtain⟨t,_,rfl⟩:=JI.1 hy;simp only[Zh,KW,List.not_mem_nil,or_false]at hm;rcases hm with rfl|rfl|rfl|rfl|rfl<;>rfl
theorem qem(w0:World)(ha:Asp w0)(h:AHeap)(lp:AM.Loc)(op:Nat)(v:AVal)(l:List TokC)(at_:Nat)(forms:Str)(h0:rd w0 h lp op=v)(h1:rd w0 h lp (op+1)= .int .i64 at_)(hv:IsL w0 h 5 v (l.map Zh))
 (hl:l.length<=1000000) (hat:at_<=l.length) (hf:forms.length<=1000000) (hfa:asciiB forms=true):
 ACall Tryd.prog w0 58 [.ptr lp op, .str forms] h (fun r h'=>r= .tuple [.str (Xr l at_ forms).1, .int .i64 (Xr l at_ forms).2]/\h'=h):=by
 intro fi vals w hr hvs;simp only[VRs,VR]at hvs;obtain⟨u,vs',rfl,⟨a,ea,rfl⟩,u2,vs2,rfl,rfl,rfl⟩:=hvs;have hsp:=qbI ea;obtain⟨a0,vl,q1,q2,q3,-⟩:=hr.rd lp op (by rw[h0];exact hv.live);rw[ea]at q1;cases q1;rw[h0]at q3;obtain⟨a1,vl1,r1,r2,r3,-⟩:=hr.rd lp (op+1) (by rw[h1];rfl);rw[YD ea]at r1;cases r1;rw[h1]at r3;simp only[VR]at r3;subst r3;obtain⟨b,o,sp⟩:=a;simp only[Addr.mk.injEq,Kb]at hsp;subst hsp;have hP:PAt w b o vl at_ l:=⟨q2,by simpa[Addr.add]using r2,qnn hr hv q3 (qpb l)⟩
 exact .inl ⟨_,Tryd.func58,rfl,rfl,(qrY w (ha.later hr.below) b o vl at_ l hP forms hl hat hf hfa).mono fun e w' ⟨e1,e2⟩=>⟨_,e1,fi,_,h,fi.le_refl,hr.later e2,by simp only[VR,VRs];exact⟨_,rfl,_,_,rfl,rfl,_,_,rfl,rfl,rfl⟩,rfl,rfl⟩⟩
end Go.Proofs.YtgiadjbiimkbiaaDoor
namespace Go.AM
open Go.RowKit (Below)
def ACallE(P:Program)(w0:World)(f:FuncId)(args:List AVal)(h:AHeap)(R Rp:AVal->AHeap->Prop):Prop:=
 ∀(fi:PMap) (vals:List Value) (w:World),HRel w0 fi h w->VRs fi args vals->
  ∃fn,P.funcs[f]?=some fn/\(fn.name== "runtime.NumGoroutine")=false/\fn.body.isSome=true/\Calls P f vals.toArray w fun e w'=>
   (∃v,e= .returned v/\∃Ps x h',fi.le Ps/\HRel w0 Ps h' w'/\VR Ps x v/\R x h')\/(∃v,e= .panicked [{v,recovered:=false}]/\∃Ps x h',fi.le Ps/\HRel w0 Ps h' w'/\VR Ps x v/\Rp x h')
abbrev APanic(P:Program)(w0:World)(f:FuncId)(args:List AVal)(h:AHeap)(Rp:AVal->AHeap->Prop):Prop:=ACallE P w0 f args h (fun _ _=>False) Rp
section
variable {P:Program} {w0:World} {f:FuncId} {args:List AVal} {h:AHeap} {R R' Rp Rp':AVal->AHeap->Prop}
theorem ACallE.mono(hc:ACallE P w0 f args h R Rp)(hr:∀x h',R x h'->R' x h')(hp:∀x h',Rp x h'->Rp' x h'):ACallE P w0 f args h R' Rp':=fun fi vals w h1 h2=>by
 obtain⟨fn,a,b,c,d⟩:=hc fi vals w h1 h2;refine⟨fn,a,b,c,d.mono fun e w' q=>?_⟩;rcases q with⟨v,e1,Ps,x,h',e2,e3,e4,e5⟩|⟨v,e1,Ps,x,h',e2,e3,e4,e5⟩
 ·exact .inl ⟨v,e1,Ps,x,h',e2,e3,e4,hr _ _ e5⟩
 ·exact .inr ⟨v,e1,Ps,x,h',e2,e3,e4,hp _ _ e5⟩
theorem ACallE.ok(hc:ACallE P w0 f args h R Rp)(hp:∀x h',¬Rp x h'):ACall P w0 f args h R:=fun fi vals w h1 h2=>by
 obtain⟨fn,a,b,c,d⟩:=hc fi vals w h1 h2;refine .inl ⟨fn,a,b,c,d.mono fun e w' q=>?_⟩;rcases q with q|⟨v,e1,Ps,x,h',e2,e3,e4,e5⟩
 ·exact q
 ·exact(hp _ _ e5).elim
theorem ACallE.bad(hc:ACallE P w0 f args h R Rp)(hr:∀x h',¬R x h'):APanic P w0 f args h Rp:=hc.mono (fun x h' q=>hr x h' q) fun _ _ q=>q
end
def GP(w0:World)(k:Nat)(ds:List Deferred)(s₀:Slots)(Rp:AVal->AHeap->Prop):Exit->PMap->Act->World->Prop:=fun e Ps a w=>
 ∃v,e= .panic [{v,recovered:=false}]/\∃χ x h',Ps.le χ/\HRel w0 χ h' w/\VR χ x v/\Rp x h'/\SRel χ ⟨k,ds,fun _ _ _ _=>False⟩ s₀ a
theorem qaP{P:Program}{w0:World}{f:FuncId}{args:List AVal}{h:AHeap}{R Rp:AVal->AHeap->Prop}{fn:Func}{c:Code}{rs:List ResultVar}{k:Nat}(hf:P.funcs[f]?=some fn)
 (hname:(fn.name== "runtime.NumGoroutine")=false) (hb:fn.body=some c) (hn:fn.ntmps=k) (hrs:fn.results=rs.toArray) (hargs:args.length<=k)
 (hc:Awp P w0 ⟨k,[],GP w0 k [] [] Rp⟩ c (qcW P w0 rs R) (Xe 0 args) h):ACallE P w0 f args h R Rp:=by
 intro fi vals w hr hv;refine⟨fn,hf,hname,by rw[hb];rfl,?_⟩;have hl:=Zm hv;refine calls_of_wp hf hb (wp_mono (hc fi _ w hr ⟨?_,rfl,fun i=>?_⟩) fun e a' w' q=>?_)
 ·simp[hn]
  omega
 ·have:=(qbk fi args vals 0 i hv).2 undef (Jq i)
  by_cases hi:i<vals.length
  ·have e:(vals.toArray++Ju (fn.ntmps-vals.toArray.size) undef).getD i undef=vals.getD i undef:=by
    simp[Ku,Jv,hi,Ko]
   rw[e];simpa using this
  ·have e:(vals.toArray++Ju (fn.ntmps-vals.toArray.size) undef).getD i undef=undef:=by
    simp[Ku,Jv,hi,Array.getElem?_replicate];split<;>simp
   rw[e];have e2:vals.getD (i-0) undef=undef:=by simp[Ko,List.getElem?_eq_none (Nat.le_of_not_lt hi)]
   rw[e2]at this;exact this
 ·rcases q with⟨Ps,s',h',e1,e2,e3,e4⟩|⟨_,Ps,hl1,v,rfl,χ,x,h',g1,g2,g3,g4,g5⟩
  ·cases e<;>simp only[qcW]at e4<;>first
    |exact e4.elim
    |skip
   all_goals
    obtain⟨hp,h'',hsub,hR⟩:=e4;have hrs':rs=fn.results.toList:=by rw[hrs]
    rw[hrs']at hp hR;obtain⟨v,f1,f2⟩:=qdv e2 e3 fn hp;exact⟨e3.defers,v,f1, .inl ⟨v,rfl,Ps,_,h'',e1,e2.forget hsub,f2,hR⟩⟩
  ·exact⟨g5.defers, .inr ⟨v,rfl,χ,x,h',JN hl1 g1,g2,g3,g4⟩⟩
section
variable {P:Program} {w0:World} {k:Nat} {ds:List Deferred} {s₀:Slots} {s:Slots} {h:AHeap} {Rp:AVal->AHeap->Prop} {Q:Exit->Slots->AHeap->Prop} {dst:Option Tmp} {ty:TypeId} {pos:String} {af:Array Edge}
theorem qsr:∀(p q:List Oper),Xt k (p++q)=true->Xt k p=true:=by
 intro p q hp;induction p with
 |nil=>rfl
 |cons o p ih=>
  simp only[Kh,Xt,Ky]at hp|-
  exact⟨hp.1,ih hp.2⟩
theorem qjW{n:FrameK}{id:Nat}{l pre post:List Oper}{o:Oper}(hl:l=pre++o::post)(hg:o.guard=none)(hd:Xt n l=true)
 (hc:Xp P w0 l pre s h (fun s' h'=>∀(fi:PMap) (a:Act) (w:World) (nx:Act->World->Prop) (Q':Exit->Act->World->Prop),HRel w0 fi h' w->SRel fi n s' a->(∀e a' w',qsP e->(∃Ps,fi.le Ps/\n.G e Ps a' w')->Q' e a' w')->o.wp P a w nx Q')):
 Awp P w0 n (.region id l.toArray false) Q s h:=by
 have hdp:Xt n pre=true:=qsr pre _ (hl ▸ hd);intro fi a w hr hs;refine wp_region ?_;rw[KC,List.range_eq_range'];have hlen:l.length=pre.length+(post.length+1):=by rw[hl];simp
 rw[hlen,<-List.range'_append_1];refine qdn (P:=P) (w0:=w0) l n _ hd pre 0 fi s h a w _ _ (fun j hj=>by rw[hl,Jp,List.getElem?_append_left hj]) hdp hc hr hs ?_;intro Ps s' h' a' w' hle hr' hs' hk;have hat:l.toArray[0+pre.length]?=some o:=by
  rw[Jp,hl];simp
 rw[List.range'_succ];simp only[wpOps,hat];rw[if_pos (by simp[Region.wanted,hg])];refine .inl ?_;exact hk Ps a' w' _ _ hr' hs' fun e a'' w'' he ⟨χ,h1,h2⟩=> .inr ⟨he,χ,JN hle h1,h2⟩
theorem qnO{id:Nat}{l pre post:List Oper}{fo:Operand}{args:Array Operand}{ts:Array TypeId}(hl:l=pre++⟨dst, .call ⟨.value fo,args,ts⟩,ty,pos,af,none⟩::post)(hd:Xt k l=true)
 (hc:Xp P w0 l pre s h (fun s' h'=>(∃f cap,ev s' fo= .func f cap/\APanic P w0 f (evs s' args.toList++cap) h' Rp)/\∀i,s₀.get i=s'.get i\/s₀.get i= .dead)):
 Awp P w0 ⟨k,ds,GP w0 k ds s₀ Rp⟩ (.region id l.toArray false) Q s h:=by
 refine qjW (n:=⟨k,ds,GP w0 k ds s₀ Rp⟩) hl rfl hd (awp_rseq.aOps_mono (fun s' h' hk fi a w nx Q' hr hs hq=>?_) hc);obtain⟨⟨f,cap,hf,hcall⟩,hs0⟩:=hk;have hv:=hs.evs args.toList;have hfv:=hs.ev fo;rw[hf]at hfv;simp only[VR]at hfv;obtain⟨vs,hfe,hcap⟩:=hfv;obtain⟨fn,g1,g2,g3,g4⟩:=hcall fi (args.toList.map a.eval++vs) w hr (qbh hv hcap);have hx:(execOp a.eval ⟨dst, .call ⟨.value fo,args,ts⟩,ty,pos,af,none⟩).run P w= .ok (.enter f (args.toList.map a.eval++vs).toArray) w:=by
  have hb:¬fn.body=none:=fun e=>by rw[e]at g3;cases g3
  have hn':¬fn.name= "runtime.NumGoroutine":=by simpa using g2
  have ea:args.map a.eval=(args.toList.map a.eval).toArray:=map_toArray _ _;simp only[execOp,resolve,hfe,Deferred.ofValue,Sem.run_bind,Sem.run_pure,Result.andThen_ok,invoke];rw[ea];simp[callFunc,g1,hn',hb]
 unfold Oper.wp;rw[hx,Oper.upon_enter];refine g4.mono fun e w' q=>?_;rcases q with⟨v,_,Ps,x,h'',_,_,_,q⟩|⟨v,rfl,Ps,x,h'',q1,q2,q3,q4⟩
 ·exact q.elim
 ·refine hq _ _ _ trivial ⟨Ps,q1,v,rfl,Ps,x,h'',Ps.le_refl,q2,q3,q4,⟨hs.size,hs.defers,fun i=>?_⟩⟩
  rcases hs0 i with e|e
  ·rw[e];exact WB q1 _ _ (hs.val i)
  ·rw[e];simp[VR]
theorem qmk{id:Nat}{l pre post:List Oper}{x:Operand}(hl:l=pre++⟨dst, .panic x,ty,pos,af,none⟩::post)(hd:Xt k l=true)
 (hc:Xp P w0 l pre s h (fun s' h'=>(∃t y,ev s' x= .iface t y/\Rp (.iface t y) h')/\∀i,s₀.get i=s'.get i\/s₀.get i= .dead)):
 Awp P w0 ⟨k,ds,GP w0 k ds s₀ Rp⟩ (.region id l.toArray false) Q s h:=by
 refine qjW (n:=⟨k,ds,GP w0 k ds s₀ Rp⟩) hl rfl hd (awp_rseq.aOps_mono (fun s' h' hk fi a w nx Q' hr hs hq=>?_) hc);obtain⟨⟨t,y,hx,hR⟩,hs0⟩:=hk;have hxv:=hs.ev x;rw[hx]at hxv;have hxv':=hxv;simp only[VR]at hxv';obtain⟨v,hv,_⟩:=hxv';unfold Oper.wp;have he:(execOp a.eval ⟨dst, .panic x,ty,pos,af,none⟩).run P w= .halt (.panic (.iface t v)) w:=by
  simp only[execOp,hv,Sem.run_bind,run_panic_iface];rfl
 rw[he,Oper.upon_panic];refine hq _ _ _ trivial ⟨fi,fi.le_refl,_,rfl,fi, .iface t y,h',fi.le_refl,hr,by rw[<-hv];exact hxv,hR,⟨hs.size,hs.defers,fun i=>?_⟩⟩;rcases hs0 i with e|e
 ·rw[e];exact hs.val i
 ·rw[e];simp[VR]
theorem qgk{α:Type}{x:α}:∀{l:List α} {i:Nat},l[i]?=some x->l=l.take i++x::l.drop (i+1)
 |[],i,h=>by simp at h
 |y::l,0,h=>by
  simp only[List.getElem?_cons_zero,Option.some.injEq]at h;subst h;rfl
 |y::l,i+1,h=>by
  rw[List.getElem?_cons_succ]at h;rw[Ki,Ba,Kh,<-qgk h]
theorem YO{id:Nat}{l:List Oper}{fo:Operand}{args:Array Operand}{ts:Array TypeId}(i:Nat)(hl:l[i]?=some ⟨dst, .call ⟨.value fo,args,ts⟩,ty,pos,af,none⟩)(hd:Xt k l=true)
 (hc:Xp P w0 l (l.take i) s h (fun s' h'=>(∃f cap,ev s' fo= .func f cap/\APanic P w0 f (evs s' args.toList++cap) h' Rp)/\∀i,s₀.get i=s'.get i\/s₀.get i= .dead)):
 Awp P w0 ⟨k,ds,GP w0 k ds s₀ Rp⟩ (.region id l.toArray false) Q s h:=qnO (qgk hl) hd hc
theorem qiL{id:Nat}{l:List Oper}{x:Operand}(i:Nat)(hl:l[i]?=some ⟨dst, .panic x,ty,pos,af,none⟩)(hd:Xt k l=true)
 (hc:Xp P w0 l (l.take i) s h (fun s' h'=>(∃t y,ev s' x= .iface t y/\Rp (.iface t y) h')/\∀i,s₀.get i=s'.get i\/s₀.get i= .dead)):
 Awp P w0 ⟨k,ds,GP w0 k ds s₀ Rp⟩ (.region id l.toArray false) Q s h:=qmk (qgk hl) hd hc
end
end Go.AM
namespace Go.Proofs.YtgiadjbiimkbiaaDoor
open Go.AM
open Go.Proofs
open Go.Col (Str FaultC okF)
open Go.Tok (TokC)
open Go.Stm
open Go.RowKit (Below)
set_option maxRecDepth 100000
abbrev posV(l c:Int):AVal:= .agg [.int .i64 l, .int .i64 c]
abbrev faultV(f:FaultC):AVal:= .agg [.int .i64 f.e, .int .i64 f.line, .int .i64 f.col]
def qsY(H:AHeap)(f:FaultC):AVal->AHeap->Prop:=fun x h'=>x= .iface 28 (faultV f)/\Sub H h'
theorem qdI(w0:World)(H B:AHeap)(kp:Nat)(v ov:AVal)(l:List TokC)(i:Int)(e:Int)(at_:Nat)(eb_p:H kp=some ⟨[v, .int .i64 i,ov],0⟩)(hs_H:Sub B H)(hv:IsL w0 B 5 v (l.map Zh))(hl:l.length<=1000000)(hat:at_<=1000000):
 APanic Tryd.prog w0 18 [.ptr (.own kp) 0, .int .i64 e, .int .i64 at_] H (qsY H (UI l e at_)):=by
 have hlv:=hv.live;have nv:=Yl hv;have hE:UI l e at_=if l=[]then⟨e,0,0⟩else⟨e,(l.getD (min at_ (l.length-1)) noT).line,(l.getD (min at_ (l.length-1)) noT).col⟩:=rfl
 obtain⟨F,hF⟩:∃F,F=UI l e at_:=⟨_,rfl⟩
 rw[<-hF]at hE|-
 refine qaP (k:=33) (rs:=[]) Tryd.func18 rfl rfl rfl rfl (Vy rfl) ?_;simp only[Xe];refine awp_rseq [0,2,6] (by rfl) fun K hK=>?_;simp+decide only[qh,qi,qj,qo,ev,qZ,qY,putD,Vz,VA,VB,Ka,VC,VD,Kb,and_true,↓qW,qU,↓Wm,ZU,↓Zz,bld28_0,evP,Ke,Vh,Ym,Zr,ZV,Ue,ZA,Wt,ZW,qM,ne_eq,not_false_eq_true,qO w0 eb_p,qN,qJ,VE,setAt,VF,Kj,qC,VG,Kn,Jp,Nat.reduceAdd,qF,qG,qI,qf,qK,qa,qz,qd,qE,qc,qA,qg,qH,qy,allLive,J4,tokV,posV,faultV,hlv,nv];repeat (with_reducible refine And.intro ?_ ?_;· first|trivial|omega|(intro hg;simp only[Ky,JH,Jh,VH,VI,VJ,decide_eq_true_eq,decide_eq_false_iff_not,qR]at hg;omega))
 refine XL qje (cs:=[.int .i64 0, .int .i64 0, .int .i64 0]) (by rfl) fun k0q2 hk0q2=>?_;have hn_0q2:H k0q2=none:=by first|assumption|(simp only[V7]at hk0q2;simp only[hk0q2])
 have hf_0q2:B k0q2=none:=Bh hs_H hn_0q2;have ne_0q2_p:k0q2≠kp:=AHeap.ne_some hn_0q2 eb_p;refine QR (by rfl) (by rfl) zqA qdt (by rfl) (by rfl) zqD (Jq _) (by rfl) ?_;simp only[Bi,setAt,VE,VF,Kj,Jp,Nat.reduceAdd];simp+decide only[qh,qi,qj,qo,ev,qZ,qY,putD,Vz,VA,VB,Ka,VC,VD,Kb,and_true,qM,ne_eq,not_false_eq_true,ne_0q2_p,ne_0q2_p.symm,qO w0 eb_p,qN,qJ,VE,setAt,VF,Kj,qC,VG,Kn,Jp,Nat.reduceAdd,qF,qG,qI,qf,qK,qa,qz,qd,qE,qc,qA,qg,qH,qy,allLive,J4,tokV,posV,faultV,hlv,nv];repeat (with_reducible refine And.intro ?_ ?_;· first|trivial|omega|(intro hg;simp only[Ky,JH,Jh,VH,VI,VJ,decide_eq_true_eq,decide_eq_false_iff_not,qR]at hg;omega))
 apply hK;clear hK K;refine Qp ?_;refine awp_rseq [0,2,6,14] (by rfl) fun K hK=>?_;simp+decide only[qh,qi,qj,qo,ev,qZ,qY,putD,Vz,VA,VB,Ka,VC,VD,Kb,and_true,↓qW,qU,↓XE,Xg,XP,XF,↓Qo,Qd,qco,↓Qu,QM,Qi qbR,↓XG,Xh,QE Tryd.underlying31,QT Tryd.underlying31,↓Qj,Qa,Qm,cond_false,Qh,UE,qM,ne_eq,not_false_eq_true,ne_0q2_p,ne_0q2_p.symm,qO w0 eb_p,qN,qJ,VE,setAt,VF,Kj,qC,VG,Kn,Jp,Nat.reduceAdd,qF,qG,qI,qf,qK,qa,qz,qd,qE,qc,qA,qg,qH,qy,allLive,J4,tokV,posV,faultV,hlv,nv];repeat (with_reducible refine And.intro ?_ ?_;· first|trivial|omega|(intro hg;simp only[Ky,JH,Jh,VH,VI,VJ,decide_eq_true_eq,decide_eq_false_iff_not,qR]at hg;omega))
 apply hK;clear hK K;refine Qw (b:=_) rfl (fun hb1=>?_) (fun hb1=>?_)
 ·try simp only[decide_eq_true_eq,decide_eq_false_iff_not,Jh,VJ,Ky,VH,JH,VI,VV,VW,reduceCtorEq]at hb1
  have hn:0<l.length:=by omega
  have hne:l≠[]:=fun q=>by rw[q]at hn;cases hn
  rw[if_neg hne]at hE;obtain⟨lc,o,c,rfl⟩:=YA hv hn;obtain⟨m,hm⟩:∃m,m=min at_ (l.length-1):=⟨_,rfl⟩
  rw[<-hm]at hE;have hml:m<l.length:=by omega
  have hmi:min (at_:Int) ((l.length:Int)-1)=(m:Int):=by omega
  have hs2:Sub B (H.set k0q2 ⟨[.int .i64 e, .int .i64 0, .int .i64 0],0⟩):=hs_H.trans (V8 hn_0q2);obtain⟨-,-,e2,e3,-⟩:=Uy (hv.mono hs2) hml;obtain⟨t,ht⟩:∃t,t=l.getD m noT:=⟨_,rfl⟩
  rw[<-ht]at e2 e3 hE;have e3':rd w0 (H.set k0q2 ⟨[.int .i64 e, .int .i64 0, .int .i64 0],0⟩) lc (o+m*5+2+1)= .int .i64 t.col:=e3;refine qff 16 mixed (by kernel_rfl) (by rfl) (by rfl) ?_;simp+decide only[qh,qi,qj,qo,ev,qZ,qY,putD,Vz,VA,VB,Ka,VC,VD,Kb,and_true,↓qW,qU,↓XE,Xg,XP,XF,↓Qo,Qd,qco,↓Qu,QM,Qi qbR,↓XG,Xh,QE Tryd.underlying31,QT Tryd.underlying31,↓Qj,Qa,Qm,cond_false,Qh,qbB,↓ap_min,qtn,qrH,evs,Ke,Vh,qM,ne_eq,not_false_eq_true,ne_0q2_p,ne_0q2_p.symm,qO w0 eb_p,qN,qJ,VE,setAt,VF,Kj,qC,VG,Kn,Jp,Nat.reduceAdd,qF,qG,qI,qf,qK,qa,qz,qd,qE,qc,qA,qg,qH,qy,allLive,J4,tokV,posV,faultV,hlv,nv,e2,e3',hmi,VX];try simp(disch:=omega)only[wrap_i64,wrap_u8]
  try simp+decide only[qh,qi,qj,qo,ev,qZ,qY,putD,Vz,VA,VB,Ka,VC,VD,Kb,and_true,↓QV,QM,Ql Tryd.underlying31 Yv,↓Qo,Qd,qsj,↓Qu,Xy ag26 sz26,fa28_1,qM,ne_eq,not_false_eq_true,ne_0q2_p,ne_0q2_p.symm,qO w0 eb_p,qN,qJ,VE,setAt,VF,Kj,qC,VG,Kn,Jp,Nat.reduceAdd,qF,qG,qI,qf,qK,qa,qz,qd,qE,qc,qA,qg,qH,qy,allLive,J4,tokV,posV,faultV,hlv,nv,e2,e3',hmi,VX]
  repeat (with_reducible refine And.intro ?_ ?_;· first|trivial|omega|(intro hg;simp only[Ky,JH,Jh,VH,VI,VJ,decide_eq_true_eq,decide_eq_false_iff_not,qR]at hg;omega))
  refine QR (by rfl) (by rfl) zqA sz26 (by rfl) (by rfl) zqD (Jq _) (by rfl) ?_;simp only[Bi,setAt,VE,VF,Kj,Jp,Nat.reduceAdd];simp+decide only[qh,qi,qj,qo,ev,qZ,qY,putD,Vz,VA,VB,Ka,VC,VD,Kb,and_true,qM,ne_eq,not_false_eq_true,ne_0q2_p,ne_0q2_p.symm,qO w0 eb_p,qN,qJ,VE,setAt,VF,Kj,qC,VG,Kn,Jp,Nat.reduceAdd,qF,qG,qI,qf,qK,qa,qz,qd,qE,qc,qA,qg,qH,qy,allLive,J4,tokV,posV,faultV,hlv,nv,e2,e3',hmi,VX];repeat (with_reducible refine And.intro ?_ ?_;· first|trivial|omega|(intro hg;simp only[Ky,JH,Jh,VH,VI,VJ,decide_eq_true_eq,decide_eq_false_iff_not,qR]at hg;omega))
  change Awp _ _ _ _ _ _ _;refine qiL 2 (by rfl) (by rfl) ?_;simp only[Ki,Bj];simp+decide only[qh,qi,qj,qo,ev,qZ,qY,putD,Vz,VA,VB,Ka,VC,VD,Kb,and_true,↓Qu,QM,Xy qmr qdt,↓qdm,qcy,con28,qM,ne_eq,not_false_eq_true,ne_0q2_p,ne_0q2_p.symm,qO w0 eb_p,qN,qJ,VE,setAt,VF,Kj,qC,VG,Kn,Jp,Nat.reduceAdd,qF,qG,qI,qf,qK,qa,qz,qd,qE,qc,qA,qg,qH,qy,allLive,J4,tokV,posV,faultV,hlv,nv];repeat (with_reducible refine And.intro ?_ ?_;· first|trivial|omega|(intro hg;simp only[Ky,JH,Jh,VH,VI,VJ,decide_eq_true_eq,decide_eq_false_iff_not,qR]at hg;omega))
  refine⟨⟨_,_,by rfl,?_⟩,by intro i;first|trivial|exact .inr trivial|exact .inr rfl⟩;rw[hE];exact⟨rfl,zqB⟩
 ·try simp only[decide_eq_true_eq,decide_eq_false_iff_not,Jh,VJ,Ky,VH,JH,VI,VV,VW,reduceCtorEq]at hb1
  rw[if_pos (Kg (by omega))]at hE;refine QJ ?_;change Awp _ _ _ _ _ _ _;refine qiL 2 (by rfl) (by rfl) ?_;simp only[Ki,Bj];simp+decide only[qh,qi,qj,qo,ev,qZ,qY,putD,Vz,VA,VB,Ka,VC,VD,Kb,and_true,↓Qu,QM,Xy qmr qdt,↓qdm,qcy,con28,qM,ne_eq,not_false_eq_true,ne_0q2_p,ne_0q2_p.symm,qO w0 eb_p,qN,qJ,VE,setAt,VF,Kj,qC,VG,Kn,Jp,Nat.reduceAdd,qF,qG,qI,qf,qK,qa,qz,qd,qE,qc,qA,qg,qH,qy,allLive,J4,tokV,posV,faultV,hlv,nv];repeat (with_reducible refine And.intro ?_ ?_;· first|trivial|omega|(intro hg;simp only[Ky,JH,Jh,VH,VI,VJ,decide_eq_true_eq,decide_eq_false_iff_not,qR]at hg;omega))
  refine⟨⟨_,_,by rfl,?_⟩,by intro i;first|trivial|exact .inr trivial|exact .inr rfl⟩;rw[hE];exact⟨rfl,zqB⟩
def Fair(O:List Str):Prop:=∀f∈O,f.length<=1000000/\asciiB f=true
theorem qhU{w0:World}{h:AHeap}{v:AVal}{l:List Str}(ht:IsStrs w0 h v l)(hn:0<l.length):∃lc o c,v= .slice lc o l.length c:=by
 obtain⟨lc,o,c,e⟩:=ht.open (fun e=>by rw[Vu]at e;subst e;simp at hn);rw[Jn]at e;exact⟨lc,o,c,e⟩
theorem qhV{w0:World}{h:AHeap}{lc:AM.Loc}{o:Nat}{c:Cap}{l:List Str}(ht:IsStrs w0 h (.slice lc o l.length c) l){i:Nat}(hi:i<l.length):rd w0 h lc (o+i)= .str (l.getD i []):=by
 have he:=ht.at0 (i:=i) (by rw[Jn];exact hi) (by decide);rw[V6,getD_map [] hi]at he;exact he
theorem qti{w0:World}{h:AHeap}{v:AVal}{l:List Str}(ht:IsStrs w0 h v l){n:Nat}(hn:n<=l.length):IsStrs w0 h (qkd 1 v 0 n) (l.take n):=by
 have:=IsL.sub ht (i:=0) (j:=n) (Jq _) (by rw[Jn];exact hn);rw[List.drop_zero,Nat.sub_zero,<-List.map_take]at this;exact this
theorem qjp{w0:World}{h:AHeap}{v:AVal}{l:List Str}(ht:IsStrs w0 h v l){k:IntKind}{n:Nat}(hn:n<=l.length):YS Tryd.prog 22 v none (some (.int k n)) none=⟨True,qkd 1 v 0 n⟩:=by
 have:=IsL.slice ht Tryd.underlying22 sz9 none (some (.int k n)) (l:=0) (r:=n) rfl (by rw[qaf]) (by omega) (by omega) (by rw[Jn];omega);exact this
theorem qsO{α:Type}{p:α->Bool}{l:List α}{i:Nat}(hi:i<l.length)(d:α):(l.drop i).any p=(p (l.getD i d)||(l.drop (i+1)).any p):=by
 rw[J9 hi,List.any_cons];simp[Ko,hi]
theorem qoM(w0:World)(ha:Asp w0)(H:AHeap)(kp:Nat)(v ov:AVal)(l:List TokC)(i:Nat)(O:List Str)(eb_p:H kp=some ⟨[v, .int .i64 i,ov],0⟩)(hv:IsL w0 H 5 v (l.map Zh))(hov:IsStrs w0 H ov O)(hO:Fair O)(hn:0<O.length)(hO2:O.length<=1000000)(hl:l.length<=1000000)(hi:i<=l.length):
 ACall Tryd.prog w0 61 [.ptr (.own kp) 0] H (fun r h'=>r= .bool (qcj l O i)/\h'=H):=by
 have hlv:=hov.live;have nv:=qav hov;have hs_H:Sub H H:=Vg _;obtain⟨n,hnO⟩:∃n,O.length=n+1:=⟨O.length-1,by omega⟩
 have hdl:O.dropLast=O.take n:=by rw[List.dropLast_eq_take,hnO];rfl
 have hwn:IntKind.i64.wrap ((O.length:Int)-1)=(n:Int):=by rw[wrap_i64 (by omega) (by omega)];omega
 have hsl:=fun(k:IntKind)=>qjp (k:=k) hov (n:=n) (by omega);have hov2:=qti hov (n:=n) (by omega);have nv2:=qav hov2;have htl:(O.take n).length=n:=by rw[K4];omega
 rw[htl]at nv2;obtain⟨sv,hsv⟩:∃sv,sv=qkd 1 ov 0 n:=⟨_,rfl⟩
 rw[<-hsv]at hsl hov2 nv2;have hslv:=hov2.live;obtain⟨X,hX⟩:∃X,X=O.take n:=⟨_,rfl⟩
 rw[<-hX]at hov2 htl hdl;have hOX:∀f∈X,f.length<=1000000/\asciiB f=true:=fun f hf=>hO f (by rw[hX]at hf;exact List.mem_of_mem_take hf);have hR:qcj l O i=X.any fun f=>decide (0<(Xr l i f).2):=by unfold qcj;rw[hdl]
 refine Xf (n:=32) (rs:=[.tmp 2]) Tryd.func61 rfl rfl rfl rfl (Vy rfl) ?_;simp only[Xe];refine awp_rseq [0] (by rfl) fun K hK=>?_;simp+decide only[qh,qi,qj,qo,ev,qZ,qY,putD,Vz,VA,VB,Ka,VC,VD,Kb,and_true,↓qV,qP,qM,ne_eq,not_false_eq_true,qO w0 eb_p,qN,qJ,VE,setAt,VF,Kj,qC,VG,Kn,Jp,Nat.reduceAdd,qF,qG,qI,qf,qK,qa,qz,qd,qE,qc,qA,qg,qH,qy,allLive,J4,tokV,posV,faultV,hlv,nv,hwn,hsl,nv2,hslv];repeat (with_reducible refine And.intro ?_ ?_;· first|trivial|omega|(intro hg;simp only[Ky,JH,Jh,VH,VI,VJ,decide_eq_true_eq,decide_eq_false_iff_not,qR]at hg;omega))
 apply hK;clear hK K;refine Qp ?_;refine qaO [0,17,18,19] mixed (by kernel_rfl) (by rfl) (by rfl) fun K hK=>?_;simp+decide only[qh,qi,qj,qo,ev,qZ,qY,putD,Vz,VA,VB,Ka,VC,VD,Kb,and_true,↓qW,qU,↓XE,Xg,XP,XF,↓Qo,Qd,qgO,↓Qu,QM,Qi ag22,↓XG,Xh,QE Tryd.underlying22,QT Tryd.underlying22,↓Qj,Qa,Qm,cond_false,Qh,qbB,qM,ne_eq,not_false_eq_true,qO w0 eb_p,qN,qJ,VE,setAt,VF,Kj,qC,VG,Kn,Jp,Nat.reduceAdd,qF,qG,qI,qf,qK,qa,qz,qd,qE,qc,qA,qg,qH,qy,allLive,J4,tokV,posV,faultV,hlv,nv,hwn,hsl,nv2,hslv];try simp(disch:=omega)only[wrap_i64,wrap_u8]
 try simp+decide only[qh,qi,qj,qo,ev,qZ,qY,putD,Vz,VA,VB,Ka,VC,VD,Kb,and_true,↓qdl,qbT,evO,qbV Tryd.underlying22 sz9,qbU Tryd.underlying22 sz9,qbb Tryd.underlying22 sz9,qba Tryd.underlying22 sz9,qam Tryd.underlying22 sz9 none none rfl rfl,qdA,qcA,qac,qbZ,qaf,↓XG,Xh,QE Tryd.underlying22,QT Tryd.underlying22,↓qW,qU,qM,ne_eq,not_false_eq_true,qO w0 eb_p,qN,qJ,VE,setAt,VF,Kj,qC,VG,Kn,Jp,Nat.reduceAdd,qF,qG,qI,qf,qK,qa,qz,qd,qE,qc,qA,qg,qH,qy,allLive,J4,tokV,posV,faultV,hlv,nv,hwn,hsl,nv2,hslv]
 repeat (with_reducible refine And.intro ?_ ?_;· first|trivial|omega|(intro hg;simp only[Ky,JH,Jh,VH,VI,VJ,decide_eq_true_eq,decide_eq_false_iff_not,qR]at hg;omega))
 apply hK;clear hK K;refine QL ?_;refine XI [0,17,18,19] (fun j:Nat=>[(0, .ptr (.own kp) 0),(17,sv),(18, .int .i64 n),(19, .int .i64 j)]) (fun j:Nat=>H) (fun j:Nat=>j<=n/\(X.any fun f=>decide (0<(Xr l i f).2))=(X.drop j).any fun f=>decide (0<(Xr l i f).2)) (fun j:Nat=>n-j) 0 (by rfl) (Vg _) ⟨Jq _,rfl⟩ ?_;rintro j ⟨hj,hq⟩;refine awp_rseq [0,17,18,19,20] (by rfl) fun K hK=>?_;simp+decide only[qh,qi,qj,qo,ev,qZ,qY,putD,Vz,VA,VB,Ka,VC,VD,Kb,and_true,↓Qj,Qa,Qz,cond_false,Qh,Zo,qM,ne_eq,not_false_eq_true,qO w0 eb_p,qN,qJ,VE,setAt,VF,Kj,qC,VG,Kn,Jp,Nat.reduceAdd,qF,qG,qI,qf,qK,qa,qz,qd,qE,qc,qA,qg,qH,qy,allLive,J4,tokV,posV,faultV,hlv,nv,hwn,hsl,nv2,hslv];repeat (with_reducible refine And.intro ?_ ?_;· first|trivial|omega|(intro hg;simp only[Ky,JH,Jh,VH,VI,VJ,decide_eq_true_eq,decide_eq_false_iff_not,qR]at hg;omega))
 apply hK;clear hK K;refine Qp (Qw (b:=_) rfl (fun hb1=>?_) (fun hb1=>?_))
 ·try simp only[decide_eq_true_eq,decide_eq_false_iff_not,Jh,VJ,Ky,VH,JH,VI,VV,VW,reduceCtorEq]at hb1
  have hj':j<X.length:=by omega
  obtain⟨f,hf⟩:∃f,f=X.getD j []:=⟨_,rfl⟩
  obtain⟨hf1,hf2⟩:=hOX f (by rw[hf,Ko,JB hj'];exact Vr hj');have hst:=qsO (p:=fun f=>decide (0<(Xr l i f).2)) hj' [];rw[<-hf]at hst;obtain⟨lc,o,c,hse⟩:=qhU hov2 (by omega);have hov3:=hov2;rw[hse]at hov3;have ef:=qhV hov3 hj';rw[<-hf]at ef;rw[htl]at hse;have hwj:IntKind.i64.wrap ((j:Int)+1)=((j+1:Nat):Int):=by rw[wrap_i64 (by omega) (by omega)];omega
  refine QJ ?_;change Awp _ _ _ _ _ _ _;refine Qp ?_;refine QL ?_;refine awp_rseq [0,4,17,18,19] (by rfl) fun K hK=>?_;simp+decide only[qh,qi,qj,qo,ev,qZ,qY,putD,Vz,VA,VB,Ka,VC,VD,Kb,and_true,↓QV,QM,Ql Tryd.underlying22 sz9,↓Qu,Qi ag9,↓qV,qP,qM,ne_eq,not_false_eq_true,qO w0 eb_p,qN,qJ,VE,setAt,VF,Kj,qC,VG,Kn,Jp,Nat.reduceAdd,qF,qG,qI,qf,qK,qa,qz,qd,qE,qc,qA,qg,qH,qy,allLive,J4,tokV,posV,faultV,hlv,nv,hwn,hsl,nv2,hslv,hse,ef,VX,V6];repeat (with_reducible refine And.intro ?_ ?_;· first|trivial|omega|(intro hg;simp only[Ky,JH,Jh,VH,VI,VJ,decide_eq_true_eq,decide_eq_false_iff_not,qR]at hg;omega))
  apply hK;clear hK K;refine awp_rseq [0,6,17,18,19] (by rfl) fun K hK=>?_;simp+decide only[qh,qi,qj,qo,ev,qZ,qY,putD,Vz,VA,VB,Ka,VC,VD,Kb,and_true,↓qW,qU,qM,ne_eq,not_false_eq_true,qO w0 eb_p,qN,qJ,VE,setAt,VF,Kj,qC,VG,Kn,Jp,Nat.reduceAdd,qF,qG,qI,qf,qK,qa,qz,qd,qE,qc,qA,qg,qH,qy,allLive,J4,tokV,posV,faultV,hlv,nv,hwn,hsl,nv2,hslv];repeat (with_reducible refine And.intro ?_ ?_;· first|trivial|omega|(intro hg;simp only[Ky,JH,Jh,VH,VI,VJ,decide_eq_true_eq,decide_eq_false_iff_not,qR]at hg;omega))
  refine XD (V:= .tuple [.str (Xr l i f).1, .int .i64 (Xr l i f).2]) (by rfl) (by rfl) (qem w0 ha _ (.own kp) 0 v l i f (qO w0 eb_p 0) (qO w0 eb_p 1) hv hl hi hf1 hf2) ?_;simp+decide only[qh,qi,qj,qo,ev,qZ,qY,putD,Vz,VA,VB,Ka,VC,VD,Kb,and_true,↓qW,qU,↓Zl,XY,Zp,KX,JD,VG,Kn,↓qV,qP,qM,ne_eq,not_false_eq_true,qO w0 eb_p,qN,qJ,VE,setAt,VF,Kj,qC,VG,Kn,Jp,Nat.reduceAdd,qF,qG,qI,qf,qK,qa,qz,qd,qE,qc,qA,qg,qH,qy,allLive,J4,tokV,posV,faultV,hlv,nv,hwn,hsl,nv2,hslv];repeat (with_reducible refine And.intro ?_ ?_;· first|trivial|omega|(intro hg;simp only[Ky,JH,Jh,VH,VI,VJ,decide_eq_true_eq,decide_eq_false_iff_not,qR]at hg;omega))
  apply hK;clear hK K;refine awp_rseq [0,17,18,19,30] (by rfl) fun K hK=>?_;simp+decide only[qh,qi,qj,qo,ev,qZ,qY,putD,Vz,VA,VB,Ka,VC,VD,Kb,and_true,↓qW,qU,↓Qj,Qa,Qm,cond_false,Qh,UE,qM,ne_eq,not_false_eq_true,qO w0 eb_p,qN,qJ,VE,setAt,VF,Kj,qC,VG,Kn,Jp,Nat.reduceAdd,qF,qG,qI,qf,qK,qa,qz,qd,qE,qc,qA,qg,qH,qy,allLive,J4,tokV,posV,faultV,hlv,nv,hwn,hsl,nv2,hslv];repeat (with_reducible refine And.intro ?_ ?_;· first|trivial|omega|(intro hg;simp only[Ky,JH,Jh,VH,VI,VJ,decide_eq_true_eq,decide_eq_false_iff_not,qR]at hg;omega))
  apply hK;clear hK K;refine Qw (b:=_) rfl (fun hb2=>?_) (fun hb2=>?_)
  ·try simp only[decide_eq_true_eq,decide_eq_false_iff_not,Jh,VJ,Ky,VH,JH,VI,VV,VW,reduceCtorEq]at hb2
   refine awp_rseq [2] (by rfl) fun K hK=>?_;simp+decide only[qh,qi,qj,qo,ev,qZ,qY,putD,Vz,VA,VB,Ka,VC,VD,Kb,and_true,↓qV,qP,qM,ne_eq,not_false_eq_true,qO w0 eb_p,qN,qJ,VE,setAt,VF,Kj,qC,VG,Kn,Jp,Nat.reduceAdd,qF,qG,qI,qf,qK,qa,qz,qd,qE,qc,qA,qg,qH,qy,allLive,J4,tokV,posV,faultV,hlv,nv,hwn,hsl,nv2,hslv];repeat (with_reducible refine And.intro ?_ ?_;· first|trivial|omega|(intro hg;simp only[Ky,JH,Jh,VH,VI,VJ,decide_eq_true_eq,decide_eq_false_iff_not,qR]at hg;omega))
   apply hK;clear hK K;refine Xd ?_;try simp only[QF,Qn]
   refine XV H zqC (Qr (Qv)) ?_;simp+decide only[qh,qi,qj,qo,ev,qZ,qY,putD,Vz,VA,VB,Ka,VC,VD,Kb,and_true,QU,qM,ne_eq,not_false_eq_true,qO w0 eb_p,qN,qJ,VE,setAt,VF,Kj,qC,VG,Kn,Jp,Nat.reduceAdd,qF,qG,qI,qf,qK,qa,qz,qd,qE,qc,qA,qg,qH,qy,allLive,J4,tokV,posV,faultV,hlv,nv,hwn,hsl,nv2,hslv];rw[hR,hq,hst];have h0:0<(Xr l i f).2:=by omega
   rw[decide_eq_true h0,VT]
  ·try simp only[decide_eq_true_eq,decide_eq_false_iff_not,Jh,VJ,Ky,VH,JH,VI,VV,VW,reduceCtorEq]at hb2
   refine QJ ?_;change Awp _ _ _ _ _ _ _;refine XZ [0,17,18,19] (by rfl) ?_;simp+decide only[qh,qi,qj,qo,ev,qZ,qY,putD,Vz,VA,VB,Ka,VC,VD,Kb,and_true,↓Qj,Qa,Qm,cond_false,Qh,XM,↓qW,qU,qM,ne_eq,not_false_eq_true,qO w0 eb_p,qN,qJ,VE,setAt,VF,Kj,qC,VG,Kn,Jp,Nat.reduceAdd,qF,qG,qI,qf,qK,qa,qz,qd,qE,qc,qA,qg,qH,qy,allLive,J4,tokV,posV,faultV,hlv,nv,hwn,hsl,nv2,hslv,hwj];try simp(disch:=omega)only[wrap_i64,wrap_u8]
   repeat (with_reducible refine And.intro ?_ ?_;· first|trivial|omega|(intro hg;simp only[Ky,JH,Jh,VH,VI,VJ,decide_eq_true_eq,decide_eq_false_iff_not,qR]at hg;omega))
   try simp only[QK,Qt]
   refine⟨j+1,by rw[hse];rfl,Vg _,⟨by omega,?_⟩,by omega⟩;have h0:¬0<(Xr l i f).2:=by omega
   rw[hq,hst,decide_eq_false h0,VU]
 ·try simp only[decide_eq_true_eq,decide_eq_false_iff_not,Jh,VJ,Ky,VH,JH,VI,VV,VW,reduceCtorEq]at hb1
  refine XJ ?_;change Awp _ _ _ _ _ _ _;refine awp_rseq [2] (by rfl) fun K hK=>?_;simp+decide only[qh,qi,qj,qo,ev,qZ,qY,putD,Vz,VA,VB,Ka,VC,VD,Kb,and_true,↓qV,qP,qM,ne_eq,not_false_eq_true,qO w0 eb_p,qN,qJ,VE,setAt,VF,Kj,qC,VG,Kn,Jp,Nat.reduceAdd,qF,qG,qI,qf,qK,qa,qz,qd,qE,qc,qA,qg,qH,qy,allLive,J4,tokV,posV,faultV,hlv,nv,hwn,hsl,nv2,hslv];repeat (with_reducible refine And.intro ?_ ?_;· first|trivial|omega|(intro hg;simp only[Ky,JH,Jh,VH,VI,VJ,decide_eq_true_eq,decide_eq_false_iff_not,qR]at hg;omega))
  apply hK;clear hK K;refine Xd ?_;try simp only[QF,Qn]
  refine XV H zqC (Qr (Qv)) ?_;simp+decide only[qh,qi,qj,qo,ev,qZ,qY,putD,Vz,VA,VB,Ka,VC,VD,Kb,and_true,QU,qM,ne_eq,not_false_eq_true,qO w0 eb_p,qN,qJ,VE,setAt,VF,Kj,qC,VG,Kn,Jp,Nat.reduceAdd,qF,qG,qI,qf,qK,qa,qz,qd,qE,qc,qA,qg,qH,qy,allLive,J4,tokV,posV,faultV,hlv,nv,hwn,hsl,nv2,hslv];rw[hR,hq,Bl (by omega)];rfl
end Go.Proofs.YtgiadjbiimkbiaaDoor
namespace Go.Stm
open Go.Col (Str)
set_option maxRecDepth 100000
def keysW:Str:=[65,67,67,69,83,83,32,65,68,86,65,78,67,73,78,71,32,65,70,84,69,82,32,65,76,76,32,65,76,80,72,65,66,69,84,73,67,32,65,76,83,79,32,65,76,84,69,82,78,65,84,69,32,65,78,68,32,65,78,89,32,65,82,69,32,65,82,69,65,32,65,82,69,65,83,32,65,83,67,69,78,68,73,78,71,32,65,83,83,73,71,78,32,65,84,32,65,87,65,89,45,70,82,79,77,45,90,69,82,79,32,66,69,70,79,82,69,32,66,73,78,65,82,89,32,66,76,65,78,75,32,66,76,79,67,75,32,66,89,32,67,70,32,67,72,32,67,72,65,82,65,67,84,69,82,32,67,72,65,82,65,67,84,69,82,83,32,67,76,65,83,83,32,67,79,76,85,77,78,32,67,79,77,80,32,67,79,77,80,45,51,32,67,79,77,80,85,84,65,84,73,79,78,65,76,32,67,79,77,80,85,84,65,84,73,79,78,65,76,45,51,32,67,79,78,70,73,71,85,82,65,84,73,79,78,32,67,79,78,84,65,73,78,83,32,67,79,78,84,69,78,84,32,67,79,78,84,82,79,76,32,67,79,78,84,82,79,76,83,32,67,79,78,86,69,82,84,73,78,71,32,67,79,80,89,32,67,79,82,82,32,67,79,82,82,69,83,80,79,78,68,73,78,71,32,67,79,85,78,84,32,68,65,84,65,32,68,69,32,68,69,67,76,65,82,65,84,73,86,69,83,32,68,69,76,73,77,73,84,69,68,32,68,69,76,73,77,73,84,69,82,32,68,69,80,69,78,68,73,78,71,32,68,69,83,67,69,78,68,73,78,71,32,68,69,84,65,73,76,32,68,73,86,73,83,73,79,78,32,68,79,87,78,32,68,85,80,76,73,67,65,84,69,83,32,68,89,78,65,77,73,67,32,69,76,83,69,32,69,78,68,32,69,78,68,45,65,68,68,32,69,78,68,45,67,65,76,76,32,69,78,68,45,67,79,77,80,85,84,69,32,69,78,68,45,68,69,76,69,84,69,32,69,78,68,45,68,73,86,73,68,69,32,69,78,68,45,69,86,65,76,85,65,84,69,32,69,78,68,45,73,70,32,69,78,68,45,77,85,76,84,73,80,76,89,32,69,78,68,45,80,69,82,70,79,82,77,32,69,78,68,45,82,69,65,68,32,69,78,68,45,82,69,84,85,82,78,32,69,78,68,45,82,69,87,82,73,84,69,32,69,78,68,45,83,69,65,82,67,72,32,69,78,68,45,83,84,65,82,84,32,69,78,68,45,83,84,82,73,78,71,32,69,78,68,45,83,85,66,84,82,65,67,84,32,69,78,68,45,85,78,83,84,82,73,78,71,32,69,78,68,45,87,82,73,84,69,32,69,78,86,73,82,79,78,77,69,78,84,32,69,81,85,65,76,32,69,82,82,79,82,32,69,88,67,69,80,84,73,79,78,32,69,88,84,69,78,68,32,70,65,76,83,69,32,70,68,32,70,73,76,69,32,70,73,76,69,45,67,79,78,84,82,79,76,32,70,73,76,76,69,82,32,70,73,78,65,76,32,70,73,82,83,84,32,70,79,79,84,73,78,71,32,70,79,82,32,70,82,79,77,32,71,73,86,73,78,71,32,71,82,69,65,84,69,82,32,71,82,79,85,80,32,72,69,65,68,73,78,71,32,73,45,79,32,73,45,79,45,67,79,78,84,82,79,76,32,73,68,69,78,84,73,70,73,67,65,84,73,79,78,32,73,78,32,73,78,68,69,88,69,68,32,73,78,68,73,67,65,84,69,32,73,78,73,84,73,65,76,32,73,78,80,85,84,32,73,78,80,85,84,45,79,85,84,80,85,84,32,73,78,84,79,32,73,78,86,65,76,73,68,32,73,83,32,74,85,83,84,32,74,85,83,84,73,70,73,69,68,32,75,69,89,32,76,65,66,69,76,32,76,65,83,84,32,76,69,65,68,73,78,71,32,76,69,70,84,32,76,69,83,83,32,76,73,77,73,84,32,76,73,77,73,84,83,32,76,73,78,69,32,76,73,78,69,83,32,76,73,78,75,65,71,69,32,77,79,68,69,32,78,69,65,82,69,83,84,45,65,87,65,89,45,70,82,79,77,45,90,69,82,79,32,78,69,65,82,69,83,84,45,69,86,69,78,32,78,69,65,82,69,83,84,45,84,79,87,65,82,68,45,90,69,82,79,32,78,69,71,65,84,73,86,69,32,78,69,88,84,32,78,79,32,78,79,84,32,78,85,77,66,69,82,32,78,85,77,69,82,73,67,32,79,67,67,85,82,83,32,79,70,32,79,70,70,32,79,77,73,84,84,69,68,32,79,78,32,79,80,84,73,79,78,65,76,32,79,82,32,79,82,68,69,82,32,79,82,71,65,78,73,90,65,84,73,79,78,32,79,84,72,69,82,32,79,85,84,80,85,84,32,79,86,69,82,70,76,79,87,32,80,65,67,75,69,68,45,68,69,67,73,77,65,76,32,80,65,71,69,32,80,70,32,80,72,32,80,73,67,32,80,73,67,84,85,82,69,32,80,76,85,83,32,80,79,73,78,84,69,82,32,80,79,83,73,84,73,86,69,32,80,82,79,67,69,68,85,82,69,32,80,82,79,67,69,69,68,32,80,82,79,71,82,65,77,32,80,82,79,71,82,65,77,45,73,68,32,80,82,79,72,73,66,73,84,69,68,32,82,65,78,68,79,77,32,82,68,32,82,69,67,79,82,68,32,82,69,67,79,82,68,83,32,82,69,68,69,70,73,78,69,83,32,82,69,70,69,82,69,78,67,69,32,82,69,76,65,84,73,86,69,32,82,69,77,65,73,78,68,69,82,32,82,69,78,65,77,69,83,32,82,69,80,76,65,67,73,78,71,32,82,69,80,79,82,84,32,82,69,80,79,82,84,73,78,71,32,82,69,80,79,82,84,83,32,82,69,83,69,84,32,82,70,32,82,72,32,82,73,71,72,84,32,82,79,85,78,68,69,68,32,82,85,78,32,83,67,82,69,69,78,32,83,68,32,83,69,67,84,73,79,78,32,83,69,76,69,67,84,32,83,69,78,84,69,78,67,69,32,83,69,80,65,82,65,84,69,32,83,69,81,85,69,78,67,69,32,83,69,81,85,69,78,84,73,65,76,32,83,73,71,78,32,83,73,90,69,32,83,79,85,82,67,69,32,83,84,65,78,68,65,82,68,32,83,84,65,84,85,83,32,83,85,77,32,84,65,76,76,89,73,78,71,32,84,69,83,84,32,84,72,65,78,32,84,72,69,78,32,84,72,82,79,85,71,72,32,84,72,82,85,32,84,73,77,69,83,32,84,79,32,84,79,87,65,82,68,45,71,82,69,65,84,69,82,32,84,79,87,65,82,68,45,76,69,83,83,69,82,32,84,82,65,73,76,73,78,71,32,84,82,85,69,32,84,82,85,78,67,65,84,73,79,78,32,84,89,80,69,32,85,78,84,73,76,32,85,80,32,85,80,79,78,32,85,83,65,71,69,32,85,83,73,78,71,32,86,65,76,85,69,32,86,65,76,85,69,83,32,86,65,82,89,73,78,71,32,87,72,69,78,32,87,73,84,72,32,87,79,82,75,73,78,71,45,83,84,79,82,65,71,69]
def verbsW:Str:=[65,67,67,69,80,84,32,65,68,68,32,65,76,84,69,82,32,67,65,76,76,32,67,65,78,67,69,76,32,67,76,79,83,69,32,67,79,77,80,85,84,69,32,67,79,78,84,73,78,85,69,32,68,69,76,69,84,69,32,68,73,83,80,76,65,89,32,68,73,86,73,68,69,32,69,86,65,76,85,65,84,69,32,69,88,73,84,32,71,69,78,69,82,65,84,69,32,71,79,32,73,70,32,73,78,73,84,73,65,76,73,90,69,32,73,78,73,84,73,65,84,69,32,73,78,83,80,69,67,84,32,77,69,82,71,69,32,77,79,86,69,32,77,85,76,84,73,80,76,89,32,79,80,69,78,32,80,69,82,70,79,82,77,32,82,69,65,68,32,82,69,76,69,65,83,69,32,82,69,84,85,82,78,32,82,69,87,82,73,84,69,32,83,69,65,82,67,72,32,83,69,84,32,83,79,82,84,32,83,84,65,82,84,32,83,84,79,80,32,83,84,82,73,78,71,32,83,85,66,84,82,65,67,84,32,83,85,80,80,82,69,83,83,32,84,69,82,77,73,78,65,84,69,32,85,78,83,84,82,73,78,71,32,85,83,69,32,87,82,73,84,69]
def qnA:Str:=[90,69,82,79,32,90,69,82,79,83,32,90,69,82,79,69,83,32,83,80,65,67,69,32,83,80,65,67,69,83,32,72,73,71,72,45,86,65,76,85,69,32,72,73,71,72,45,86,65,76,85,69,83,32,76,79,87,45,86,65,76,85,69,32,76,79,87,45,86,65,76,85,69,83,32,81,85,79,84,69,32,81,85,79,84,69,83]
def wordTs:List Str:=[keysW,verbsW,qnA]
def Uf(i:Nat):List (Str×Nat):=((wordTs.take i).zipIdx.map fun p=>(Lib.fields p.1).map fun w=>(w,p.2+1)).flatten
def qbv(s:Str):Nat:=((Uf 3).find? fun p=>decide (p.1=s)).elim 0 (·.2)
theorem qdr{i:Nat}(hi:i<3):Uf (i+1)=Uf i++(Lib.fields (wordTs.getD i [])).map fun w=>(w,i+1):=by
 unfold Uf;rw[VY,JB (l:=wordTs) (i:=i) (by simpa[wordTs]using hi),Bn,VZ,Bo];have e:(wordTs.take i).length=i:=by rw[K4];simp only[wordTs,KX,JD];omega
 rw[e];simp[Ko,JB (l:=wordTs) (i:=i) (by simpa[wordTs]using hi)]
theorem qmB:((Uf 3).map (·.1)).Nodup:=by decide+kernel
def QY:Words:=⟨fun s=>decide (qbv s=0),fun s=>decide (qbv s=3)⟩
end Go.Stm
namespace Go.Proofs.YtgiadjbiimkbiaaDoor
open Go.AM
open Go.Proofs
open Go.Col (Str FaultC okF)
open Go.Tok (TokC)
open Go.Stm
open Go.RowKit (Below)
set_option maxRecDepth 100000
theorem qtf{B H:AHeap}(hs:Sub B H){k:Nat}(hk:B k=Option.none)(X:Blk):Sub B (H.set k X):=fun j d hj=>by
 have e:j≠k:=fun e=>by subst e;rw[hk]at hj;cases hj
 rw[Ve _ _ e];exact hs _ _ hj
def qsl(p:(Str×Nat)×Nat):AVal:= .mapE p.2 (.str p.1.1) (.int .u8 p.1.2)
def qkc(l:List (Str×Nat)):List AVal:=l.zipIdx.map qsl
theorem qpc(l:List (Str×Nat))(x:Str×Nat):qkc (l++[x])=qkc l++[.mapE l.length (.str x.1) (.int .u8 x.2)]:=by
 unfold qkc;rw[Bn,VZ];simp[qsl]
theorem qgG(s:Str):∀(l:List (Str×Nat)) (b k:Nat),qcB (.str s) ((l.zipIdx b).map qsl) k=some (none)/\(l.find? fun p=>decide (p.1=s))=none\/∃j p,qcB (.str s) ((l.zipIdx b).map qsl) k=some (some (j, .int .u8 p.2))/\(l.find? fun p=>decide (p.1=s))=some p
 |[],_,_=> .inl ⟨rfl,rfl⟩
 |x::l,b,k=>by
  rw[List.zipIdx_cons,Ke,qsl,qcB,Bp];simp only[kEq];by_cases h:x.1=s
  ·right
   refine⟨k,x,?_,?_⟩
   ·simp[h]
   ·simp[h]
  ·have h':¬s=x.1:=fun e=>h e.symm
   simp only[h,h',decide_false];exact qgG s l (b+1) (k+1)
theorem qpD{s:Str}{l:List (Str×Nat)}(h:s∉l.map (·.1)):qcB (.str s) (qkc l) 0=some none:=by
 rcases qgG s l 0 0 with q|⟨j,p,-,q⟩
 ·exact q.1
 ·exfalso
  apply h;have h1:=List.find?_some q;have h2:=List.mem_of_find?_eq_some q;exact JI.2 ⟨p,h2,by simpa using h1⟩
theorem qre{i j:Nat}(hi:i<3){ws:List Str}(hw:ws=Lib.fields (wordTs.getD i []))(hj:j<ws.length):ws.getD j []∉(Uf i++(ws.take j).map fun w=>(w,i+1)).map (·.1):=by
 have hs:=qdr hi;rw[<-hw]at hs;have hp:∀a b:Nat,a<=b->b<=3->∃t,Uf b=Uf a++t:=by
  intro a b hab hb;induction b with
  |zero=>rw[Nat.le_zero.1 hab];exact⟨[],by simp⟩
  |succ b ih=>
   rcases Nat.lt_or_ge a (b+1)with h|h
   ·obtain⟨t,e⟩:=ih (by omega) (by omega)
    rw[qdr (by omega),e];exact⟨t++(Lib.fields (wordTs.getD b [])).map fun w=>(w,b+1),by rw[K9]⟩
   ·rw[show a=b+1 by omega];exact⟨[],by simp⟩
 obtain⟨t,e⟩:=hp (i+1) 3 hi (KL _);have hn:=qmB;rw[e,hs]at hn;have hd:ws=ws.take j++ws.getD j []::ws.drop (j+1):=by
  rw[show ws.getD j []=ws[j] by simp[Ko,hj],<-J9 hj,List.take_append_drop]
 intro hm;generalize ws.getD j []=x at hd hm;rw[hd]at hn;simp only[VZ,Ke,List.map_map]at hn hm;rw[K9,K9,<-K9,List.nodup_append]at hn;exact hn.2.2 x hm x (by simp) rfl
structure TbG where
 i:Nat
 H:AHeap
structure TcG where
 j:Nat
 H:AHeap
theorem qmA:∀t∈wordTs,t.length<=10000/\asciiB t=true:=by decide+kernel
theorem word_at{i:Nat}(hi:i<3):(wordTs.getD i []).length<=10000/\asciiB (wordTs.getD i [])=true:=qmA _ (by
 rw[Ko,JB (by simpa[wordTs]using hi)];exact Vr _)
set_option maxHeartbeats 4000000 in
theorem c_table(w0:World)(ha:Asp w0)(h:AHeap):
 ACall Tryd.prog w0 71 [] h (fun r h'=>∃k c,r= .map k/\h' k=some (Yo c (qkc (Uf 3)))/\h k=none/\Sub h h'):=by
 refine Xf (n:=29) (rs:=[.tmp 0]) Tryd.func71 rfl rfl rfl rfl (Vy rfl) ?_;simp only[Xe];refine awp_rseq [] (by rfl) fun K hK=>?_;simp+decide only[qh,qi,qj,qo,ev,qZ,qY,putD,Vz,VA,VB,Ka,VC,VD,Kb,and_true,↓qV,qP,qM,ne_eq,not_false_eq_true,qN,qJ,VE,setAt,VF,Kj,qC,VG,Kn,Jp,Nat.reduceAdd,qF,qG,qI,qf,qK,qa,qz,qd,qE,qc,qA,qg,qH,qy,allLive,J4,tokV];repeat (with_reducible refine And.intro ?_ ?_;· first|trivial|omega|(intro hg;simp only[Ky,JH,Jh,VH,VI,VJ,decide_eq_true_eq,decide_eq_false_iff_not,qR]at hg;omega))
 apply hK;clear hK K;refine awp_rseq [1] (by rfl) fun K hK=>?_;refine qkT fun k1q0 hk1q0=>?_;try have hf_1q0:h k1q0=none:=by first|assumption|(simp only[V7]at hk1q0;simp only[hk1q0])
 simp+decide only[qh,qi,qj,qo,ev,qZ,qY,putD,Vz,VA,VB,Ka,VC,VD,Kb,and_true,↓qV,qP,qM,ne_eq,not_false_eq_true,qN,qJ,VE,setAt,VF,Kj,qC,VG,Kn,Jp,Nat.reduceAdd,qF,qG,qI,qf,qK,qa,qz,qd,qE,qc,qA,qg,qH,qy,allLive,J4,tokV];repeat (with_reducible refine And.intro ?_ ?_;· first|trivial|omega|(intro hg;simp only[Ky,JH,Jh,VH,VI,VJ,decide_eq_true_eq,decide_eq_false_iff_not,qR]at hg;omega))
 apply hK;clear hK K;refine Qp ?_;refine awp_rseq [1,7,8,9] (by rfl) fun K hK=>?_;refine QS (cs:=(wordTs.map AVal.str)) (by kernel_rfl) fun k2q0 hk2q0=>?_;have ne_2q0_1q0:k2q0≠k1q0:=by simp only[V7]at hk2q0;simp only[hk2q0,ne_eq,not_false_eq_true]
 try have hf_2q0:h k2q0=none:=by first|assumption|(simp only[V7]at hk2q0;simp only[hk2q0])
 simp+decide only[qh,qi,qj,qo,ev,qZ,qY,putD,Vz,VA,VB,Ka,VC,VD,Kb,and_true,↓XG,Xh,QE Tryd.underlying22,QT Tryd.underlying22,↓qW,qU,qM,ne_eq,not_false_eq_true,ne_2q0_1q0,ne_2q0_1q0.symm,qN,qJ,VE,setAt,VF,Kj,qC,VG,Kn,Jp,Nat.reduceAdd,qF,qG,qI,qf,qK,qa,qz,qd,qE,qc,qA,qg,qH,qy,allLive,J4,tokV];repeat (with_reducible refine And.intro ?_ ?_;· first|trivial|omega|(intro hg;simp only[Ky,JH,Jh,VH,VI,VJ,decide_eq_true_eq,decide_eq_false_iff_not,qR]at hg;omega))
 apply hK;clear hK K;refine QL ?_;refine XI [1,7,8,9] (fun g:TbG=>[(1, .map k1q0),(7, .slice (.own k2q0) 0 3 (.exact 3)),(8, .int .i64 3),(9, .int .i64 g.i)]) (fun g:TbG=>g.H) (fun g:TbG=>g.i<=3/\Sub h g.H/\g.H k1q0=some (Yo (Uf g.i).length (qkc (Uf g.i)))/\g.H k2q0=some ⟨wordTs.map AVal.str,0⟩) (fun g:TbG=>3-g.i) ⟨0,_⟩ (by rfl) (Vg _) ⟨Jq _,zqB,zqA,zqA⟩ ?_;rintro⟨i,H⟩ ⟨hi,hs_H,eb_1q0,eb_2q0⟩;simp only at hi hs_H eb_1q0 eb_2q0|-
 refine awp_rseq [1,7,8,9,10] (by rfl) fun K hK=>?_;simp+decide only[qh,qi,qj,qo,ev,qZ,qY,putD,Vz,VA,VB,Ka,VC,VD,Kb,and_true,↓Qj,Qa,Qz,cond_false,Qh,Zo,qM,ne_eq,not_false_eq_true,qO w0 eb_1q0,qO w0 eb_2q0,ne_2q0_1q0,ne_2q0_1q0.symm,qN,qJ,VE,setAt,VF,Kj,qC,VG,Kn,Jp,Nat.reduceAdd,qF,qG,qI,qf,qK,qa,qz,qd,qE,qc,qA,qg,qH,qy,allLive,J4,tokV];repeat (with_reducible refine And.intro ?_ ?_;· first|trivial|omega|(intro hg;simp only[Ky,JH,Jh,VH,VI,VJ,decide_eq_true_eq,decide_eq_false_iff_not,qR]at hg;omega))
 apply hK;clear hK K;refine Qp (Qw (b:=_) rfl (fun hb1=>?_) (fun hb1=>?_))
 ·try simp only[decide_eq_true_eq,decide_eq_false_iff_not,Jh,VJ,Ky,VH,JH,VI,VV,VW,reduceCtorEq]at hb1
  have hi3:i<3:=by omega
  obtain⟨t,ht⟩:∃t,t=wordTs.getD i []:=⟨_,rfl⟩
  have et:=qfi (w0:=w0) eb_2q0 (i:=i) hi3;rw[<-ht,qO w0 eb_2q0]at et;obtain⟨hw1,hw2⟩:=word_at hi3;have hstp:=qdr hi3;rw[<-ht]at hw1 hw2 hstp;obtain⟨ws,hws⟩:∃ws,ws=Lib.fields t:=⟨_,rfl⟩
  rw[<-hws]at hstp;have hnew:=fun j hj=>qre (j:=j) hi3 (ws:=ws) (by rw[hws,ht]) hj;have hwl:ws.length<=10001:=by rw[hws];exact Vb (qbd t) (by omega)
  refine QJ ?_;change Awp _ _ _ _ _ _ _;refine Qp ?_;refine QL ?_;refine awp_rseq [1,2,3,7,8,9] (by rfl) fun K hK=>?_;simp+decide only[qh,qi,qj,qo,ev,qZ,qY,putD,Vz,VA,VB,Ka,VC,VD,Kb,and_true,↓qW,qU,↓QV,QM,Ql Tryd.underlying22 sz9,↓Qu,Qi ag9,↓qV,qP,qM,ne_eq,not_false_eq_true,qO w0 eb_1q0,qO w0 eb_2q0,ne_2q0_1q0,ne_2q0_1q0.symm,qN,qJ,VE,setAt,VF,Kj,qC,VG,Kn,Jp,Nat.reduceAdd,qF,qG,qI,qf,qK,qa,qz,qd,qE,qc,qA,qg,qH,qy,allLive,J4,tokV,et,VX,V6,Jp];repeat (with_reducible refine And.intro ?_ ?_;· first|trivial|omega|(intro hg;simp only[Ky,JH,Jh,VH,VI,VJ,decide_eq_true_eq,decide_eq_false_iff_not,qR]at hg;omega))
  apply hK;clear hK K;refine awp_rseq [1,2,7,8,9,15,16,17] (by rfl) fun K hK=>?_;simp+decide only[qh,qi,qj,qo,ev,qZ,qY,putD,Vz,VA,VB,Ka,VC,VD,Kb,and_true,↓qW,qU,qM,ne_eq,not_false_eq_true,qO w0 eb_1q0,qO w0 eb_2q0,ne_2q0_1q0,ne_2q0_1q0.symm,qN,qJ,VE,setAt,VF,Kj,qC,VG,Kn,Jp,Nat.reduceAdd,qF,qG,qI,qf,qK,qa,qz,qd,qE,qc,qA,qg,qH,qy,allLive,J4,tokV];repeat (with_reducible refine And.intro ?_ ?_;· first|trivial|omega|(intro hg;simp only[Ky,JH,Jh,VH,VI,VJ,decide_eq_true_eq,decide_eq_false_iff_not,qR]at hg;omega))
  refine QN (by rfl) (by rfl) (qdk w0 ha _ t (by omega) hw2) fun x5q1 h5q1 hx5q1=>?_;obtain⟨kw,hkw,rfl,e5⟩:=hx5q1;rw[<-hws]at e5|-
  have hsw:Sub H h5q1:=by rw[e5];exact V8 hkw
  have hw5:h5q1 kw=some ⟨ws.map AVal.str,0⟩:=by rw[e5];exact Vf _ _ _
  have lw:=qav (qcv (w0:=w0) hw5);have ne_w:kw≠k1q0:=fun e=>by rw[e,eb_1q0]at hkw;cases hkw
  have hs_h5q1:Sub h h5q1:=Bq zqC hsw;have hr_h5q1:Sub H h5q1:=Bq zqC hsw;have eb_1q0:=hsw k1q0 _ zqA;have eb_2q0:=hsw k2q0 _ zqA;simp+decide only[qh,qi,qj,qo,ev,qZ,qY,putD,Vz,VA,VB,Ka,VC,VD,Kb,and_true,↓XG,Xh,QE Tryd.underlying22,QT Tryd.underlying22,↓qW,qU,qM,ne_eq,not_false_eq_true,qO w0 eb_1q0,qO w0 eb_2q0,ne_2q0_1q0,ne_2q0_1q0.symm,qN,qJ,VE,setAt,VF,Kj,qC,VG,Kn,Jp,Nat.reduceAdd,qF,qG,qI,qf,qK,qa,qz,qd,qE,qc,qA,qg,qH,qy,allLive,J4,tokV,lw];repeat (with_reducible refine And.intro ?_ ?_;· first|trivial|omega|(intro hg;simp only[Ky,JH,Jh,VH,VI,VJ,decide_eq_true_eq,decide_eq_false_iff_not,qR]at hg;omega))
  apply hK;clear hK K;refine QL ?_;refine XI [1,2,7,8,9,15,16,17] (fun g:TcG=>[(1, .map k1q0),(2, .int .i64 i),(7, .slice (.own k2q0) 0 3 (.exact 3)),(8, .int .i64 3),(9, .int .i64 i),(15, .slice (.own kw) 0 ws.length (.exact ws.length)),(16, .int .i64 ws.length),(17, .int .i64 g.j)]) (fun g:TcG=>g.H) (fun g:TcG=>g.j<=ws.length/\Sub h g.H/\g.H k1q0=some (Yo (Uf i++(ws.take g.j).map fun w=>(w,i+1)).length (qkc (Uf i++(ws.take g.j).map fun w=>(w,i+1))))/\g.H k2q0=some ⟨wordTs.map AVal.str,0⟩/\g.H kw=some ⟨ws.map AVal.str,0⟩) (fun g:TcG=>ws.length-g.j) ⟨0,_⟩ (by rfl) (Vg _) ⟨Jq _,hs_h5q1,by simpa using eb_1q0,eb_2q0,hw5⟩ ?_;rintro⟨j,H2⟩ ⟨hj,hs_H2,eb_1q0',eb_2q0',eb_w⟩;simp only at hj hs_H2 eb_1q0' eb_2q0' eb_w|-
  refine awp_rseq [1,2,7,8,9,15,16,17,18] (by rfl) fun K hK=>?_;simp+decide only[qh,qi,qj,qo,ev,qZ,qY,putD,Vz,VA,VB,Ka,VC,VD,Kb,and_true,↓Qj,Qa,Qz,cond_false,Qh,Zo,qM,ne_eq,not_false_eq_true,qO w0 eb_1q0',qO w0 eb_2q0',qO w0 eb_w,qN,qJ,VE,setAt,VF,Kj,qC,VG,Kn,Jp,Nat.reduceAdd,qF,qG,qI,qf,qK,qa,qz,qd,qE,qc,qA,qg,qH,qy,allLive,J4,tokV];repeat (with_reducible refine And.intro ?_ ?_;· first|trivial|omega|(intro hg;simp only[Ky,JH,Jh,VH,VI,VJ,decide_eq_true_eq,decide_eq_false_iff_not,qR]at hg;omega))
  apply hK;clear hK K;refine Qp (Qw (b:=_) rfl (fun hb2=>?_) (fun hb2=>?_))
  ·try simp only[decide_eq_true_eq,decide_eq_false_iff_not,Jh,VJ,Ky,VH,JH,VI,VV,VW,reduceCtorEq]at hb2
   have hj':j<ws.length:=by omega
   have nw:=hnew j hj';obtain⟨w,hw⟩:∃w,w=ws.getD j []:=⟨_,rfl⟩
   have ew:=qfi (w0:=w0) eb_w hj';rw[<-hw,qO w0 eb_w]at ew;rw[<-hw]at nw;have htk:ws.take (j+1)=ws.take j++[w]:=by rw[VY,JB hj',hw];simp[Ko,hj']
   obtain⟨pl,hpl⟩:∃pl,pl=Uf i++(ws.take j).map fun w=>(w,i+1):=⟨_,rfl⟩
   rw[<-hpl]at eb_1q0' nw;have hsn:=qpc pl (w,i+1);have hwr:IntKind.u8.wrap (i:Int)=i:=wrap_u8 (by omega) (by omega);have hwr2:IntKind.u8.wrap (1+(i:Int))=((i+1:Nat):Int):=by rw[wrap_u8 (by omega) (by omega)];omega
   have hwj:IntKind.i64.wrap ((j:Int)+1)=((j+1:Nat):Int):=by rw[wrap_i64 (by omega) (by omega)];omega
   refine QJ ?_;change Awp _ _ _ _ _ _ _;refine Qp ?_;refine QL ?_;refine awp_rseq [1,2,5,7,8,9,15,16,17] (by rfl) fun K hK=>?_;simp+decide only[qh,qi,qj,qo,ev,qZ,qY,putD,Vz,VA,VB,Ka,VC,VD,Kb,and_true,↓QV,QM,Ql Tryd.underlying22 sz9,↓Qu,Qi ag9,↓qV,qP,qM,ne_eq,not_false_eq_true,qO w0 eb_1q0',qO w0 eb_2q0',qO w0 eb_w,qN,qJ,VE,setAt,VF,Kj,qC,VG,Kn,Jp,Nat.reduceAdd,qF,qG,qI,qf,qK,qa,qz,qd,qE,qc,qA,qg,qH,qy,allLive,J4,tokV,ew,VX,V6,Jp];repeat (with_reducible refine And.intro ?_ ?_;· first|trivial|omega|(intro hg;simp only[Ky,JH,Jh,VH,VI,VJ,decide_eq_true_eq,decide_eq_false_iff_not,qR]at hg;omega))
   apply hK;clear hK K;refine XZ [1,2,7,8,9,15,16,17] (by rfl) ?_;simp+decide only[qh,qi,qj,qo,ev,qZ,qY,putD,Vz,VA,VB,Ka,VC,VD,Kb,and_true,↓qW,qU,↓qfu _ _ _ (qnw Tryd.underlying3 Tryd.underlying100),qcz,qgD Tryd.underlying3 Tryd.underlying100,↓Qj,Qa,Qz,cond_false,Qh,XM,qM,ne_eq,not_false_eq_true,qO w0 eb_1q0',qO w0 eb_2q0',qO w0 eb_w,qN,qJ,VE,setAt,VF,Kj,qC,VG,Kn,Jp,Nat.reduceAdd,qF,qG,qI,qf,qK,qa,qz,qd,qE,qc,qA,qg,qH,qy,allLive,J4,tokV,hwr,hwr2];try simp(disch:=omega)only[wrap_i64,wrap_u8]
   repeat (with_reducible refine And.intro ?_ ?_;· first|trivial|omega|(intro hg;simp only[Ky,JH,Jh,VH,VI,VJ,decide_eq_true_eq,decide_eq_false_iff_not,qR]at hg;omega))
   refine qmt Tryd.underlying130 (by rfl) eb_1q0' (by rfl) (qpD nw) ?_;simp+decide only[qh,qi,qj,qo,ev,qZ,qY,putD,Vz,VA,VB,Ka,VC,VD,Kb,and_true,qM,ne_eq,not_false_eq_true,qO w0 eb_1q0',qO w0 eb_2q0',qO w0 eb_w,qN,qJ,VE,setAt,VF,Kj,qC,VG,Kn,Jp,Nat.reduceAdd,qF,qG,qI,qf,qK,qa,qz,qd,qE,qc,qA,qg,qH,qy,allLive,J4,tokV,hwr,hwr2];repeat (with_reducible refine And.intro ?_ ?_;· first|trivial|omega|(intro hg;simp only[Ky,JH,Jh,VH,VI,VJ,decide_eq_true_eq,decide_eq_false_iff_not,qR]at hg;omega))
   change Awp _ _ _ _ _ _ _;refine XZ [1,2,7,8,9,15,16,17] (by rfl) ?_;simp+decide only[qh,qi,qj,qo,ev,qZ,qY,putD,Vz,VA,VB,Ka,VC,VD,Kb,and_true,↓Qj,Qa,Qm,cond_false,Qh,XM,↓qW,qU,qM,ne_eq,not_false_eq_true,qO w0 eb_1q0',qO w0 eb_2q0',qO w0 eb_w,qN,qJ,VE,setAt,VF,Kj,qC,VG,Kn,Jp,Nat.reduceAdd,qF,qG,qI,qf,qK,qa,qz,qd,qE,qc,qA,qg,qH,qy,allLive,J4,tokV,hwj];try simp(disch:=omega)only[wrap_i64,wrap_u8]
   repeat (with_reducible refine And.intro ?_ ?_;· first|trivial|omega|(intro hg;simp only[Ky,JH,Jh,VH,VI,VJ,decide_eq_true_eq,decide_eq_false_iff_not,qR]at hg;omega))
   try simp only[QK,Qt]
   refine⟨⟨j+1,H2.set k1q0 (Yo (pl.length+1) (qkc (pl++[(w,i+1)])))⟩,rfl,by rw[hsn];exact Vg _,⟨hj',qtf hs_H2 hf_1q0 _,?_,(Ve _ _ ne_2q0_1q0).trans eb_2q0',(Ve _ _ ne_w).trans eb_w⟩,by simp only;omega⟩;simp only;rw[Vf,htk,VZ,<-K9,<-hpl,Jb];rfl
  ·try simp only[decide_eq_true_eq,decide_eq_false_iff_not,Jh,VJ,Ky,VH,JH,VI,VV,VW,reduceCtorEq]at hb2
   have hj':j=ws.length:=by omega
   rw[hj',Jo,<-hstp]at eb_1q0';have hwi:IntKind.i64.wrap ((i:Int)+1)=((i+1:Nat):Int):=by rw[wrap_i64 (by omega) (by omega)];omega
   refine XJ ?_;change Awp _ _ _ _ _ _ _;refine XZ [1,7,8,9] (by rfl) ?_;simp+decide only[qh,qi,qj,qo,ev,qZ,qY,putD,Vz,VA,VB,Ka,VC,VD,Kb,and_true,↓Qj,Qa,Qm,cond_false,Qh,XM,↓qW,qU,qM,ne_eq,not_false_eq_true,qO w0 eb_1q0',qO w0 eb_2q0',qO w0 eb_w,qN,qJ,VE,setAt,VF,Kj,qC,VG,Kn,Jp,Nat.reduceAdd,qF,qG,qI,qf,qK,qa,qz,qd,qE,qc,qA,qg,qH,qy,allLive,J4,tokV,hwi];try simp(disch:=omega)only[wrap_i64,wrap_u8]
   repeat (with_reducible refine And.intro ?_ ?_;· first|trivial|omega|(intro hg;simp only[Ky,JH,Jh,VH,VI,VJ,decide_eq_true_eq,decide_eq_false_iff_not,qR]at hg;omega))
   try simp only[QK,Qt]
   exact⟨⟨i+1,H2⟩,rfl,Vg _,⟨hi3,hs_H2,eb_1q0',eb_2q0'⟩,by simp only;omega⟩
 ·try simp only[decide_eq_true_eq,decide_eq_false_iff_not,Jh,VJ,Ky,VH,JH,VI,VV,VW,reduceCtorEq]at hb1
  have hi3:i=3:=by omega
  rw[hi3]at eb_1q0;refine XJ ?_;change Awp _ _ _ _ _ _ _;refine awp_rseq [0] (by rfl) fun K hK=>?_;simp+decide only[qh,qi,qj,qo,ev,qZ,qY,putD,Vz,VA,VB,Ka,VC,VD,Kb,and_true,↓qW,qU,↓qV,qP,qM,ne_eq,not_false_eq_true,qO w0 eb_1q0,qO w0 eb_2q0,ne_2q0_1q0,ne_2q0_1q0.symm,qN,qJ,VE,setAt,VF,Kj,qC,VG,Kn,Jp,Nat.reduceAdd,qF,qG,qI,qf,qK,qa,qz,qd,qE,qc,qA,qg,qH,qy,allLive,J4,tokV];repeat (with_reducible refine And.intro ?_ ?_;· first|trivial|omega|(intro hg;simp only[Ky,JH,Jh,VH,VI,VJ,decide_eq_true_eq,decide_eq_false_iff_not,qR]at hg;omega))
  apply hK;clear hK K;refine Xd ?_;try simp only[QF,Qn]
  refine Xu (Qr (Qv)) ?_;simp+decide only[qh,qi,qj,qo,ev,qZ,qY,putD,Vz,VA,VB,Ka,VC,VD,Kb,and_true,QU,qM,ne_eq,not_false_eq_true,qO w0 eb_1q0,qO w0 eb_2q0,ne_2q0_1q0,ne_2q0_1q0.symm,qN,qJ,VE,setAt,VF,Kj,qC,VG,Kn,Jp,Nat.reduceAdd,qF,qG,qI,qf,qK,qa,qz,qd,qE,qc,qA,qg,qH,qy,allLive,J4,tokV];exact⟨H,Vg _,_,_,rfl,eb_1q0,hf_1q0,hs_H⟩
theorem qrT{h:AHeap}{km c:Nat}{l:List (Str×Nat)}{s:Str}(hm:h km=some (Yo c (qkc l))):qaC Tryd.prog h 130 (.map km) (.str s) false=⟨True, .int .u8 ((l.find? fun p=>decide (p.1=s)).elim 0 (·.2):Nat)⟩:=by
 rcases qgG s l 0 0 with⟨q1,q2⟩|⟨j,p,q1,q2⟩
 ·rw[qlt Tryd.underlying130 ze100 hm (by rfl) q1,qhi,q2]
  rfl
 ·rw[qmR Tryd.underlying130 ze100 hm (by rfl) q1,qhi,q2]
  rfl
theorem qmb(w0:World)(ha:Asp w0)(h:AHeap)(s:Str):ACall Tryd.prog w0 48 [.str s] h (fun r h'=>r= .int .u8 (qbv s:Nat)/\Sub h h'):=by
 refine Xf (n:=6) (rs:=[.tmp 2]) Tryd.func48 rfl rfl rfl rfl (Vy rfl) ?_;simp only[Xe];refine awp_rseq [0] (by rfl) fun K hK=>?_;simp+decide only[qh,qi,qj,qo,ev,qZ,qY,putD,Vz,VA,VB,Ka,VC,VD,Kb,and_true,↓qV,qP,qM,ne_eq,not_false_eq_true,qN,qJ,VE,setAt,VF,Kj,qC,VG,Kn,Jp,Nat.reduceAdd,qF,qG,qI,qf,qK,qa,qz,qd,qE,qc,qA,qg,qH,qy,allLive,J4,tokV];repeat (with_reducible refine And.intro ?_ ?_;· first|trivial|omega|(intro hg;simp only[Ky,JH,Jh,VH,VI,VJ,decide_eq_true_eq,decide_eq_false_iff_not,qR]at hg;omega))
 apply hK;clear hK K;refine awp_rseq [2] (by rfl) fun K hK=>?_;refine QN (by rfl) (by rfl) (c_table w0 ha _) fun x1q0 h1q0 hx1q0=>?_;obtain⟨k,c,rfl,eb_t,hkt,hs1⟩:=hx1q0;have hlk:=qrT (s:=s) eb_t;simp+decide only[qh,qi,qj,qo,ev,qZ,qY,putD,Vz,VA,VB,Ka,VC,VD,Kb,and_true,↓qW,qU,↓qpZ,qmN,↓qV,qP,qM,ne_eq,not_false_eq_true,qN,qJ,VE,setAt,VF,Kj,qC,VG,Kn,Jp,Nat.reduceAdd,qF,qG,qI,qf,qK,qa,qz,qd,qE,qc,qA,qg,qH,qy,allLive,J4,tokV,hlk];repeat (with_reducible refine And.intro ?_ ?_;· first|trivial|omega|(intro hg;simp only[Ky,JH,Jh,VH,VI,VJ,decide_eq_true_eq,decide_eq_false_iff_not,qR]at hg;omega))
 apply hK;clear hK K;refine Xd ?_;try simp only[QF,Qn]
 refine Xu (Qr (Qv)) ?_;simp+decide only[qh,qi,qj,qo,ev,qZ,qY,putD,Vz,VA,VB,Ka,VC,VD,Kb,and_true,QU,qM,ne_eq,not_false_eq_true,qN,qJ,VE,setAt,VF,Kj,qC,VG,Kn,Jp,Nat.reduceAdd,qF,qG,qI,qf,qK,qa,qz,qd,qE,qc,qA,qg,qH,qy,allLive,J4,tokV];exact⟨h,by first|exact hs1|exact Vg _,rfl,Vg _⟩
end Go.Proofs.YtgiadjbiimkbiaaDoor
namespace Go.AM
section
variable {P:Program} {w0:World} {ops rest:List Oper} {s:Slots} {h:AHeap} {K:Slots->AHeap->Prop} {dst:Option Tmp} {ty:TypeId} {pos:String} {af:Array Edge}
theorem qao{fo:Operand}{args:Array Operand}{ts:Array TypeId}{j:Nat}{want:Bool}{g:AVal}{f:FuncId}{cap xs:List AVal}{V:AVal}(hg:gv s ops j=g)(hk:Ww g=true)
 (hf:XB g want=true->ev s fo= .func f cap/\evs s args.toList++cap=xs) (hc:XB g want=true->ACall P w0 f xs h (fun x h'=>x=V/\Sub h h'))
 (hr:∀H,Sub h H->Xp P w0 ops rest (putD s dst (QW (XB g want) V)) H K):
 Xp P w0 ops (⟨dst, .call ⟨.value fo,args,ts⟩,ty,pos,af,some (j,want)⟩::rest) s h K:=by
 subst hg;unfold gv at hk hf hc hr;cases hj:QB ops j with
 |none=>rw[hj]at hk;cases hk
 |some d=>
  simp only[hj]at hk hf hc hr;refine qhK hj rfl hk (fun hb=>?_) (fun hb=>?_)
  ·refine QN (hf hb).1 (hf hb).2 (hc hb) fun x h' ⟨e1,e2⟩=>?_
   subst e1;have:=hr h' e2;simpa[hb,QW]using this
  ·have:=hr h (Vg _)
   simpa[hb,QW]using this
end
end Go.AM
namespace Go.Proofs.YtgiadjbiimkbiaaDoor
open Go.AM
open Go.Proofs
open Go.Col (Str FaultC okF)
open Go.Tok (TokC)
open Go.Stm
open Go.RowKit (Below)
set_option maxRecDepth 100000
def qjj(s:Str):List Str->Nat->Int
 |[],_=> -1
 |t::ts,i=>if t=s then i else qjj s ts (i+1)
theorem qoC(s:Str):∀(ts:List Str) (i:Nat),decide (0<=qjj s ts i)=ts.contains s
 |[],i=>rfl
 |t::ts,i=>by
  rw[qjj,VC];by_cases h:t=s
  ·subst h
   simp
  ·have h':(s==t)=false:=by simpa using fun e=>h e.symm
   rw[if_neg h,h',VU];exact qoC s ts (i+1)
theorem qsC(w0:World)(h:AHeap)(v:AVal)(ts:List Str)(s:Str)(hv:IsStrs w0 h v ts)(hl:ts.length<=1000000):
 ACall Tryd.prog w0 90 [v, .str s] h (fun r h'=>r= .int .i64 (qjj s ts 0)/\h'=h):=by
 have hlv:=hv.live;have nv:=qav hv;refine Xf (n:=19) (rs:=[.tmp 4]) Tryd.func90 rfl rfl rfl rfl (Vy rfl) ?_;simp only[Xe];refine awp_rseq [0,1] (by rfl) fun K hK=>?_;simp+decide only[qh,qi,qj,qo,ev,qZ,qY,putD,Vz,VA,VB,Ka,VC,VD,Kb,and_true,↓qV,qP,qM,ne_eq,not_false_eq_true,qN,qJ,VE,setAt,VF,Kj,qC,VG,Kn,Jp,Nat.reduceAdd,qF,qG,qI,qf,qK,qa,qz,qd,qE,qc,qA,qg,qH,qy,allLive,J4,tokV,hlv,nv];repeat (with_reducible refine And.intro ?_ ?_;· first|trivial|omega|(intro hg;simp only[Ky,JH,Jh,VH,VI,VJ,decide_eq_true_eq,decide_eq_false_iff_not,qR]at hg;omega))
 apply hK;clear hK K;refine Qp ?_;refine awp_rseq [0,1,7,8] (by rfl) fun K hK=>?_;simp+decide only[qh,qi,qj,qo,ev,qZ,qY,putD,Vz,VA,VB,Ka,VC,VD,Kb,and_true,↓qW,qU,↓XG,Xh,QE Tryd.underlying22,QT Tryd.underlying22,qM,ne_eq,not_false_eq_true,qN,qJ,VE,setAt,VF,Kj,qC,VG,Kn,Jp,Nat.reduceAdd,qF,qG,qI,qf,qK,qa,qz,qd,qE,qc,qA,qg,qH,qy,allLive,J4,tokV,hlv,nv];repeat (with_reducible refine And.intro ?_ ?_;· first|trivial|omega|(intro hg;simp only[Ky,JH,Jh,VH,VI,VJ,decide_eq_true_eq,decide_eq_false_iff_not,qR]at hg;omega))
 apply hK;clear hK K;refine QL ?_;refine XI [0,1,7,8] (fun j:Nat=>[(0,v),(1, .str s),(7, .int .i64 ts.length),(8, .int .i64 j)]) (fun j:Nat=>h) (fun j:Nat=>j<=ts.length/\qjj s ts 0=qjj s (ts.drop j) j) (fun j:Nat=>ts.length-j) 0 (by rfl) (Vg _) ⟨Jq _,rfl⟩ ?_;rintro j ⟨hj,hq⟩;refine awp_rseq [0,1,7,8,9] (by rfl) fun K hK=>?_;simp+decide only[qh,qi,qj,qo,ev,qZ,qY,putD,Vz,VA,VB,Ka,VC,VD,Kb,and_true,↓Qj,Qa,Qz,cond_false,Qh,Zo,qM,ne_eq,not_false_eq_true,qN,qJ,VE,setAt,VF,Kj,qC,VG,Kn,Jp,Nat.reduceAdd,qF,qG,qI,qf,qK,qa,qz,qd,qE,qc,qA,qg,qH,qy,allLive,J4,tokV,hlv,nv];repeat (with_reducible refine And.intro ?_ ?_;· first|trivial|omega|(intro hg;simp only[Ky,JH,Jh,VH,VI,VJ,decide_eq_true_eq,decide_eq_false_iff_not,qR]at hg;omega))
 apply hK;clear hK K;refine Qp (Qw (b:=_) rfl (fun hb1=>?_) (fun hb1=>?_))
 ·try simp only[decide_eq_true_eq,decide_eq_false_iff_not,Jh,VJ,Ky,VH,JH,VI,VV,VW,reduceCtorEq]at hb1
  have hj':j<ts.length:=by omega
  obtain⟨lc,o,c,hse⟩:=qhU hv (by omega);have hv3:=hv;rw[hse]at hv3;have ef:=qhV hv3 hj';have hst:qjj s (ts.drop j) j=if ts.getD j []=s then(j:Int)else qjj s (ts.drop (j+1)) (j+1):=by
   rw[J9 hj',qjj];simp[Ko,hj']
  obtain⟨f,hf⟩:∃f,f=ts.getD j []:=⟨_,rfl⟩
  rw[<-hf]at ef hst;have hwj:IntKind.i64.wrap ((j:Int)+1)=((j+1:Nat):Int):=by rw[wrap_i64 (by omega) (by omega)];omega
  refine QJ ?_;change Awp _ _ _ _ _ _ _;refine Qp ?_;refine QL ?_;refine awp_rseq [0,1,5,7,8] (by rfl) fun K hK=>?_;simp+decide only[qh,qi,qj,qo,ev,qZ,qY,putD,Vz,VA,VB,Ka,VC,VD,Kb,and_true,↓qW,qU,↓qV,qP,qM,ne_eq,not_false_eq_true,qN,qJ,VE,setAt,VF,Kj,qC,VG,Kn,Jp,Nat.reduceAdd,qF,qG,qI,qf,qK,qa,qz,qd,qE,qc,qA,qg,qH,qy,allLive,J4,tokV,hlv,nv];repeat (with_reducible refine And.intro ?_ ?_;· first|trivial|omega|(intro hg;simp only[Ky,JH,Jh,VH,VI,VJ,decide_eq_true_eq,decide_eq_false_iff_not,qR]at hg;omega))
  apply hK;clear hK K;refine awp_rseq [0,1,5,7,8,16] (by rfl) fun K hK=>?_;simp+decide only[qh,qi,qj,qo,ev,qZ,qY,putD,Vz,VA,VB,Ka,VC,VD,Kb,and_true,↓qW,qU,↓QV,QM,Ql Tryd.underlying22 sz9,↓Qu,Qi ag9,↓Qj,Qa,Qz,cond_false,XC,Wv,qM,ne_eq,not_false_eq_true,qN,qJ,VE,setAt,VF,Kj,qC,VG,Kn,Jp,Nat.reduceAdd,qF,qG,qI,qf,qK,qa,qz,qd,qE,qc,qA,qg,qH,qy,allLive,J4,tokV,hlv,nv,hse,ef,VX,V6];repeat (with_reducible refine And.intro ?_ ?_;· first|trivial|omega|(intro hg;simp only[Ky,JH,Jh,VH,VI,VJ,decide_eq_true_eq,decide_eq_false_iff_not,qR]at hg;omega))
  apply hK;clear hK K;refine Qw (b:=_) rfl (fun hb2=>?_) (fun hb2=>?_)
  ·try simp only[decide_eq_true_eq,decide_eq_false_iff_not,Jh,VJ,Ky,VH,JH,VI,VV,VW,reduceCtorEq]at hb2
   refine awp_rseq [4] (by rfl) fun K hK=>?_;simp+decide only[qh,qi,qj,qo,ev,qZ,qY,putD,Vz,VA,VB,Ka,VC,VD,Kb,and_true,↓qW,qU,↓qV,qP,qM,ne_eq,not_false_eq_true,qN,qJ,VE,setAt,VF,Kj,qC,VG,Kn,Jp,Nat.reduceAdd,qF,qG,qI,qf,qK,qa,qz,qd,qE,qc,qA,qg,qH,qy,allLive,J4,tokV,hlv,nv];repeat (with_reducible refine And.intro ?_ ?_;· first|trivial|omega|(intro hg;simp only[Ky,JH,Jh,VH,VI,VJ,decide_eq_true_eq,decide_eq_false_iff_not,qR]at hg;omega))
   apply hK;clear hK K;refine Xd ?_;try simp only[QF,Qn]
   refine XV h zqC (Qr (Qv)) ?_;simp+decide only[qh,qi,qj,qo,ev,qZ,qY,putD,Vz,VA,VB,Ka,VC,VD,Kb,and_true,QU,qM,ne_eq,not_false_eq_true,qN,qJ,VE,setAt,VF,Kj,qC,VG,Kn,Jp,Nat.reduceAdd,qF,qG,qI,qf,qK,qa,qz,qd,qE,qc,qA,qg,qH,qy,allLive,J4,tokV,hlv,nv];rw[hq,hst,if_pos hb2.symm]
  ·try simp only[decide_eq_true_eq,decide_eq_false_iff_not,Jh,VJ,Ky,VH,JH,VI,VV,VW,reduceCtorEq]at hb2
   refine QJ ?_;change Awp _ _ _ _ _ _ _;refine XZ [0,1,7,8] (by rfl) ?_;simp+decide only[qh,qi,qj,qo,ev,qZ,qY,putD,Vz,VA,VB,Ka,VC,VD,Kb,and_true,↓Qj,Qa,Qm,cond_false,Qh,XM,↓qW,qU,qM,ne_eq,not_false_eq_true,qN,qJ,VE,setAt,VF,Kj,qC,VG,Kn,Jp,Nat.reduceAdd,qF,qG,qI,qf,qK,qa,qz,qd,qE,qc,qA,qg,qH,qy,allLive,J4,tokV,hlv,nv,hwj];try simp(disch:=omega)only[wrap_i64,wrap_u8]
   repeat (with_reducible refine And.intro ?_ ?_;· first|trivial|omega|(intro hg;simp only[Ky,JH,Jh,VH,VI,VJ,decide_eq_true_eq,decide_eq_false_iff_not,qR]at hg;omega))
   try simp only[QK,Qt]
   refine⟨j+1,by rw[hse];rfl,Vg _,⟨by omega,?_⟩,by omega⟩;rw[hq,hst,if_neg (fun e=>hb2 e.symm)]
 ·try simp only[decide_eq_true_eq,decide_eq_false_iff_not,Jh,VJ,Ky,VH,JH,VI,VV,VW,reduceCtorEq]at hb1
  refine XJ ?_;change Awp _ _ _ _ _ _ _;refine awp_rseq [4] (by rfl) fun K hK=>?_;simp+decide only[qh,qi,qj,qo,ev,qZ,qY,putD,Vz,VA,VB,Ka,VC,VD,Kb,and_true,↓qV,qP,qM,ne_eq,not_false_eq_true,qN,qJ,VE,setAt,VF,Kj,qC,VG,Kn,Jp,Nat.reduceAdd,qF,qG,qI,qf,qK,qa,qz,qd,qE,qc,qA,qg,qH,qy,allLive,J4,tokV,hlv,nv];repeat (with_reducible refine And.intro ?_ ?_;· first|trivial|omega|(intro hg;simp only[Ky,JH,Jh,VH,VI,VJ,decide_eq_true_eq,decide_eq_false_iff_not,qR]at hg;omega))
  apply hK;clear hK K;refine Xd ?_;try simp only[QF,Qn]
  refine XV h zqC (Qr (Qv)) ?_;simp+decide only[qh,qi,qj,qo,ev,qZ,qY,putD,Vz,VA,VB,Ka,VC,VD,Kb,and_true,QU,qM,ne_eq,not_false_eq_true,qN,qJ,VE,setAt,VF,Kj,qC,VG,Kn,Jp,Nat.reduceAdd,qF,qG,qI,qf,qK,qa,qz,qd,qE,qc,qA,qg,qH,qy,allLive,J4,tokV,hlv,nv];rw[hq,Bl (by omega)];rfl
theorem qhu(w0:World)(h:AHeap)(v:AVal)(ts:List Str)(s:Str)(hv:IsStrs w0 h v ts)(hl:ts.length<=1000000):
 ACall Tryd.prog w0 72 [v, .str s] h (fun r h'=>r= .bool (ts.contains s)/\h'=h):=by
 have hlv:=hv.live;have e:=qoC s ts 0;refine Xf (n:=9) (rs:=[.tmp 4]) Tryd.func72 rfl rfl rfl rfl (Vy rfl) ?_;simp only[Xe];refine awp_rseq [0,1] (by rfl) fun K hK=>?_;simp+decide only[qh,qi,qj,qo,ev,qZ,qY,putD,Vz,VA,VB,Ka,VC,VD,Kb,and_true,↓qV,qP,qM,ne_eq,not_false_eq_true,qN,qJ,VE,setAt,VF,Kj,qC,VG,Kn,Jp,Nat.reduceAdd,qF,qG,qI,qf,qK,qa,qz,qd,qE,qc,qA,qg,qH,qy,allLive,J4,tokV,hlv];repeat (with_reducible refine And.intro ?_ ?_;· first|trivial|omega|(intro hg;simp only[Ky,JH,Jh,VH,VI,VJ,decide_eq_true_eq,decide_eq_false_iff_not,qR]at hg;omega))
 apply hK;clear hK K;refine awp_rseq [4] (by rfl) fun K hK=>?_;simp+decide only[qh,qi,qj,qo,ev,qZ,qY,putD,Vz,VA,VB,Ka,VC,VD,Kb,and_true,↓qW,qU,qM,ne_eq,not_false_eq_true,qN,qJ,VE,setAt,VF,Kj,qC,VG,Kn,Jp,Nat.reduceAdd,qF,qG,qI,qf,qK,qa,qz,qd,qE,qc,qA,qg,qH,qy,allLive,J4,tokV,hlv,ge_iff_le,e];repeat (with_reducible refine And.intro ?_ ?_;· first|trivial|omega|(intro hg;simp only[Ky,JH,Jh,VH,VI,VJ,decide_eq_true_eq,decide_eq_false_iff_not,qR]at hg;omega))
 refine XD (V:= .int .i64 (qjj s ts 0)) (by rfl) (by rfl) (qsC w0 _ v ts s hv hl) ?_;simp+decide only[qh,qi,qj,qo,ev,qZ,qY,putD,Vz,VA,VB,Ka,VC,VD,Kb,and_true,↓Qj,Qa,Qm,cond_false,Qh,qrK,↓qV,qP,qM,ne_eq,not_false_eq_true,qN,qJ,VE,setAt,VF,Kj,qC,VG,Kn,Jp,Nat.reduceAdd,qF,qG,qI,qf,qK,qa,qz,qd,qE,qc,qA,qg,qH,qy,allLive,J4,tokV,hlv,ge_iff_le,e];repeat (with_reducible refine And.intro ?_ ?_;· first|trivial|omega|(intro hg;simp only[Ky,JH,Jh,VH,VI,VJ,decide_eq_true_eq,decide_eq_false_iff_not,qR]at hg;omega))
 apply hK;clear hK K;refine Xd ?_;try simp only[QF,Qn]
 refine XV h zqC (Qr (Qv)) ?_;simp+decide only[qh,qi,qj,qo,ev,qZ,qY,putD,Vz,VA,VB,Ka,VC,VD,Kb,and_true,QU,qM,ne_eq,not_false_eq_true,qN,qJ,VE,setAt,VF,Kj,qC,VG,Kn,Jp,Nat.reduceAdd,qF,qG,qI,qf,qK,qa,qz,qd,qE,qc,qA,qg,qH,qy,allLive,J4,tokV,hlv];all_goals first|rfl|exact⟨rfl,rfl⟩|(simp+decide only[Ka, *];done)|(trace_state;fail)
theorem c_isS1(w0:World)(h:AHeap)(v vt:AVal)(l:List TokC)(ts:List Str)(i:Nat)(k:UInt8)(hv:IsL w0 h 5 v (l.map Zh))(hl:l.length<=1000000)(ht:IsStrs w0 h vt ts)(hts:ts.length<=100)(hi:i<l.length):
 ACall Tryd.prog w0 49 [v, .int .i64 i, .int .u8 k.toNat,vt] h (fun r h'=>r= .bool (isK l i k ts)/\h'=h):=by
 have hlv:=hv.live;have nv:=Yl hv;have htl:=ht.live;have hR:isK l i k ts=(decide ((l.getD i noT).kind=k) && ts.contains (l.getD i noT).text):=by unfold isK;rw[if_pos hi]
 obtain⟨lc,o,c,hwe⟩:=YA hv (by omega);have hv2:=hv;rw[hwe]at hv2;obtain⟨e0,e1,-⟩:=Uy hv2 hi;have hkd:decide ((i:Int)<(l.length:Int))=true:=by simpa using hi
 obtain⟨t,htt⟩:∃t,t=l.getD i noT:=⟨_,rfl⟩
 rw[<-htt]at e0 e1 hR;have hk:=Wj t.kind k;rw[hR];refine Xf (n:=31) (rs:=[.tmp 8]) Tryd.func49 rfl rfl rfl rfl (Vy rfl) ?_;simp only[Xe];refine awp_rseq [0,1,2,3] (by rfl) fun K hK=>?_;simp+decide only[qh,qi,qj,qo,ev,qZ,qY,putD,Vz,VA,VB,Ka,VC,VD,Kb,and_true,↓qV,qP,qM,ne_eq,not_false_eq_true,qN,qJ,VE,setAt,VF,Kj,qC,VG,Kn,Jp,Nat.reduceAdd,qF,qG,qI,qf,qK,qa,qz,qd,qE,qc,qA,qg,qH,qy,allLive,J4,tokV,hlv,nv,htl];repeat (with_reducible refine And.intro ?_ ?_;· first|trivial|omega|(intro hg;simp only[Ky,JH,Jh,VH,VI,VJ,decide_eq_true_eq,decide_eq_false_iff_not,qR]at hg;omega))
 apply hK;clear hK K;refine awp_rseq [8] (by rfl) fun K hK=>?_;simp+decide only[qh,qi,qj,qo,ev,qZ,qY,putD,Vz,VA,VB,Ka,VC,VD,Kb,and_true,↓qW,qU,↓XG,Xh,QE Tryd.underlying31,QT Tryd.underlying31,↓Qj,Qa,Qz,cond_false,Qh,Zo,↓Zj,agP,Xw,gv,QB,QD,QC,Qs,Qg,Qe,Zk,implies_true,VK,decide_true,decide_false,VL,VM,Qc,Qb,forall_const,false_implies,Qk,Qf,J4,VN,VO,VP,VQ,VS,VT,VU,Xb,Xc,Xa,↓Ye,QM,Zt,Wn,Uv,Uu,Ut,Us,Ur,Uo,Uj,Ui,Un,Um,Ul,Uk,Ql Tryd.underlying31 Yv,YL,YK,YN,YM,↓XW,Qd,Ud,XN,XO,↓ZG,ZP,ZO,ZN,ZM,ZL,ZK,Qi qha,ZI,ZJ,↓XT,Zb,Za,Zd,Zc,ZE,↓XH,Xj,QO,QH,QG,QA,Xo,Xn,Xm,Xl,QZ,Xk,qbe,Qi ag9,qM,ne_eq,not_false_eq_true,qN,qJ,VE,setAt,VF,Kj,qC,VG,Kn,Jp,Nat.reduceAdd,qF,qG,qI,qf,qK,qa,qz,qd,qE,qc,qA,qg,qH,qy,allLive,J4,tokV,hlv,nv,htl,hwe,hkd,e0,e1,hk,VX,K6,qaL,Qb,Qc,VP,VO];repeat (with_reducible refine And.intro ?_ ?_;· first|trivial|omega|(intro hg;simp only[Ky,JH,Jh,VH,VI,VJ,decide_eq_true_eq,decide_eq_false_iff_not,qR]at hg;omega))
 first
 |(refine Zf (by rfl) ?_;refine XD (V:= .bool (ts.contains t.text)) (by rfl) (by rfl) (qhu w0 _ vt ts t.text ht (by omega)) ?_)
 |(refine WI (by rfl) (by rfl) ?_)
 |(refine Wo (V:= .bool (ts.contains t.text)) (f:=_) (cap:=_) (xs:=_) (by first|rfl|(simp+decide only[gv,QB,VA,Ka,QC,QD])) (fun hg=>⟨rfl,?_⟩) (fun hg=>qhu w0 _ vt ts t.text ht (by omega)) ?_;· (simp+decide only[gv,QB,putD,Vz,VA,Ka,Qg,Qe,Qs,VK]at hg;simp+decide only[evs,ev,putD,Vz,VA,Ka,hg,Qc,JE,Ke,Vh,qZ,qY]<;>try rfl))
 simp+decide only[qh,qi,qj,qo,ev,qZ,qY,putD,Vz,VA,VB,Ka,VC,VD,Kb,and_true,gv,QB,Qg,Qe,Qs,↓XH,Xj,QO,QH,QG,QA,Xo,Xn,Xm,Xl,QZ,Xk,↓qV,qP,qM,ne_eq,not_false_eq_true,qN,qJ,VE,setAt,VF,Kj,qC,VG,Kn,Jp,Nat.reduceAdd,qF,qG,qI,qf,qK,qa,qz,qd,qE,qc,qA,qg,qH,qy,allLive,J4,tokV,hlv,nv,htl,hwe,hkd,e0,e1,hk,VX,K6,qaL,Qb,Qc,VP,VO];repeat (with_reducible refine And.intro ?_ ?_;· first|trivial|omega|(intro hg;simp only[Ky,JH,Jh,VH,VI,VJ,decide_eq_true_eq,decide_eq_false_iff_not,qR]at hg;omega))
 apply hK;clear hK K;refine Xd ?_;try simp only[QF,Qn]
 refine XV h zqC (Qr (Qv)) ?_;simp+decide only[qh,qi,qj,qo,ev,qZ,qY,putD,Vz,VA,VB,Ka,VC,VD,Kb,and_true,QU,qM,ne_eq,not_false_eq_true,qN,qJ,VE,setAt,VF,Kj,qC,VG,Kn,Jp,Nat.reduceAdd,qF,qG,qI,qf,qK,qa,qz,qd,qE,qc,qA,qg,qH,qy,allLive,J4,tokV,hlv,nv,htl];all_goals first|rfl|exact⟨rfl,rfl⟩|(simp+decide only[Ka, *];done)|(trace_state;fail)
theorem c_isS0(w0:World)(h:AHeap)(v vt:AVal)(l:List TokC)(ts:List Str)(i:Nat)(k:UInt8)(hv:IsL w0 h 5 v (l.map Zh))(hl:l.length<=1000000)(ht:IsStrs w0 h vt ts)(hi:¬i<l.length):
 ACall Tryd.prog w0 49 [v, .int .i64 i, .int .u8 k.toNat,vt] h (fun r h'=>r= .bool (isK l i k ts)/\h'=h):=by
 have hlv:=hv.live;have nv:=Yl hv;have htl:=ht.live;have hR:isK l i k ts=false:=by unfold isK;rw[if_neg hi]
 have hkd:decide ((i:Int)<(l.length:Int))=false:=by simpa using hi
 rw[hR];refine Xf (n:=31) (rs:=[.tmp 8]) Tryd.func49 rfl rfl rfl rfl (Vy rfl) ?_;simp only[Xe];refine awp_rseq [0,1,2,3] (by rfl) fun K hK=>?_;simp+decide only[qh,qi,qj,qo,ev,qZ,qY,putD,Vz,VA,VB,Ka,VC,VD,Kb,and_true,↓qV,qP,qM,ne_eq,not_false_eq_true,qN,qJ,VE,setAt,VF,Kj,qC,VG,Kn,Jp,Nat.reduceAdd,qF,qG,qI,qf,qK,qa,qz,qd,qE,qc,qA,qg,qH,qy,allLive,J4,tokV,hlv,nv,htl];repeat (with_reducible refine And.intro ?_ ?_;· first|trivial|omega|(intro hg;simp only[Ky,JH,Jh,VH,VI,VJ,decide_eq_true_eq,decide_eq_false_iff_not,qR]at hg;omega))
 apply hK;clear hK K;refine awp_rseq [8] (by rfl) fun K hK=>?_;simp+decide only[qh,qi,qj,qo,ev,qZ,qY,putD,Vz,VA,VB,Ka,VC,VD,Kb,and_true,↓qW,qU,↓XG,Xh,QE Tryd.underlying31,QT Tryd.underlying31,↓Qj,Qa,Qz,cond_false,Qh,Zo,↓Zj,agP,Xw,gv,QB,QD,QC,Qs,Qg,Qe,Zk,implies_true,VK,decide_true,decide_false,VL,VM,Qc,Qb,forall_const,false_implies,Qk,Qf,J4,VN,VO,VP,VQ,VS,VT,VU,Xb,Xc,Xa,↓Ye,QM,Zt,Wn,Uv,Uu,Ut,Us,Ur,Uo,Uj,Ui,Un,Um,Ul,Uk,Ql Tryd.underlying31 Yv,YL,YK,YN,YM,↓XW,Qd,Ud,XN,XO,↓ZG,ZP,ZO,ZN,ZM,ZL,ZK,Qi qha,ZI,ZJ,↓XT,Zb,Za,Zd,Zc,ZE,↓XH,Xj,QO,QH,QG,QA,Xo,Xn,Xm,Xl,QZ,Xk,qbe,Qi ag9,qM,ne_eq,not_false_eq_true,qN,qJ,VE,setAt,VF,Kj,qC,VG,Kn,Jp,Nat.reduceAdd,qF,qG,qI,qf,qK,qa,qz,qd,qE,qc,qA,qg,qH,qy,allLive,J4,tokV,hlv,nv,htl,hkd,qaL,Qb,Qc,VP,VO];repeat (with_reducible refine And.intro ?_ ?_;· first|trivial|omega|(intro hg;simp only[Ky,JH,Jh,VH,VI,VJ,decide_eq_true_eq,decide_eq_false_iff_not,qR]at hg;omega))
 first
 |(refine Zf (by rfl) ?_;refine XD (V:= .bool true) (by rfl) (by rfl) (absurd hg (by decide)) ?_)
 |(refine WI (by rfl) (by rfl) ?_)
 |(refine Wo (V:= .bool true) (f:=_) (cap:=_) (xs:=_) (by first|rfl|(simp+decide only[gv,QB,VA,Ka,QC,QD])) (fun hg=>⟨rfl,?_⟩) (fun hg=>absurd hg (by decide)) ?_;· (simp+decide only[gv,QB,putD,Vz,VA,Ka,Qg,Qe,Qs,VK]at hg;simp+decide only[evs,ev,putD,Vz,VA,Ka,hg,Qc,JE,Ke,Vh,qZ,qY]<;>try rfl))
 simp+decide only[qh,qi,qj,qo,ev,qZ,qY,putD,Vz,VA,VB,Ka,VC,VD,Kb,and_true,gv,QB,Qg,Qe,Qs,↓XH,Xj,QO,QH,QG,QA,Xo,Xn,Xm,Xl,QZ,Xk,↓qV,qP,qM,ne_eq,not_false_eq_true,qN,qJ,VE,setAt,VF,Kj,qC,VG,Kn,Jp,Nat.reduceAdd,qF,qG,qI,qf,qK,qa,qz,qd,qE,qc,qA,qg,qH,qy,allLive,J4,tokV,hlv,nv,htl,hkd,qaL,Qb,Qc,VP,VO];repeat (with_reducible refine And.intro ?_ ?_;· first|trivial|omega|(intro hg;simp only[Ky,JH,Jh,VH,VI,VJ,decide_eq_true_eq,decide_eq_false_iff_not,qR]at hg;omega))
 apply hK;clear hK K;refine Xd ?_;try simp only[QF,Qn]
 refine XV h zqC (Qr (Qv)) ?_;simp+decide only[qh,qi,qj,qo,ev,qZ,qY,putD,Vz,VA,VB,Ka,VC,VD,Kb,and_true,QU,qM,ne_eq,not_false_eq_true,qN,qJ,VE,setAt,VF,Kj,qC,VG,Kn,Jp,Nat.reduceAdd,qF,qG,qI,qf,qK,qa,qz,qd,qE,qc,qA,qg,qH,qy,allLive,J4,tokV,hlv,nv,htl];all_goals first|rfl|exact⟨rfl,rfl⟩|(simp+decide only[Ka, *];done)|(trace_state;fail)
theorem qmd(w0:World)(h:AHeap)(v vt:AVal)(l:List TokC)(ts:List Str)(i:Nat)(k:UInt8)(hv:IsL w0 h 5 v (l.map Zh))(hl:l.length<=1000000)(ht:IsStrs w0 h vt ts)(hts:ts.length<=100):
 ACall Tryd.prog w0 49 [v, .int .i64 i, .int .u8 k.toNat,vt] h (fun r h'=>r= .bool (isK l i k ts)/\h'=h):=by
 by_cases hi:i<l.length
 ·exact c_isS1 w0 h v vt l ts i k hv hl ht hts hi
 ·exact c_isS0 w0 h v vt l ts i k hv hl ht hi
theorem qsA(w0:World)(ha:Asp w0)(h:AHeap)(v:AVal)(l:List TokC)(i:Nat)(hv:IsL w0 h 5 v (l.map Zh))(hl:l.length<=1000000)(hi:i<l.length):
 ACall Tryd.prog w0 47 [v, .int .i64 i] h (fun r h'=>r= .bool (qgI QY l i)/\Sub h h'):=by
 have hlv:=hv.live;have nv:=Yl hv;have hR:qgI QY l i=(decide ((l.getD i noT).kind=1) && decide (qbv (l.getD i noT).text=0)):=by unfold qgI;rw[if_pos hi];rfl
 obtain⟨lc,o,c,hwe⟩:=YA hv (by omega);have hv2:=hv;rw[hwe]at hv2;obtain⟨e0,e1,-⟩:=Uy hv2 hi;have hkd:decide ((i:Int)<(l.length:Int))=true:=by simpa using hi
 obtain⟨t,htt⟩:∃t,t=l.getD i noT:=⟨_,rfl⟩
 rw[<-htt]at e0 e1 hR;have hk:decide ((t.kind.toNat:Int)=1)=decide (t.kind=1):=Wj t.kind 1;have hw:∀n:Nat,decide ((n:Int)=0)=decide (n=0):=fun n=>by
  by_cases h:n=0
  ·subst h;rfl
  ·have:(n:Int)≠0:=by omega
   simp[h,this]
 rw[hR];refine Xf (n:=26) (rs:=[.tmp 4]) Tryd.func47 rfl rfl rfl rfl (Vy rfl) ?_;simp only[Xe];refine awp_rseq [0,1] (by rfl) fun K hK=>?_;simp+decide only[qh,qi,qj,qo,ev,qZ,qY,putD,Vz,VA,VB,Ka,VC,VD,Kb,and_true,↓qV,qP,qM,ne_eq,not_false_eq_true,qN,qJ,VE,setAt,VF,Kj,qC,VG,Kn,Jp,Nat.reduceAdd,qF,qG,qI,qf,qK,qa,qz,qd,qE,qc,qA,qg,qH,qy,allLive,J4,tokV,hlv,nv];repeat (with_reducible refine And.intro ?_ ?_;· first|trivial|omega|(intro hg;simp only[Ky,JH,Jh,VH,VI,VJ,decide_eq_true_eq,decide_eq_false_iff_not,qR]at hg;omega))
 apply hK;clear hK K;refine awp_rseq [4] (by rfl) fun K hK=>?_;simp+decide only[qh,qi,qj,qo,ev,qZ,qY,putD,Vz,VA,VB,Ka,VC,VD,Kb,and_true,↓qW,qU,↓XG,Xh,QE Tryd.underlying31,QT Tryd.underlying31,↓Qj,Qa,Qz,cond_false,Qh,Zo,↓Zj,agP,Xw,gv,QB,QD,QC,Qs,Qg,Qe,Zk,implies_true,VK,decide_true,decide_false,VL,VM,Qc,Qb,forall_const,false_implies,Qk,Qf,J4,VN,VO,VP,VQ,VS,VT,VU,Xb,Xc,Xa,↓Ye,QM,Zt,Wn,Uv,Uu,Ut,Us,Ur,Uo,Uj,Ui,Un,Um,Ul,Uk,Ql Tryd.underlying31 Yv,YL,YK,YN,YM,↓XW,Qd,Ud,XN,XO,↓ZG,ZP,ZO,ZN,ZM,ZL,ZK,Qi qha,ZI,ZJ,↓XT,Qm,Zb,Za,Zd,Zc,ZE,↓XH,Xj,QO,QH,QG,QA,Xo,Xn,Xm,Xl,QZ,Xk,qbe,Qi ag9,qM,ne_eq,not_false_eq_true,qN,qJ,VE,setAt,VF,Kj,qC,VG,Kn,Jp,Nat.reduceAdd,qF,qG,qI,qf,qK,qa,qz,qd,qE,qc,qA,qg,qH,qy,allLive,J4,tokV,hlv,nv,hwe,hkd,e0,e1,hk,VX,K6,qaL,Qb,Qc,VP,VO];repeat (with_reducible refine And.intro ?_ ?_;· first|trivial|omega|(intro hg;simp only[Ky,JH,Jh,VH,VI,VJ,decide_eq_true_eq,decide_eq_false_iff_not,qR]at hg;omega))
 refine qao (g:= .bool (decide (t.kind=1))) (V:= .int .u8 (qbv t.text:Nat)) (f:=48) (cap:=[]) (xs:=[.str t.text]) (by rfl) (by rfl) (fun hg=>⟨rfl,by
  have hg':decide (t.kind=1)=true:=by rwa [Qg]at hg
  simp+decide only[evs,ev,putD,Vz,VA,Ka,hg',Qc,JE,Ke,Vh]⟩) (fun hg=>qmb w0 ha _ t.text) fun h1q18 hs18=>?_
 have hs_h1q18:Sub h h1q18:=Bq zqC hs18;have hr_h1q18:=hs_h1q18;simp+decide only[qh,qi,qj,qo,ev,qZ,qY,putD,Vz,VA,VB,Ka,VC,VD,Kb,and_true,gv,QB,Qg,Qe,Qs,↓XT,Qa,agP,Xw,QD,QC,Zk,implies_true,VK,decide_true,decide_false,VL,VM,Qc,Qb,forall_const,false_implies,Qk,Qf,J4,VN,VO,VP,VQ,VS,VT,VU,Qm,cond_false,Zb,Za,Zd,Zc,Qh,ZE,Xb,Xc,Xa,↓XH,Xj,QO,QH,QG,QA,Xo,Xn,Xm,Xl,QZ,Xk,↓qV,qP,qM,ne_eq,not_false_eq_true,qN,qJ,VE,setAt,VF,Kj,qC,VG,Kn,Jp,Nat.reduceAdd,qF,qG,qI,qf,qK,qa,qz,qd,qE,qc,qA,qg,qH,qy,allLive,J4,tokV,hlv,nv,hwe,hkd,e0,e1,hk,VX,K6,qaL,Qb,Qc,VP,VO,hw];repeat (with_reducible refine And.intro ?_ ?_;· first|trivial|omega|(intro hg;simp only[Ky,JH,Jh,VH,VI,VJ,decide_eq_true_eq,decide_eq_false_iff_not,qR]at hg;omega))
 apply hK;clear hK K;refine Xd ?_;try simp only[QF,Qn]
 refine Xu (Qr (Qv)) ?_;simp+decide only[qh,qi,qj,qo,ev,qZ,qY,putD,Vz,VA,VB,Ka,VC,VD,Kb,and_true,QU,qM,ne_eq,not_false_eq_true,qN,qJ,VE,setAt,VF,Kj,qC,VG,Kn,Jp,Nat.reduceAdd,qF,qG,qI,qf,qK,qa,qz,qd,qE,qc,qA,qg,qH,qy,allLive,J4,tokV,hlv,nv];exact⟨h,hs18,Vg _⟩
theorem qsB(w0:World)(h:AHeap)(v:AVal)(l:List TokC)(i:Nat)(hv:IsL w0 h 5 v (l.map Zh))(hl:l.length<=1000000)(hi:¬i<l.length):
 ACall Tryd.prog w0 47 [v, .int .i64 i] h (fun r h'=>r= .bool (qgI QY l i)/\h'=h):=by
 have hlv:=hv.live;have nv:=Yl hv;have hR:qgI QY l i=false:=by unfold qgI;rw[if_neg hi]
 have hkd:decide ((i:Int)<(l.length:Int))=false:=by simpa using hi
 rw[hR];refine Xf (n:=26) (rs:=[.tmp 4]) Tryd.func47 rfl rfl rfl rfl (Vy rfl) ?_;simp only[Xe];refine awp_rseq [0,1] (by rfl) fun K hK=>?_;simp+decide only[qh,qi,qj,qo,ev,qZ,qY,putD,Vz,VA,VB,Ka,VC,VD,Kb,and_true,↓qV,qP,qM,ne_eq,not_false_eq_true,qN,qJ,VE,setAt,VF,Kj,qC,VG,Kn,Jp,Nat.reduceAdd,qF,qG,qI,qf,qK,qa,qz,qd,qE,qc,qA,qg,qH,qy,allLive,J4,tokV,hlv,nv];repeat (with_reducible refine And.intro ?_ ?_;· first|trivial|omega|(intro hg;simp only[Ky,JH,Jh,VH,VI,VJ,decide_eq_true_eq,decide_eq_false_iff_not,qR]at hg;omega))
 apply hK;clear hK K;refine awp_rseq [4] (by rfl) fun K hK=>?_;simp+decide only[qh,qi,qj,qo,ev,qZ,qY,putD,Vz,VA,VB,Ka,VC,VD,Kb,and_true,↓qW,qU,↓XG,Xh,QE Tryd.underlying31,QT Tryd.underlying31,↓Qj,Qa,Qz,cond_false,Qh,Zo,↓Zj,agP,Xw,gv,QB,QD,QC,Qs,Qg,Qe,Zk,implies_true,VK,decide_true,decide_false,VL,VM,Qc,Qb,forall_const,false_implies,Qk,Qf,J4,VN,VO,VP,VQ,VS,VT,VU,Xb,Xc,Xa,↓Ye,QM,Zt,Wn,Uv,Uu,Ut,Us,Ur,Uo,Uj,Ui,Un,Um,Ul,Uk,Ql Tryd.underlying31 Yv,YL,YK,YN,YM,↓XW,Qd,Ud,XN,XO,↓ZG,ZP,ZO,ZN,ZM,ZL,ZK,Qi qha,ZI,ZJ,↓XT,Qm,Zb,Za,Zd,Zc,ZE,↓XH,Xj,QO,QH,QG,QA,Xo,Xn,Xm,Xl,QZ,Xk,qbe,Qi ag9,qM,ne_eq,not_false_eq_true,qN,qJ,VE,setAt,VF,Kj,qC,VG,Kn,Jp,Nat.reduceAdd,qF,qG,qI,qf,qK,qa,qz,qd,qE,qc,qA,qg,qH,qy,allLive,J4,tokV,hlv,nv,hkd,qaL,Qb,Qc,VP,VO];repeat (with_reducible refine And.intro ?_ ?_;· first|trivial|omega|(intro hg;simp only[Ky,JH,Jh,VH,VI,VJ,decide_eq_true_eq,decide_eq_false_iff_not,qR]at hg;omega))
 first
 |(refine Zf (by rfl) ?_;refine XD (V:= .int .u8 0) (by rfl) (by rfl) (absurd hg (by decide)) ?_)
 |(refine WI (by rfl) (by rfl) ?_)
 |(refine Wo (V:= .int .u8 0) (f:=_) (cap:=_) (xs:=_) (by first|rfl|(simp+decide only[gv,QB,VA,Ka,QC,QD])) (fun hg=>⟨rfl,?_⟩) (fun hg=>absurd hg (by decide)) ?_;· (simp+decide only[gv,QB,putD,Vz,VA,Ka,Qg,Qe,Qs,VK]at hg;simp+decide only[evs,ev,putD,Vz,VA,Ka,hg,Qc,JE,Ke,Vh,qZ,qY]<;>try rfl))
 simp+decide only[qh,qi,qj,qo,ev,qZ,qY,putD,Vz,VA,VB,Ka,VC,VD,Kb,and_true,gv,QB,Qg,Qe,Qs,↓XT,Qa,agP,Xw,QD,QC,Zk,implies_true,VK,decide_true,decide_false,VL,VM,Qc,Qb,forall_const,false_implies,Qk,Qf,J4,VN,VO,VP,VQ,VS,VT,VU,Qm,cond_false,Zb,Za,Zd,Zc,Qh,ZE,Xb,Xc,Xa,↓XH,Xj,QO,QH,QG,QA,Xo,Xn,Xm,Xl,QZ,Xk,↓qV,qP,qM,ne_eq,not_false_eq_true,qN,qJ,VE,setAt,VF,Kj,qC,VG,Kn,Jp,Nat.reduceAdd,qF,qG,qI,qf,qK,qa,qz,qd,qE,qc,qA,qg,qH,qy,allLive,J4,tokV,hlv,nv,hkd,qaL,Qb,Qc,VP,VO];repeat (with_reducible refine And.intro ?_ ?_;· first|trivial|omega|(intro hg;simp only[Ky,JH,Jh,VH,VI,VJ,decide_eq_true_eq,decide_eq_false_iff_not,qR]at hg;omega))
 apply hK;clear hK K;refine Xd ?_;try simp only[QF,Qn]
 refine XV h zqC (Qr (Qv)) ?_;simp+decide only[qh,qi,qj,qo,ev,qZ,qY,putD,Vz,VA,VB,Ka,VC,VD,Kb,and_true,QU,qM,ne_eq,not_false_eq_true,qN,qJ,VE,setAt,VF,Kj,qC,VG,Kn,Jp,Nat.reduceAdd,qF,qG,qI,qf,qK,qa,qz,qd,qE,qc,qA,qg,qH,qy,allLive,J4,tokV,hlv,nv];all_goals first|rfl|exact⟨rfl,rfl⟩|(simp+decide only[Ka, *];done)|(trace_state;fail)
theorem qoN(w0:World)(ha:Asp w0)(h:AHeap)(v:AVal)(l:List TokC)(i:Nat)(hv:IsL w0 h 5 v (l.map Zh))(hl:l.length<=1000000):
 ACall Tryd.prog w0 47 [v, .int .i64 i] h (fun r h'=>r= .bool (qgI QY l i)/\Sub h h'):=by
 by_cases hi:i<l.length
 ·exact qsA w0 ha h v l i hv hl hi
 ·exact(qsB w0 h v l i hv hl hi).mono fun r h' ⟨e1,e2⟩=>⟨e1,by rw[e2];exact Vg _⟩
theorem qsc{l:List TokC}{i:Nat}{k:UInt8}{ts:List Str}(h:isK l i k ts=true):i<l.length:=by
 unfold isK at h;by_cases hi:i<l.length
 ·exact hi
 ·rw[if_neg hi]at h;cases h
structure GrG where
 k:Nat
 d:Int
 p:Bool
 H:AHeap
theorem qhE{w0:World}{h:AHeap}{k:Nat}{s:Str}(hk:h k=some ⟨[.str s],0⟩):IsStrs w0 h (.slice (.own k) 0 1 (.exact 1)) [s]:=qcv (l:=[s]) hk
theorem qkw{l:List TokC}{i k f:Nat}{d:Int}{p:Bool}(hk:k<l.length)(hf:f=l.length+1-k):
 qaK l i f k d p=if (if isK l k 5 [[40]]=true then d+1 else if isK l k 5 [[41]]=true then d-1 else d)=0 then(k+1-i,if isK l k 5 [[40]]=true then p else if isK l k 5 [[41]]=true then p else if isK l k 5 [[58]]=true/\d=1 then true else p)else qaK l i (l.length+1-(k+1)) (k+1) (if isK l k 5 [[40]]=true then d+1 else if isK l k 5 [[41]]=true then d-1 else d) (if isK l k 5 [[40]]=true then p else if isK l k 5 [[41]]=true then p else if isK l k 5 [[58]]=true/\d=1 then true else p):=by
 obtain⟨g,hg⟩:∃g,f=g+1:=⟨l.length-k,by omega⟩
 rw[hg,qaK,if_pos hk,show l.length+1-(k+1)=g by omega]
set_option maxHeartbeats 2000000 in
theorem qoO(w0:World)(h:AHeap)(v:AVal)(l:List TokC)(i:Nat)(hv:IsL w0 h 5 v (l.map Zh))(hl:l.length<=1000000):
 ACall Tryd.prog w0 50 [v, .int .i64 i] h (fun r h'=>r= .tuple [.int .i64 (WN l i).1, .bool (WN l i).2]/\Sub h h'):=by
 have hlv:=hv.live;have nv:=Yl hv;have hR:WN l i=if isK l i 5 [[40]]=true then qaK l i (l.length+1-i) i 0 false else(0,false):=rfl
 obtain⟨R,hR'⟩:∃R,R=WN l i:=⟨_,rfl⟩
 rw[<-hR']at hR|-
 refine Xf (n:=51) (rs:=[.tmp 4, .tmp 5]) Tryd.func50 rfl rfl rfl rfl (Vy rfl) ?_;simp only[Xe];refine awp_rseq [0,1] (by rfl) fun K hK=>?_;simp+decide only[qh,qi,qj,qo,ev,qZ,qY,putD,Vz,VA,VB,Ka,VC,VD,Kb,and_true,↓qV,qP,qM,ne_eq,not_false_eq_true,qN,qJ,VE,setAt,VF,Kj,qC,VG,Kn,Jp,Nat.reduceAdd,qF,qG,qI,qf,qK,qa,qz,qd,qE,qc,qA,qg,qH,qy,allLive,J4,tokV,hlv,nv];repeat (with_reducible refine And.intro ?_ ?_;· first|trivial|omega|(intro hg;simp only[Ky,JH,Jh,VH,VI,VJ,decide_eq_true_eq,decide_eq_false_iff_not,qR]at hg;omega))
 apply hK;clear hK K;refine Qp ?_;refine awp_rseq [0,1,13] (by rfl) fun K hK=>?_;simp+decide only[qh,qi,qj,qo,ev,qZ,qY,putD,Vz,VA,VB,Ka,VC,VD,Kb,and_true,↓qW,qU,qM,ne_eq,not_false_eq_true,qN,qJ,VE,setAt,VF,Kj,qC,VG,Kn,Jp,Nat.reduceAdd,qF,qG,qI,qf,qK,qa,qz,qd,qE,qc,qA,qg,qH,qy,allLive,J4,tokV,hlv,nv];repeat (with_reducible refine And.intro ?_ ?_;· first|trivial|omega|(intro hg;simp only[Ky,JH,Jh,VH,VI,VJ,decide_eq_true_eq,decide_eq_false_iff_not,qR]at hg;omega))
 refine QS (cs:=[.str [40]]) (by kernel_rfl) fun k1q2 hk1q2=>?_;try have hf_1q2:h k1q2=none:=by first|assumption|(simp only[V7]at hk1q2;simp only[hk1q2])
 refine XD (V:= .bool (isK l i 5 [[40]])) (by rfl) (by rfl) (qmd w0 _ v _ l [[40]] i 5 (hv.mono zqB) hl (qhE zqA) (by decide)) ?_;simp+decide only[qh,qi,qj,qo,ev,qZ,qY,putD,Vz,VA,VB,Ka,VC,VD,Kb,and_true,↓qeS,YB,UD,qM,ne_eq,not_false_eq_true,qN,qJ,VE,setAt,VF,Kj,qC,VG,Kn,Jp,Nat.reduceAdd,qF,qG,qI,qf,qK,qa,qz,qd,qE,qc,qA,qg,qH,qy,allLive,J4,tokV,hlv,nv];try simp(disch:=omega)only[wrap_i64,wrap_u8]
 repeat (with_reducible refine And.intro ?_ ?_;· first|trivial|omega|(intro hg;simp only[Ky,JH,Jh,VH,VI,VJ,decide_eq_true_eq,decide_eq_false_iff_not,qR]at hg;omega))
 apply hK;clear hK K;refine Qw (b:=_) rfl (fun hb1=>?_) (fun hb1=>?_)
 ·try simp only[decide_eq_true_eq,decide_eq_false_iff_not,Jh,VJ,Ky,VH,JH,VI,VV,VW,reduceCtorEq]at hb1
  rw[if_neg (by rw[hb1];decide)]at hR;refine awp_rseq [4,5] (by rfl) fun K hK=>?_;simp+decide only[qh,qi,qj,qo,ev,qZ,qY,putD,Vz,VA,VB,Ka,VC,VD,Kb,and_true,↓qV,qP,qM,ne_eq,not_false_eq_true,qN,qJ,VE,setAt,VF,Kj,qC,VG,Kn,Jp,Nat.reduceAdd,qF,qG,qI,qf,qK,qa,qz,qd,qE,qc,qA,qg,qH,qy,allLive,J4,tokV,hlv,nv];repeat (with_reducible refine And.intro ?_ ?_;· first|trivial|omega|(intro hg;simp only[Ky,JH,Jh,VH,VI,VJ,decide_eq_true_eq,decide_eq_false_iff_not,qR]at hg;omega))
  apply hK;clear hK K;refine Xd ?_;try simp only[QF,Qn]
  refine Xu (Qr (Qr (Qv))) ?_;simp+decide only[qh,qi,qj,qo,ev,qZ,qY,putD,Vz,VA,VB,Ka,VC,VD,Kb,and_true,Yi,qM,ne_eq,not_false_eq_true,qN,qJ,VE,setAt,VF,Kj,qC,VG,Kn,Jp,Nat.reduceAdd,qF,qG,qI,qf,qK,qa,qz,qd,qE,qc,qA,qg,qH,qy,allLive,J4,tokV,hlv,nv];rw[hR];exact⟨h,zqB,rfl,Vg _⟩
 ·try simp only[decide_eq_true_eq,decide_eq_false_iff_not,Jh,VJ,Ky,VH,JH,VI,VV,VW,reduceCtorEq]at hb1
  rw[if_pos hb1]at hR;have hil:=qsc hb1;refine QJ ?_;change Awp _ _ _ _ _ _ _;refine awp_rseq [0,1,6,7] (by rfl) fun K hK=>?_;simp+decide only[qh,qi,qj,qo,ev,qZ,qY,putD,Vz,VA,VB,Ka,VC,VD,Kb,and_true,↓qV,qP,qM,ne_eq,not_false_eq_true,qN,qJ,VE,setAt,VF,Kj,qC,VG,Kn,Jp,Nat.reduceAdd,qF,qG,qI,qf,qK,qa,qz,qd,qE,qc,qA,qg,qH,qy,allLive,J4,tokV,hlv,nv];repeat (with_reducible refine And.intro ?_ ?_;· first|trivial|omega|(intro hg;simp only[Ky,JH,Jh,VH,VI,VJ,decide_eq_true_eq,decide_eq_false_iff_not,qR]at hg;omega))
  apply hK;clear hK K;refine Qp ?_;refine awp_rseq [0,1,6,7,8] (by rfl) fun K hK=>?_;simp+decide only[qh,qi,qj,qo,ev,qZ,qY,putD,Vz,VA,VB,Ka,VC,VD,Kb,and_true,↓qW,qU,↓qV,qP,qM,ne_eq,not_false_eq_true,qN,qJ,VE,setAt,VF,Kj,qC,VG,Kn,Jp,Nat.reduceAdd,qF,qG,qI,qf,qK,qa,qz,qd,qE,qc,qA,qg,qH,qy,allLive,J4,tokV,hlv,nv];repeat (with_reducible refine And.intro ?_ ?_;· first|trivial|omega|(intro hg;simp only[Ky,JH,Jh,VH,VI,VJ,decide_eq_true_eq,decide_eq_false_iff_not,qR]at hg;omega))
  apply hK;clear hK K;refine QL ?_;refine XI [0,1,6,7,8] (fun g:GrG=>[(0,v),(1, .int .i64 i),(6, .int .i64 g.d),(7, .bool g.p),(8, .int .i64 g.k)]) (fun g:GrG=>g.H) (fun g:GrG=>i<=g.k/\g.k<=l.length/\ -1<=g.d+g.k/\g.d<=g.k/\Sub h g.H/\R=qaK l i (l.length+1-g.k) g.k g.d g.p) (fun g:GrG=>l.length-g.k) ⟨i,0,false,_⟩ (by rfl) (Vg _) ⟨KL _,by simp only;omega,by simp only;omega,by simp only;omega,zqB,hR⟩ ?_;rintro⟨k,d,p,H⟩ ⟨g1,g2,g3,g4,hs_H,g5⟩;simp only at g1 g2 g3 g4 hs_H g5|-
  refine Qp ?_;refine awp_rseq [0,1,6,7,8,18] (by rfl) fun K hK=>?_;simp+decide only[qh,qi,qj,qo,ev,qZ,qY,putD,Vz,VA,VB,Ka,VC,VD,Kb,and_true,↓qW,qU,↓XG,Xh,QE Tryd.underlying31,QT Tryd.underlying31,↓Qj,Qa,Qz,cond_false,Qh,Zo,qM,ne_eq,not_false_eq_true,qN,qJ,VE,setAt,VF,Kj,qC,VG,Kn,Jp,Nat.reduceAdd,qF,qG,qI,qf,qK,qa,qz,qd,qE,qc,qA,qg,qH,qy,allLive,J4,tokV,hlv,nv];repeat (with_reducible refine And.intro ?_ ?_;· first|trivial|omega|(intro hg;simp only[Ky,JH,Jh,VH,VI,VJ,decide_eq_true_eq,decide_eq_false_iff_not,qR]at hg;omega))
  apply hK;clear hK K;refine Qw (b:=_) rfl (fun hb2=>?_) (fun hb2=>?_)
  ·try simp only[decide_eq_true_eq,decide_eq_false_iff_not,Jh,VJ,Ky,VH,JH,VI,VV,VW,reduceCtorEq]at hb2
   have hk:k<l.length:=by omega
   have hst:=qkw (i:=i) (d:=d) (p:=p) hk rfl;rw[<-g5]at hst;refine QJ ?_;change Awp _ _ _ _ _ _ _;refine Qp ?_;refine QL ?_;refine Qp ?_;refine QL ?_;refine awp_rseq [0,1,6,7,8,21] (by rfl) fun K hK=>?_;simp+decide only[qh,qi,qj,qo,ev,qZ,qY,putD,Vz,VA,VB,Ka,VC,VD,Kb,and_true,↓qW,qU,qM,ne_eq,not_false_eq_true,qN,qJ,VE,setAt,VF,Kj,qC,VG,Kn,Jp,Nat.reduceAdd,qF,qG,qI,qf,qK,qa,qz,qd,qE,qc,qA,qg,qH,qy,allLive,J4,tokV,hlv,nv];repeat (with_reducible refine And.intro ?_ ?_;· first|trivial|omega|(intro hg;simp only[Ky,JH,Jh,VH,VI,VJ,decide_eq_true_eq,decide_eq_false_iff_not,qR]at hg;omega))
   refine QS (cs:=[.str [40]]) (by kernel_rfl) fun k7q2 hk7q2=>?_;have hn_7q2:H k7q2=none:=by first|assumption|(simp only[V7]at hk7q2;simp only[hk7q2])
   have hf_7q2:h k7q2=none:=Bh hs_H hn_7q2;refine XD (V:= .bool (isK l k 5 [[40]])) (by rfl) (by rfl) (qmd w0 _ v _ l [[40]] k 5 (hv.mono zqB) hl (qhE zqA) (by decide)) ?_;simp+decide only[qh,qi,qj,qo,ev,qZ,qY,putD,Vz,VA,VB,Ka,VC,VD,Kb,and_true,↓qV,qP,qM,ne_eq,not_false_eq_true,qN,qJ,VE,setAt,VF,Kj,qC,VG,Kn,Jp,Nat.reduceAdd,qF,qG,qI,qf,qK,qa,qz,qd,qE,qc,qA,qg,qH,qy,allLive,J4,tokV,hlv,nv];repeat (with_reducible refine And.intro ?_ ?_;· first|trivial|omega|(intro hg;simp only[Ky,JH,Jh,VH,VI,VJ,decide_eq_true_eq,decide_eq_false_iff_not,qR]at hg;omega))
   apply hK;clear hK K;refine Qw (b:=_) rfl (fun hb3=>?_) (fun hb3=>?_)
   ·try simp only[decide_eq_true_eq,decide_eq_false_iff_not,Jh,VJ,Ky,VH,JH,VI,VV,VW,reduceCtorEq]at hb3
    simp only[if_pos hb3]at hst;have hwd:IntKind.i64.wrap (d+1)=d+1:=wrap_i64 (by omega) (by omega);refine XZ [0,1,6,7,8] (by rfl) ?_;simp+decide only[qh,qi,qj,qo,ev,qZ,qY,putD,Vz,VA,VB,Ka,VC,VD,Kb,and_true,↓qW,qU,↓Qj,Qa,Qm,cond_false,Qh,XM,↓qV,qP,qM,ne_eq,not_false_eq_true,qN,qJ,VE,setAt,VF,Kj,qC,VG,Kn,Jp,Nat.reduceAdd,qF,qG,qI,qf,qK,qa,qz,qd,qE,qc,qA,qg,qH,qy,allLive,J4,tokV,hlv,nv,hwd];try simp(disch:=omega)only[wrap_i64,wrap_u8]
    repeat (with_reducible refine And.intro ?_ ?_;· first|trivial|omega|(intro hg;simp only[Ky,JH,Jh,VH,VI,VJ,decide_eq_true_eq,decide_eq_false_iff_not,qR]at hg;omega))
    change Awp _ _ _ _ _ _ _;refine awp_rseq [0,1,6,7,8,45] (by rfl) fun K hK=>?_;simp+decide only[qh,qi,qj,qo,ev,qZ,qY,putD,Vz,VA,VB,Ka,VC,VD,Kb,and_true,↓qW,qU,↓Qj,Qa,Qm,cond_false,Qh,ZE,qM,ne_eq,not_false_eq_true,qN,qJ,VE,setAt,VF,Kj,qC,VG,Kn,Jp,Nat.reduceAdd,qF,qG,qI,qf,qK,qa,qz,qd,qE,qc,qA,qg,qH,qy,allLive,J4,tokV,hlv,nv];repeat (with_reducible refine And.intro ?_ ?_;· first|trivial|omega|(intro hg;simp only[Ky,JH,Jh,VH,VI,VJ,decide_eq_true_eq,decide_eq_false_iff_not,qR]at hg;omega))
    apply hK;clear hK K;refine Qw (b:=_) rfl (fun hb4=>?_) (fun hb4=>?_)
    ·try simp only[decide_eq_true_eq,decide_eq_false_iff_not,Jh,VJ,Ky,VH,JH,VI,VV,VW,reduceCtorEq]at hb4
     rw[if_pos hb4]at hst;have hw1:IntKind.i64.wrap ((k:Int)+1)=(k:Int)+1:=wrap_i64 (by omega) (by omega);have hw2:((k+1-i:Nat):Int)=(k:Int)+1-i:=by omega
     refine awp_rseq [4,5] (by rfl) fun K hK=>?_;simp+decide only[qh,qi,qj,qo,ev,qZ,qY,putD,Vz,VA,VB,Ka,VC,VD,Kb,and_true,↓qW,qU,↓Qj,Qa,Qm,cond_false,Qh,XM,Qz,qbB,↓qV,qP,qM,ne_eq,not_false_eq_true,qN,qJ,VE,setAt,VF,Kj,qC,VG,Kn,Jp,Nat.reduceAdd,qF,qG,qI,qf,qK,qa,qz,qd,qE,qc,qA,qg,qH,qy,allLive,J4,tokV,hlv,nv];try simp(disch:=omega)only[wrap_i64,wrap_u8]
     repeat (with_reducible refine And.intro ?_ ?_;· first|trivial|omega|(intro hg;simp only[Ky,JH,Jh,VH,VI,VJ,decide_eq_true_eq,decide_eq_false_iff_not,qR]at hg;omega))
     apply hK;clear hK K;refine Xd ?_;try simp only[QF,Qn]
     refine Xu (Qr (Qr (Qv))) ?_;simp+decide only[qh,qi,qj,qo,ev,qZ,qY,putD,Vz,VA,VB,Ka,VC,VD,Kb,and_true,Yi,qM,ne_eq,not_false_eq_true,qN,qJ,VE,setAt,VF,Kj,qC,VG,Kn,Jp,Nat.reduceAdd,qF,qG,qI,qf,qK,qa,qz,qd,qE,qc,qA,qg,qH,qy,allLive,J4,tokV,hlv,nv];rw[hst];exact⟨_,Vg _,by rw[hw2],zqB⟩
    ·try simp only[decide_eq_true_eq,decide_eq_false_iff_not,Jh,VJ,Ky,VH,JH,VI,VV,VW,reduceCtorEq]at hb4
     rw[if_neg hb4]at hst;have hw1:IntKind.i64.wrap ((k:Int)+1)=((k+1:Nat):Int):=by rw[wrap_i64 (by omega) (by omega)];omega
     refine QJ ?_;change Awp _ _ _ _ _ _ _;refine XZ [0,1,6,7,8] (by rfl) ?_;simp+decide only[qh,qi,qj,qo,ev,qZ,qY,putD,Vz,VA,VB,Ka,VC,VD,Kb,and_true,↓qW,qU,↓Qj,Qa,Qm,cond_false,Qh,XM,↓qV,qP,qM,ne_eq,not_false_eq_true,qN,qJ,VE,setAt,VF,Kj,qC,VG,Kn,Jp,Nat.reduceAdd,qF,qG,qI,qf,qK,qa,qz,qd,qE,qc,qA,qg,qH,qy,allLive,J4,tokV,hlv,nv];try simp(disch:=omega)only[wrap_i64,wrap_u8]
     repeat (with_reducible refine And.intro ?_ ?_;· first|trivial|omega|(intro hg;simp only[Ky,JH,Jh,VH,VI,VJ,decide_eq_true_eq,decide_eq_false_iff_not,qR]at hg;omega))
     try simp only[QK,Qt]
     all_goals first
     |exact⟨⟨k+1,d+1,p,_⟩,rfl,Vg _,⟨by simp only;omega,by simp only;omega,by simp only;omega,by simp only;omega,zqB,hst⟩,by simp only;omega⟩
     |exact⟨⟨k+1,d-1,p,_⟩,rfl,Vg _,⟨by simp only;omega,by simp only;omega,by simp only;omega,by simp only;omega,zqB,hst⟩,by simp only;omega⟩
     |exact⟨⟨k+1,d,true,_⟩,rfl,Vg _,⟨by simp only;omega,by simp only;omega,by simp only;omega,by simp only;omega,zqB,hst⟩,by simp only;omega⟩
     |exact⟨⟨k+1,d,p,_⟩,rfl,Vg _,⟨by simp only;omega,by simp only;omega,by simp only;omega,by simp only;omega,zqB,hst⟩,by simp only;omega⟩
     |(trace_state;fail)
   ·try simp only[decide_eq_true_eq,decide_eq_false_iff_not,Jh,VJ,Ky,VH,JH,VI,VV,VW,reduceCtorEq]at hb3
    simp only[if_neg (show ¬isK l k 5 [[40]]=true by rw[hb3];decide)]at hst;refine awp_rseq [0,1,6,7,8,28] (by rfl) fun K hK=>?_;simp+decide only[qh,qi,qj,qo,ev,qZ,qY,putD,Vz,VA,VB,Ka,VC,VD,Kb,and_true,↓qW,qU,qM,ne_eq,not_false_eq_true,qN,qJ,VE,setAt,VF,Kj,qC,VG,Kn,Jp,Nat.reduceAdd,qF,qG,qI,qf,qK,qa,qz,qd,qE,qc,qA,qg,qH,qy,allLive,J4,tokV,hlv,nv];repeat (with_reducible refine And.intro ?_ ?_;· first|trivial|omega|(intro hg;simp only[Ky,JH,Jh,VH,VI,VJ,decide_eq_true_eq,decide_eq_false_iff_not,qR]at hg;omega))
    refine QS (cs:=[.str [41]]) (by kernel_rfl) fun k9q2 hk9q2=>?_;have ne_9q2_7q2:k9q2≠k7q2:=by simp only[V7]at hk9q2;simp only[hk9q2,ne_eq,not_false_eq_true]
    have hn_9q2:H k9q2=none:=by first|assumption|(simp only[V7]at hk9q2;simp only[hk9q2])
    have hf_9q2:h k9q2=none:=Bh hs_H hn_9q2;refine XD (V:= .bool (isK l k 5 [[41]])) (by rfl) (by rfl) (qmd w0 _ v _ l [[41]] k 5 (hv.mono zqB) hl (qhE zqA) (by decide)) ?_;simp+decide only[qh,qi,qj,qo,ev,qZ,qY,putD,Vz,VA,VB,Ka,VC,VD,Kb,and_true,↓qV,qP,qM,ne_eq,not_false_eq_true,ne_9q2_7q2,ne_9q2_7q2.symm,qN,qJ,VE,setAt,VF,Kj,qC,VG,Kn,Jp,Nat.reduceAdd,qF,qG,qI,qf,qK,qa,qz,qd,qE,qc,qA,qg,qH,qy,allLive,J4,tokV,hlv,nv];repeat (with_reducible refine And.intro ?_ ?_;· first|trivial|omega|(intro hg;simp only[Ky,JH,Jh,VH,VI,VJ,decide_eq_true_eq,decide_eq_false_iff_not,qR]at hg;omega))
    apply hK;clear hK K;refine Qw (b:=_) rfl (fun hb5=>?_) (fun hb5=>?_)
    ·try simp only[decide_eq_true_eq,decide_eq_false_iff_not,Jh,VJ,Ky,VH,JH,VI,VV,VW,reduceCtorEq]at hb5
     simp only[if_pos hb5]at hst;have hwd:IntKind.i64.wrap (d-1)=d-1:=wrap_i64 (by omega) (by omega);refine XZ [0,1,6,7,8] (by rfl) ?_;simp+decide only[qh,qi,qj,qo,ev,qZ,qY,putD,Vz,VA,VB,Ka,VC,VD,Kb,and_true,↓qW,qU,↓Qj,Qa,Qm,cond_false,Qh,qbB,↓qV,qP,qM,ne_eq,not_false_eq_true,ne_9q2_7q2,ne_9q2_7q2.symm,qN,qJ,VE,setAt,VF,Kj,qC,VG,Kn,Jp,Nat.reduceAdd,qF,qG,qI,qf,qK,qa,qz,qd,qE,qc,qA,qg,qH,qy,allLive,J4,tokV,hlv,nv,hwd];try simp(disch:=omega)only[wrap_i64,wrap_u8]
     repeat (with_reducible refine And.intro ?_ ?_;· first|trivial|omega|(intro hg;simp only[Ky,JH,Jh,VH,VI,VJ,decide_eq_true_eq,decide_eq_false_iff_not,qR]at hg;omega))
     change Awp _ _ _ _ _ _ _;refine awp_rseq [0,1,6,7,8,45] (by rfl) fun K hK=>?_;simp+decide only[qh,qi,qj,qo,ev,qZ,qY,putD,Vz,VA,VB,Ka,VC,VD,Kb,and_true,↓qW,qU,↓Qj,Qa,Qm,cond_false,Qh,ZE,qM,ne_eq,not_false_eq_true,ne_9q2_7q2,ne_9q2_7q2.symm,qN,qJ,VE,setAt,VF,Kj,qC,VG,Kn,Jp,Nat.reduceAdd,qF,qG,qI,qf,qK,qa,qz,qd,qE,qc,qA,qg,qH,qy,allLive,J4,tokV,hlv,nv];repeat (with_reducible refine And.intro ?_ ?_;· first|trivial|omega|(intro hg;simp only[Ky,JH,Jh,VH,VI,VJ,decide_eq_true_eq,decide_eq_false_iff_not,qR]at hg;omega))
     apply hK;clear hK K;refine Qw (b:=_) rfl (fun hb6=>?_) (fun hb6=>?_)
     ·try simp only[decide_eq_true_eq,decide_eq_false_iff_not,Jh,VJ,Ky,VH,JH,VI,VV,VW,reduceCtorEq]at hb6
      rw[if_pos hb6]at hst;have hw1:IntKind.i64.wrap ((k:Int)+1)=(k:Int)+1:=wrap_i64 (by omega) (by omega);have hw2:((k+1-i:Nat):Int)=(k:Int)+1-i:=by omega
      refine awp_rseq [4,5] (by rfl) fun K hK=>?_;simp+decide only[qh,qi,qj,qo,ev,qZ,qY,putD,Vz,VA,VB,Ka,VC,VD,Kb,and_true,↓qW,qU,↓Qj,Qa,Qm,cond_false,Qh,XM,Qz,qbB,↓qV,qP,qM,ne_eq,not_false_eq_true,ne_9q2_7q2,ne_9q2_7q2.symm,qN,qJ,VE,setAt,VF,Kj,qC,VG,Kn,Jp,Nat.reduceAdd,qF,qG,qI,qf,qK,qa,qz,qd,qE,qc,qA,qg,qH,qy,allLive,J4,tokV,hlv,nv];try simp(disch:=omega)only[wrap_i64,wrap_u8]
      repeat (with_reducible refine And.intro ?_ ?_;· first|trivial|omega|(intro hg;simp only[Ky,JH,Jh,VH,VI,VJ,decide_eq_true_eq,decide_eq_false_iff_not,qR]at hg;omega))
      apply hK;clear hK K;refine Xd ?_;try simp only[QF,Qn]
      refine Xu (Qr (Qr (Qv))) ?_;simp+decide only[qh,qi,qj,qo,ev,qZ,qY,putD,Vz,VA,VB,Ka,VC,VD,Kb,and_true,Yi,qM,ne_eq,not_false_eq_true,ne_9q2_7q2,ne_9q2_7q2.symm,qN,qJ,VE,setAt,VF,Kj,qC,VG,Kn,Jp,Nat.reduceAdd,qF,qG,qI,qf,qK,qa,qz,qd,qE,qc,qA,qg,qH,qy,allLive,J4,tokV,hlv,nv];rw[hst];exact⟨_,Vg _,by rw[hw2],zqB⟩
     ·try simp only[decide_eq_true_eq,decide_eq_false_iff_not,Jh,VJ,Ky,VH,JH,VI,VV,VW,reduceCtorEq]at hb6
      rw[if_neg hb6]at hst;have hw1:IntKind.i64.wrap ((k:Int)+1)=((k+1:Nat):Int):=by rw[wrap_i64 (by omega) (by omega)];omega
      refine QJ ?_;change Awp _ _ _ _ _ _ _;refine XZ [0,1,6,7,8] (by rfl) ?_;simp+decide only[qh,qi,qj,qo,ev,qZ,qY,putD,Vz,VA,VB,Ka,VC,VD,Kb,and_true,↓qW,qU,↓Qj,Qa,Qm,cond_false,Qh,XM,↓qV,qP,qM,ne_eq,not_false_eq_true,ne_9q2_7q2,ne_9q2_7q2.symm,qN,qJ,VE,setAt,VF,Kj,qC,VG,Kn,Jp,Nat.reduceAdd,qF,qG,qI,qf,qK,qa,qz,qd,qE,qc,qA,qg,qH,qy,allLive,J4,tokV,hlv,nv];try simp(disch:=omega)only[wrap_i64,wrap_u8]
      repeat (with_reducible refine And.intro ?_ ?_;· first|trivial|omega|(intro hg;simp only[Ky,JH,Jh,VH,VI,VJ,decide_eq_true_eq,decide_eq_false_iff_not,qR]at hg;omega))
      try simp only[QK,Qt]
      all_goals first
      |exact⟨⟨k+1,d+1,p,_⟩,rfl,Vg _,⟨by simp only;omega,by simp only;omega,by simp only;omega,by simp only;omega,zqB,hst⟩,by simp only;omega⟩
      |exact⟨⟨k+1,d-1,p,_⟩,rfl,Vg _,⟨by simp only;omega,by simp only;omega,by simp only;omega,by simp only;omega,zqB,hst⟩,by simp only;omega⟩
      |exact⟨⟨k+1,d,true,_⟩,rfl,Vg _,⟨by simp only;omega,by simp only;omega,by simp only;omega,by simp only;omega,zqB,hst⟩,by simp only;omega⟩
      |exact⟨⟨k+1,d,p,_⟩,rfl,Vg _,⟨by simp only;omega,by simp only;omega,by simp only;omega,by simp only;omega,zqB,hst⟩,by simp only;omega⟩
      |(trace_state;fail)
    ·try simp only[decide_eq_true_eq,decide_eq_false_iff_not,Jh,VJ,Ky,VH,JH,VI,VV,VW,reduceCtorEq]at hb5
     simp only[if_neg (show ¬isK l k 5 [[41]]=true by rw[hb5];decide)]at hst;refine awp_rseq [0,1,6,7,8,35] (by rfl) fun K hK=>?_;simp+decide only[qh,qi,qj,qo,ev,qZ,qY,putD,Vz,VA,VB,Ka,VC,VD,Kb,and_true,↓qW,qU,qM,ne_eq,not_false_eq_true,ne_9q2_7q2,ne_9q2_7q2.symm,qN,qJ,VE,setAt,VF,Kj,qC,VG,Kn,Jp,Nat.reduceAdd,qF,qG,qI,qf,qK,qa,qz,qd,qE,qc,qA,qg,qH,qy,allLive,J4,tokV,hlv,nv];repeat (with_reducible refine And.intro ?_ ?_;· first|trivial|omega|(intro hg;simp only[Ky,JH,Jh,VH,VI,VJ,decide_eq_true_eq,decide_eq_false_iff_not,qR]at hg;omega))
     refine QS (cs:=[.str [58]]) (by kernel_rfl) fun k11q2 hk11q2=>?_;have ne_11q2_7q2:k11q2≠k7q2:=by simp only[V7]at hk11q2;simp only[hk11q2,ne_eq,not_false_eq_true]
     have ne_11q2_9q2:k11q2≠k9q2:=by simp only[V7]at hk11q2;simp only[hk11q2,ne_eq,not_false_eq_true]
     have hn_11q2:H k11q2=none:=by first|assumption|(simp only[V7]at hk11q2;simp only[hk11q2])
     have hf_11q2:h k11q2=none:=Bh hs_H hn_11q2;refine XD (V:= .bool (isK l k 5 [[58]])) (by rfl) (by rfl) (qmd w0 _ v _ l [[58]] k 5 (hv.mono zqB) hl (qhE zqA) (by decide)) ?_;simp+decide only[qh,qi,qj,qo,ev,qZ,qY,putD,Vz,VA,VB,Ka,VC,VD,Kb,and_true,↓qW,qU,↓Zj,agP,Xw,gv,QB,QD,QC,Qs,Qg,Qe,Zk,implies_true,VK,decide_true,decide_false,VL,VM,Qc,Qb,forall_const,false_implies,Qk,Qf,J4,VN,VO,VP,VQ,VS,VT,VU,Xb,Xc,Xa,↓XT,Qa,Qm,cond_false,Zb,Za,Zd,Zc,Qh,ZE,↓XH,Xj,QO,QH,QG,QA,Xo,Xn,Xm,Xl,QZ,Xk,↓qV,qP,qM,ne_eq,not_false_eq_true,ne_9q2_7q2,ne_9q2_7q2.symm,ne_11q2_7q2,ne_11q2_7q2.symm,ne_11q2_9q2,ne_11q2_9q2.symm,qN,qJ,VE,setAt,VF,Kj,qC,VG,Kn,Jp,Nat.reduceAdd,qF,qG,qI,qf,qK,qa,qz,qd,qE,qc,qA,qg,qH,qy,allLive,J4,tokV,hlv,nv];repeat (with_reducible refine And.intro ?_ ?_;· first|trivial|omega|(intro hg;simp only[Ky,JH,Jh,VH,VI,VJ,decide_eq_true_eq,decide_eq_false_iff_not,qR]at hg;omega))
     apply hK;clear hK K;refine Qw (b:=_) rfl (fun hb7=>?_) (fun hb7=>?_)
     ·try simp only[decide_eq_true_eq,decide_eq_false_iff_not,Jh,VJ,Ky,VH,JH,VI,VV,VW,reduceCtorEq]at hb7
      simp only[if_pos hb7]at hst;refine XZ [0,1,6,7,8] (by rfl) ?_;simp+decide only[qh,qi,qj,qo,ev,qZ,qY,putD,Vz,VA,VB,Ka,VC,VD,Kb,and_true,↓qV,qP,qM,ne_eq,not_false_eq_true,ne_9q2_7q2,ne_9q2_7q2.symm,ne_11q2_7q2,ne_11q2_7q2.symm,ne_11q2_9q2,ne_11q2_9q2.symm,qN,qJ,VE,setAt,VF,Kj,qC,VG,Kn,Jp,Nat.reduceAdd,qF,qG,qI,qf,qK,qa,qz,qd,qE,qc,qA,qg,qH,qy,allLive,J4,tokV,hlv,nv];repeat (with_reducible refine And.intro ?_ ?_;· first|trivial|omega|(intro hg;simp only[Ky,JH,Jh,VH,VI,VJ,decide_eq_true_eq,decide_eq_false_iff_not,qR]at hg;omega))
      change Awp _ _ _ _ _ _ _;refine awp_rseq [0,1,6,7,8,45] (by rfl) fun K hK=>?_;simp+decide only[qh,qi,qj,qo,ev,qZ,qY,putD,Vz,VA,VB,Ka,VC,VD,Kb,and_true,↓qW,qU,↓Qj,Qa,Qm,cond_false,Qh,ZE,qM,ne_eq,not_false_eq_true,ne_9q2_7q2,ne_9q2_7q2.symm,ne_11q2_7q2,ne_11q2_7q2.symm,ne_11q2_9q2,ne_11q2_9q2.symm,qN,qJ,VE,setAt,VF,Kj,qC,VG,Kn,Jp,Nat.reduceAdd,qF,qG,qI,qf,qK,qa,qz,qd,qE,qc,qA,qg,qH,qy,allLive,J4,tokV,hlv,nv];repeat (with_reducible refine And.intro ?_ ?_;· first|trivial|omega|(intro hg;simp only[Ky,JH,Jh,VH,VI,VJ,decide_eq_true_eq,decide_eq_false_iff_not,qR]at hg;omega))
      apply hK;clear hK K;refine Qw (b:=_) rfl (fun hb8=>?_) (fun hb8=>?_)
      ·try simp only[decide_eq_true_eq,decide_eq_false_iff_not,Jh,VJ,Ky,VH,JH,VI,VV,VW,reduceCtorEq]at hb8
       rw[if_pos hb8]at hst;have hw1:IntKind.i64.wrap ((k:Int)+1)=(k:Int)+1:=wrap_i64 (by omega) (by omega);have hw2:((k+1-i:Nat):Int)=(k:Int)+1-i:=by omega
       refine awp_rseq [4,5] (by rfl) fun K hK=>?_;simp+decide only[qh,qi,qj,qo,ev,qZ,qY,putD,Vz,VA,VB,Ka,VC,VD,Kb,and_true,↓qW,qU,↓Qj,Qa,Qm,cond_false,Qh,XM,Qz,qbB,↓qV,qP,qM,ne_eq,not_false_eq_true,ne_9q2_7q2,ne_9q2_7q2.symm,ne_11q2_7q2,ne_11q2_7q2.symm,ne_11q2_9q2,ne_11q2_9q2.symm,qN,qJ,VE,setAt,VF,Kj,qC,VG,Kn,Jp,Nat.reduceAdd,qF,qG,qI,qf,qK,qa,qz,qd,qE,qc,qA,qg,qH,qy,allLive,J4,tokV,hlv,nv];try simp(disch:=omega)only[wrap_i64,wrap_u8]
       repeat (with_reducible refine And.intro ?_ ?_;· first|trivial|omega|(intro hg;simp only[Ky,JH,Jh,VH,VI,VJ,decide_eq_true_eq,decide_eq_false_iff_not,qR]at hg;omega))
       apply hK;clear hK K;refine Xd ?_;try simp only[QF,Qn]
       refine Xu (Qr (Qr (Qv))) ?_;simp+decide only[qh,qi,qj,qo,ev,qZ,qY,putD,Vz,VA,VB,Ka,VC,VD,Kb,and_true,Yi,qM,ne_eq,not_false_eq_true,ne_9q2_7q2,ne_9q2_7q2.symm,ne_11q2_7q2,ne_11q2_7q2.symm,ne_11q2_9q2,ne_11q2_9q2.symm,qN,qJ,VE,setAt,VF,Kj,qC,VG,Kn,Jp,Nat.reduceAdd,qF,qG,qI,qf,qK,qa,qz,qd,qE,qc,qA,qg,qH,qy,allLive,J4,tokV,hlv,nv];rw[hst];exact⟨_,Vg _,by rw[hw2],zqB⟩
      ·try simp only[decide_eq_true_eq,decide_eq_false_iff_not,Jh,VJ,Ky,VH,JH,VI,VV,VW,reduceCtorEq]at hb8
       rw[if_neg hb8]at hst;have hw1:IntKind.i64.wrap ((k:Int)+1)=((k+1:Nat):Int):=by rw[wrap_i64 (by omega) (by omega)];omega
       refine QJ ?_;change Awp _ _ _ _ _ _ _;refine XZ [0,1,6,7,8] (by rfl) ?_;simp+decide only[qh,qi,qj,qo,ev,qZ,qY,putD,Vz,VA,VB,Ka,VC,VD,Kb,and_true,↓qW,qU,↓Qj,Qa,Qm,cond_false,Qh,XM,↓qV,qP,qM,ne_eq,not_false_eq_true,ne_9q2_7q2,ne_9q2_7q2.symm,ne_11q2_7q2,ne_11q2_7q2.symm,ne_11q2_9q2,ne_11q2_9q2.symm,qN,qJ,VE,setAt,VF,Kj,qC,VG,Kn,Jp,Nat.reduceAdd,qF,qG,qI,qf,qK,qa,qz,qd,qE,qc,qA,qg,qH,qy,allLive,J4,tokV,hlv,nv];try simp(disch:=omega)only[wrap_i64,wrap_u8]
       repeat (with_reducible refine And.intro ?_ ?_;· first|trivial|omega|(intro hg;simp only[Ky,JH,Jh,VH,VI,VJ,decide_eq_true_eq,decide_eq_false_iff_not,qR]at hg;omega))
       try simp only[QK,Qt]
       all_goals first
       |exact⟨⟨k+1,d+1,p,_⟩,rfl,Vg _,⟨by simp only;omega,by simp only;omega,by simp only;omega,by simp only;omega,zqB,hst⟩,by simp only;omega⟩
       |exact⟨⟨k+1,d-1,p,_⟩,rfl,Vg _,⟨by simp only;omega,by simp only;omega,by simp only;omega,by simp only;omega,zqB,hst⟩,by simp only;omega⟩
       |exact⟨⟨k+1,d,true,_⟩,rfl,Vg _,⟨by simp only;omega,by simp only;omega,by simp only;omega,by simp only;omega,zqB,hst⟩,by simp only;omega⟩
       |exact⟨⟨k+1,d,p,_⟩,rfl,Vg _,⟨by simp only;omega,by simp only;omega,by simp only;omega,by simp only;omega,zqB,hst⟩,by simp only;omega⟩
       |(trace_state;fail)
     ·try simp only[decide_eq_true_eq,decide_eq_false_iff_not,Jh,VJ,Ky,VH,JH,VI,VV,VW,reduceCtorEq]at hb7
      simp only[if_neg (show ¬(isK l k 5 [[58]]=true/\d=1)from fun q=>by rcases hb7 with z|z;(· rw[q.1]at z;cases z);exact z q.2)]at hst;refine QJ ?_;change Awp _ _ _ _ _ _ _;refine awp_rseq [0,1,6,7,8,45] (by rfl) fun K hK=>?_;simp+decide only[qh,qi,qj,qo,ev,qZ,qY,putD,Vz,VA,VB,Ka,VC,VD,Kb,and_true,↓qW,qU,↓Qj,Qa,Qm,cond_false,Qh,ZE,qM,ne_eq,not_false_eq_true,ne_9q2_7q2,ne_9q2_7q2.symm,ne_11q2_7q2,ne_11q2_7q2.symm,ne_11q2_9q2,ne_11q2_9q2.symm,qN,qJ,VE,setAt,VF,Kj,qC,VG,Kn,Jp,Nat.reduceAdd,qF,qG,qI,qf,qK,qa,qz,qd,qE,qc,qA,qg,qH,qy,allLive,J4,tokV,hlv,nv];repeat (with_reducible refine And.intro ?_ ?_;· first|trivial|omega|(intro hg;simp only[Ky,JH,Jh,VH,VI,VJ,decide_eq_true_eq,decide_eq_false_iff_not,qR]at hg;omega))
      apply hK;clear hK K;refine Qw (b:=_) rfl (fun hb9=>?_) (fun hb9=>?_)
      ·try simp only[decide_eq_true_eq,decide_eq_false_iff_not,Jh,VJ,Ky,VH,JH,VI,VV,VW,reduceCtorEq]at hb9
       rw[if_pos hb9]at hst;have hw1:IntKind.i64.wrap ((k:Int)+1)=(k:Int)+1:=wrap_i64 (by omega) (by omega);have hw2:((k+1-i:Nat):Int)=(k:Int)+1-i:=by omega
       refine awp_rseq [4,5] (by rfl) fun K hK=>?_;simp+decide only[qh,qi,qj,qo,ev,qZ,qY,putD,Vz,VA,VB,Ka,VC,VD,Kb,and_true,↓qW,qU,↓Qj,Qa,Qm,cond_false,Qh,XM,Qz,qbB,↓qV,qP,qM,ne_eq,not_false_eq_true,ne_9q2_7q2,ne_9q2_7q2.symm,ne_11q2_7q2,ne_11q2_7q2.symm,ne_11q2_9q2,ne_11q2_9q2.symm,qN,qJ,VE,setAt,VF,Kj,qC,VG,Kn,Jp,Nat.reduceAdd,qF,qG,qI,qf,qK,qa,qz,qd,qE,qc,qA,qg,qH,qy,allLive,J4,tokV,hlv,nv];try simp(disch:=omega)only[wrap_i64,wrap_u8]
       repeat (with_reducible refine And.intro ?_ ?_;· first|trivial|omega|(intro hg;simp only[Ky,JH,Jh,VH,VI,VJ,decide_eq_true_eq,decide_eq_false_iff_not,qR]at hg;omega))
       apply hK;clear hK K;refine Xd ?_;try simp only[QF,Qn]
       refine Xu (Qr (Qr (Qv))) ?_;simp+decide only[qh,qi,qj,qo,ev,qZ,qY,putD,Vz,VA,VB,Ka,VC,VD,Kb,and_true,Yi,qM,ne_eq,not_false_eq_true,ne_9q2_7q2,ne_9q2_7q2.symm,ne_11q2_7q2,ne_11q2_7q2.symm,ne_11q2_9q2,ne_11q2_9q2.symm,qN,qJ,VE,setAt,VF,Kj,qC,VG,Kn,Jp,Nat.reduceAdd,qF,qG,qI,qf,qK,qa,qz,qd,qE,qc,qA,qg,qH,qy,allLive,J4,tokV,hlv,nv];rw[hst];exact⟨_,Vg _,by rw[hw2],zqB⟩
      ·try simp only[decide_eq_true_eq,decide_eq_false_iff_not,Jh,VJ,Ky,VH,JH,VI,VV,VW,reduceCtorEq]at hb9
       rw[if_neg hb9]at hst;have hw1:IntKind.i64.wrap ((k:Int)+1)=((k+1:Nat):Int):=by rw[wrap_i64 (by omega) (by omega)];omega
       refine QJ ?_;change Awp _ _ _ _ _ _ _;refine XZ [0,1,6,7,8] (by rfl) ?_;simp+decide only[qh,qi,qj,qo,ev,qZ,qY,putD,Vz,VA,VB,Ka,VC,VD,Kb,and_true,↓qW,qU,↓Qj,Qa,Qm,cond_false,Qh,XM,↓qV,qP,qM,ne_eq,not_false_eq_true,ne_9q2_7q2,ne_9q2_7q2.symm,ne_11q2_7q2,ne_11q2_7q2.symm,ne_11q2_9q2,ne_11q2_9q2.symm,qN,qJ,VE,setAt,VF,Kj,qC,VG,Kn,Jp,Nat.reduceAdd,qF,qG,qI,qf,qK,qa,qz,qd,qE,qc,qA,qg,qH,qy,allLive,J4,tokV,hlv,nv];try simp(disch:=omega)only[wrap_i64,wrap_u8]
       repeat (with_reducible refine And.intro ?_ ?_;· first|trivial|omega|(intro hg;simp only[Ky,JH,Jh,VH,VI,VJ,decide_eq_true_eq,decide_eq_false_iff_not,qR]at hg;omega))
       try simp only[QK,Qt]
       all_goals first
       |exact⟨⟨k+1,d+1,p,_⟩,rfl,Vg _,⟨by simp only;omega,by simp only;omega,by simp only;omega,by simp only;omega,zqB,hst⟩,by simp only;omega⟩
       |exact⟨⟨k+1,d-1,p,_⟩,rfl,Vg _,⟨by simp only;omega,by simp only;omega,by simp only;omega,by simp only;omega,zqB,hst⟩,by simp only;omega⟩
       |exact⟨⟨k+1,d,true,_⟩,rfl,Vg _,⟨by simp only;omega,by simp only;omega,by simp only;omega,by simp only;omega,zqB,hst⟩,by simp only;omega⟩
       |exact⟨⟨k+1,d,p,_⟩,rfl,Vg _,⟨by simp only;omega,by simp only;omega,by simp only;omega,by simp only;omega,zqB,hst⟩,by simp only;omega⟩
       |(trace_state;fail)
  ·try simp only[decide_eq_true_eq,decide_eq_false_iff_not,Jh,VJ,Ky,VH,JH,VI,VV,VW,reduceCtorEq]at hb2
   have hk:k=l.length:=by omega
   have hst:R=(0,false):=by
    rw[g5,hk,show l.length+1-l.length=0+1 by omega,qaK,if_neg (Nat.lt_irrefl _)]
   refine XJ ?_;change Awp _ _ _ _ _ _ _;refine awp_rseq [4,5] (by rfl) fun K hK=>?_;simp+decide only[qh,qi,qj,qo,ev,qZ,qY,putD,Vz,VA,VB,Ka,VC,VD,Kb,and_true,↓qV,qP,qM,ne_eq,not_false_eq_true,qN,qJ,VE,setAt,VF,Kj,qC,VG,Kn,Jp,Nat.reduceAdd,qF,qG,qI,qf,qK,qa,qz,qd,qE,qc,qA,qg,qH,qy,allLive,J4,tokV,hlv,nv];repeat (with_reducible refine And.intro ?_ ?_;· first|trivial|omega|(intro hg;simp only[Ky,JH,Jh,VH,VI,VJ,decide_eq_true_eq,decide_eq_false_iff_not,qR]at hg;omega))
   apply hK;clear hK K;refine Xd ?_;try simp only[QF,Qn]
   refine Xu (Qr (Qr (Qv))) ?_;simp+decide only[qh,qi,qj,qo,ev,qZ,qY,putD,Vz,VA,VB,Ka,VC,VD,Kb,and_true,Yi,qM,ne_eq,not_false_eq_true,qN,qJ,VE,setAt,VF,Kj,qC,VG,Kn,Jp,Nat.reduceAdd,qF,qG,qI,qf,qK,qa,qz,qd,qE,qc,qA,qg,qH,qy,allLive,J4,tokV,hlv,nv];rw[hst];exact⟨H,Vg _,rfl,hs_H⟩
def operV:Option Nat->AVal
 |some n=> .tuple [.int .i64 n, .int .i64 0]
 |none=> .tuple [.int .i64 0, .int .i64 4]
structure QuG where
 n:Nat
 f:Nat
 H:AHeap
theorem qjF{W:Words}{l:List TokC}{i:Nat}(h:qgI W l i=true):i<l.length:=by
 unfold qgI at h;by_cases hi:i<l.length
 ·exact hi
 ·rw[if_neg hi]at h;cases h
theorem qio(l:List TokC)(i:Nat):∀(f k:Nat) (d:Int) (p:Bool),i<=k->i<=l.length->i+(qaK l i f k d p).1<=l.length
 |0,k,d,p,hk,hi=>by simpa[qaK]using hi
 |f+1,k,d,p,hk,hi=>by
  rw[qaK];by_cases h:k<l.length
  ·rw[if_pos h]
   simp only;generalize (if isK l k 5 [[40]]=true then d+1 else if isK l k 5 [[41]]=true then d-1 else d)=d';generalize (if isK l k 5 [[40]]=true then p else if isK l k 5 [[41]]=true then p else if isK l k 5 [[58]]=true/\d=1 then true else p)=p';by_cases h2:d'=0
   ·rw[if_pos h2];simp only;omega
   ·rw[if_neg h2];exact qio l i f (k+1) _ _ (by omega) hi
  ·rw[if_neg h];simpa using hi
theorem qjJ{l:List TokC}{i:Nat}(hi:i<=l.length):i+(WN l i).1<=l.length:=by
 unfold WN;split
 ·exact qio l i _ i 0 false (KL _) hi
 ·simpa using hi
def qfM(l:List TokC):Bool:=if l=[]then true else !(decide ((l.getD 0 noT).kind=2)||decide ((l.getD 0 noT).kind=3)||(decide ((l.getD 0 noT).kind=1) && decide (qbv (l.getD 0 noT).text=3)))
structure OpG where
 b:Bool
 H:AHeap
set_option maxHeartbeats 4000000 in
theorem qpS(w0:World)(ha:Asp w0)(h:AHeap)(v:AVal)(l:List TokC)(hv:IsL w0 h 5 v (l.map Zh))(hl:l.length<=1000000):
 ACall Tryd.prog w0 24 [v] h (fun r h'=>r=operV (qdb QY l)/\Sub h h'):=by
 have hlv:=hv.live;have nv:=Yl hv;have hR:qdb QY l=if qgI QY l 0=true then some (if 0<(WN l (WU QY l l.length 1)).1/\(WN l (WU QY l l.length 1)).2=false then(if (WN l (WU QY l l.length 1+(WN l (WU QY l l.length 1)).1)).2=true then WU QY l l.length 1+(WN l (WU QY l l.length 1)).1+(WN l (WU QY l l.length 1+(WN l (WU QY l l.length 1)).1)).1 else WU QY l l.length 1+(WN l (WU QY l l.length 1)).1)else WU QY l l.length 1+(WN l (WU QY l l.length 1)).1)
  else if l=[]then none else if (l.getD 0 noT).kind=2\/(l.getD 0 noT).kind=3\/((l.getD 0 noT).kind=1/\decide (qbv (l.getD 0 noT).text=3)=true)then some 1 else none:=rfl
 obtain⟨R,hR'⟩:∃R,R=qdb QY l:=⟨_,rfl⟩
 rw[<-hR']at hR|-
 refine Xf (n:=82) (rs:=[.tmp 2, .tmp 3]) Tryd.func24 rfl rfl rfl rfl (Vy rfl) ?_;simp only[Xe];refine awp_rseq [0] (by rfl) fun K hK=>?_;simp+decide only[qh,qi,qj,qo,ev,qZ,qY,putD,Vz,VA,VB,Ka,VC,VD,Kb,and_true,↓qV,qP,qM,ne_eq,not_false_eq_true,qN,qJ,VE,setAt,VF,Kj,qC,VG,Kn,Jp,Nat.reduceAdd,qF,qG,qI,qf,qK,qa,qz,qd,qE,qc,qA,qg,qH,qy,allLive,J4,tokV,hlv,nv];repeat (with_reducible refine And.intro ?_ ?_;· first|trivial|omega|(intro hg;simp only[Ky,JH,Jh,VH,VI,VJ,decide_eq_true_eq,decide_eq_false_iff_not,qR]at hg;omega))
 apply hK;clear hK K;refine Qp ?_;refine awp_rseq [0,11] (by rfl) fun K hK=>?_;simp+decide only[qh,qi,qj,qo,ev,qZ,qY,putD,Vz,VA,VB,Ka,VC,VD,Kb,and_true,↓qW,qU,qM,ne_eq,not_false_eq_true,qN,qJ,VE,setAt,VF,Kj,qC,VG,Kn,Jp,Nat.reduceAdd,qF,qG,qI,qf,qK,qa,qz,qd,qE,qc,qA,qg,qH,qy,allLive,J4,tokV,hlv,nv];repeat (with_reducible refine And.intro ?_ ?_;· first|trivial|omega|(intro hg;simp only[Ky,JH,Jh,VH,VI,VJ,decide_eq_true_eq,decide_eq_false_iff_not,qR]at hg;omega))
 refine QN (by rfl) (by rfl) (qoN w0 ha _ v l 0 hv hl) fun x1q1 h1q1 hx1q1=>?_;obtain⟨rfl,hs1⟩:=hx1q1;have hs_h1q1:Sub h h1q1:=Bq zqC hs1;have hr_h1q1:=hs_h1q1;simp+decide only[qh,qi,qj,qo,ev,qZ,qY,putD,Vz,VA,VB,Ka,VC,VD,Kb,and_true,↓qeS,YB,UD,qM,ne_eq,not_false_eq_true,qN,qJ,VE,setAt,VF,Kj,qC,VG,Kn,Jp,Nat.reduceAdd,qF,qG,qI,qf,qK,qa,qz,qd,qE,qc,qA,qg,qH,qy,allLive,J4,tokV,hlv,nv];try simp(disch:=omega)only[wrap_i64,wrap_u8]
 repeat (with_reducible refine And.intro ?_ ?_;· first|trivial|omega|(intro hg;simp only[Ky,JH,Jh,VH,VI,VJ,decide_eq_true_eq,decide_eq_false_iff_not,qR]at hg;omega))
 apply hK;clear hK K;refine Qw (b:=_) rfl (fun hb1=>?_) (fun hb1=>?_)
 ·try simp only[decide_eq_true_eq,decide_eq_false_iff_not,Jh,VJ,Ky,VH,JH,VI,VV,VW,reduceCtorEq]at hb1
  rw[if_neg (by rw[hb1];decide)]at hR;have hR2:R=if qfM l=true then none else some 1:=by
   rw[hR];unfold qfM;by_cases hl0:l=[]
   ·rw[if_pos hl0,if_pos hl0];rfl
   ·rw[if_neg hl0,if_neg hl0]
    by_cases q:(l.getD 0 noT).kind=2\/(l.getD 0 noT).kind=3\/((l.getD 0 noT).kind=1/\decide (qbv (l.getD 0 noT).text=3)=true)
    ·rw[if_pos q,if_neg]
     simp only[Jh,VI,Br,decide_eq_false_iff_not,decide_eq_true_eq];rintro⟨⟨q1,q2⟩,q3⟩;rcases q with q|q|q
     ·exact q1 q
     ·exact q2 q
     ·exact q3 q.1 (of_decide_eq_true q.2)
    ·rw[if_neg q,if_pos]
     simp only[Jh,VI,Br,decide_eq_false_iff_not,decide_eq_true_eq];exact⟨⟨fun z=>q (.inl z),fun z=>q (.inr (.inl z))⟩,fun z1 z2=>q (.inr (.inr ⟨z1,decide_eq_true z2⟩))⟩
  clear hR;refine Qp ?_;have mcase:(∃(lc:AM.Loc) (o:Nat) (c:Cap),v=v/\decide ((l.length:Int)=0)=true/\True/\True/\True/\True/\True/\True/\qfM l=true)\/
   (∃(lc:AM.Loc) (o:Nat) (c:Cap),v= .slice lc o l.length c/\decide ((l.length:Int)=0)=false/\((0:Int)<l.length)=True/\decide (((l.getD 0 noT).kind.toNat:Int)=2)=true/\True/\True/\rd w0 h1q1 lc o= .int .u8 (l.getD 0 noT).kind.toNat/\True/\qfM l=false)\/
   (∃(lc:AM.Loc) (o:Nat) (c:Cap),v= .slice lc o l.length c/\decide ((l.length:Int)=0)=false/\((0:Int)<l.length)=True/\decide (((l.getD 0 noT).kind.toNat:Int)=2)=false/\decide (((l.getD 0 noT).kind.toNat:Int)=3)=true/\True/\rd w0 h1q1 lc o= .int .u8 (l.getD 0 noT).kind.toNat/\True/\qfM l=false)\/
   (∃(lc:AM.Loc) (o:Nat) (c:Cap),v= .slice lc o l.length c/\decide ((l.length:Int)=0)=false/\((0:Int)<l.length)=True/\decide (((l.getD 0 noT).kind.toNat:Int)=2)=false/\decide (((l.getD 0 noT).kind.toNat:Int)=3)=false/\decide (((l.getD 0 noT).kind.toNat:Int)=1)=false/\rd w0 h1q1 lc o= .int .u8 (l.getD 0 noT).kind.toNat/\True/\qfM l=true)\/
   (∃(lc:AM.Loc) (o:Nat) (c:Cap),v= .slice lc o l.length c/\decide ((l.length:Int)=0)=false/\((0:Int)<l.length)=True/\decide (((l.getD 0 noT).kind.toNat:Int)=2)=false/\decide (((l.getD 0 noT).kind.toNat:Int)=3)=false/\decide (((l.getD 0 noT).kind.toNat:Int)=1)=true/\rd w0 h1q1 lc o= .int .u8 (l.getD 0 noT).kind.toNat/\rd w0 h1q1 lc (o+1)= .str (l.getD 0 noT).text/\qfM l= !decide (((qbv (l.getD 0 noT).text:Nat):Int)=3)):=by
   have hb:qfM l=if l=[]then true else !(decide ((l.getD 0 noT).kind=2)||decide ((l.getD 0 noT).kind=3)||(decide ((l.getD 0 noT).kind=1) && decide (qbv (l.getD 0 noT).text=3))):=rfl
   by_cases hl0:l=[]
   ·rw[if_pos hl0]at hb
    exact .inl ⟨.base 0,0, .exact 0,rfl,by rw[hl0];rfl,trivial,trivial,trivial,trivial,trivial,trivial,hb⟩
   ·rw[if_neg hl0]at hb
    have hn:0<l.length:=V5.2 hl0;obtain⟨lc,o,c,hwe⟩:=YA hv hn;have hv2:=hv.mono hr_h1q1;rw[hwe]at hv2;obtain⟨e0,e1,-⟩:=Uy hv2 hn;rw[K7,K6]at e0 e1;have hkd:decide ((l.length:Int)=0)=false:=by rw[decide_eq_false_iff_not];omega
    have hp:((0:Int)<l.length)=True:=eq_true (by omega);obtain⟨t,ht⟩:∃t,t=l.getD 0 noT:=⟨_,rfl⟩
    rw[<-ht]at e0 e1 hb|-
    have z2:decide ((t.kind.toNat:Int)=2)=decide (t.kind=2):=Wj t.kind 2;have z3:decide ((t.kind.toNat:Int)=3)=decide (t.kind=3):=Wj t.kind 3;have z1:decide ((t.kind.toNat:Int)=1)=decide (t.kind=1):=Wj t.kind 1;rw[z1,z2,z3];by_cases q2:t.kind=2
    ·exact .inr (.inl ⟨lc,o,c,hwe,hkd,hp,by simpa using q2,trivial,trivial,e0,trivial,by rw[hb,decide_eq_true q2];rfl⟩)
    ·rw[decide_eq_false q2]at hb
     by_cases q3:t.kind=3
     ·exact .inr (.inr (.inl ⟨lc,o,c,hwe,hkd,hp,by simpa using q2,by simpa using q3,trivial,e0,trivial,by rw[hb,decide_eq_true q3];rfl⟩))
     ·rw[decide_eq_false q3]at hb
      by_cases q1:t.kind=1
      ·rw[decide_eq_true q1]at hb
       refine .inr (.inr (.inr (.inr ⟨lc,o,c,hwe,hkd,hp,by simpa using q2,by simpa using q3,by simpa using q1,e0,e1,?_⟩)));rw[hb,VU,VU,VO];congr 1;by_cases q:qbv t.text=3
       ·rw[q];rfl
       ·rw[decide_eq_false q,decide_eq_false (by omega)]
      ·exact .inr (.inr (.inr (.inl ⟨lc,o,c,hwe,hkd,hp,by simpa using q2,by simpa using q3,by simpa using q1,e0,trivial,by rw[hb,decide_eq_false q1];rfl⟩)))
  refine awp_rseq [43] (by kernel_rfl) fun K hK=>?_;suffices hM:∀g:OpG,g.b=qfM l/\Sub h1q1 g.H->K [(43, .bool g.b)] (g.H) by
   rcases mcase with⟨lc,o,c,hwe,hkd,hp,hk2,hk3,hk1,e0,e1,hbad⟩|⟨lc,o,c,hwe,hkd,hp,hk2,hk3,hk1,e0,e1,hbad⟩|⟨lc,o,c,hwe,hkd,hp,hk2,hk3,hk1,e0,e1,hbad⟩|⟨lc,o,c,hwe,hkd,hp,hk2,hk3,hk1,e0,e1,hbad⟩|⟨lc,o,c,hwe,hkd,hp,hk2,hk3,hk1,e0,e1,hbad⟩<;>(
    simp+decide only[qh,qi,qj,qo,ev,qZ,qY,putD,Vz,VA,VB,Ka,VC,VD,Kb,and_true,↓qW,qU,↓XG,Xh,QE Tryd.underlying31,QT Tryd.underlying31,↓Qj,Qa,Qm,cond_false,Qh,ZE,↓Zj,agP,Xw,gv,QB,QD,QC,Qs,Qg,Qe,Zk,implies_true,VK,decide_true,decide_false,VL,VM,Qc,Qb,forall_const,false_implies,Qk,Qf,J4,VN,VO,VP,VQ,VS,VT,VU,Xb,Xc,Xa,↓Ye,QM,Zt,Wn,Uv,Uu,Ut,Us,Ur,Uo,Uj,Ui,Un,Um,Ul,Uk,Ql Tryd.underlying31 Yv,YL,YK,YN,YM,↓XW,Qd,Ud,XN,XO,↓ZG,ZP,ZO,ZN,ZM,ZL,ZK,Qi qha,ZI,ZJ,↓XT,Zb,Za,Zd,Zc,qai,↓qgl,Xj,QO,QH,QG,QA,Xo,Xn,Xm,Xl,QZ,Xk,qgc,qgd,qbe,Qi ag9,qM,ne_eq,not_false_eq_true,qN,qJ,VE,setAt,VF,Kj,qC,VG,Kn,Jp,Nat.reduceAdd,qF,qG,qI,qf,qK,qa,qz,qd,qE,qc,qA,qg,qH,qy,allLive,J4,tokV,hlv,nv,hwe,hkd,hp,hk2,hk3,hk1,e0,e1,VX,Bt,K7,K6,qaL,Qb,Qc,VP,VO];repeat (with_reducible refine And.intro ?_ ?_;· first|trivial|omega|(intro hg;simp only[Ky,JH,Jh,VH,VI,VJ,decide_eq_true_eq,decide_eq_false_iff_not,qR]at hg;omega))
    have hs27r:Sub h1q1 h1q1:=Vg _;first
    |(refine qao (g:= .tuple []) (V:= .int .u8 0) (f:=0) (cap:=[]) (xs:=[]) (by rfl) (by rfl) (fun hg=>absurd hg (by decide)) (fun hg=>absurd hg (by decide)) fun h2q27 hs27=>?_)
    |(refine qao (g:= .bool true) (V:= .int .u8 0) (f:=0) (cap:=[]) (xs:=[]) (by rfl) (by rfl) (fun hg=>absurd hg (by decide)) (fun hg=>absurd hg (by decide)) fun h2q27 hs27=>?_)
    |(refine qao (g:= .bool false) (V:= .int .u8 (qbv (l.getD 0 noT).text:Nat)) (f:=48) (cap:=[]) (xs:=[.str (l.getD 0 noT).text]) (by rfl) (by rfl) (fun _=>⟨rfl,rfl⟩) (fun _=>qmb w0 ha _ _) fun h2q27 hs27=>?_)
    simp+decide only[qh,qi,qj,qo,ev,qZ,qY,putD,Vz,VA,VB,Ka,VC,VD,Kb,and_true,gv,QB,Qg,Qe,Qs,↓XT,Qa,agP,Xw,QD,QC,Zk,implies_true,VK,decide_true,decide_false,VL,VM,Qc,Qb,forall_const,false_implies,Qk,Qf,J4,VN,VO,VP,VQ,VS,VT,VU,Qm,cond_false,Zb,Za,Zd,Zc,Qh,qai,Xb,Xc,Xa,↓qgl,Xj,QO,QH,QG,QA,Xo,Xn,Xm,Xl,QZ,Xk,qgc,qgd,↓XH,qM,ne_eq,not_false_eq_true,qN,qJ,VE,setAt,VF,Kj,qC,VG,Kn,Jp,Nat.reduceAdd,qF,qG,qI,qf,qK,qa,qz,qd,qE,qc,qA,qg,qH,qy,allLive,J4,tokV,hlv,nv,hwe,hkd,hp,hk2,hk3,hk1,e0,e1,VX,Bt,K7,K6,qaL,Qb,Qc,VP,VO];repeat (with_reducible refine And.intro ?_ ?_;· first|trivial|omega|(intro hg;simp only[Ky,JH,Jh,VH,VI,VJ,decide_eq_true_eq,decide_eq_false_iff_not,qR]at hg;omega))
    first
    |exact hM ⟨_,_⟩ ⟨hbad.symm,by assumption⟩
    |(trace_state;fail))
  intro g hb_2;apply hK;clear hK K;refine Qw (b:=_) rfl (fun hb2=>?_) (fun hb2=>?_)
  ·try simp only[decide_eq_true_eq,decide_eq_false_iff_not,Jh,VJ,Ky,VH,JH,VI,VV,VW,reduceCtorEq]at hb2
   refine awp_rseq [2,3] (by rfl) fun K hK=>?_;simp+decide only[qh,qi,qj,qo,ev,qZ,qY,putD,Vz,VA,VB,Ka,VC,VD,Kb,and_true,↓qV,qP,qM,ne_eq,not_false_eq_true,qN,qJ,VE,setAt,VF,Kj,qC,VG,Kn,Jp,Nat.reduceAdd,qF,qG,qI,qf,qK,qa,qz,qd,qE,qc,qA,qg,qH,qy,allLive,J4,tokV,hlv,nv];repeat (with_reducible refine And.intro ?_ ?_;· first|trivial|omega|(intro hg;simp only[Ky,JH,Jh,VH,VI,VJ,decide_eq_true_eq,decide_eq_false_iff_not,qR]at hg;omega))
   apply hK;clear hK K;refine Xd ?_;try simp only[QF,Qn]
   refine Xu (Qr (Qr (Qv))) ?_;simp+decide only[qh,qi,qj,qo,ev,qZ,qY,putD,Vz,VA,VB,Ka,VC,VD,Kb,and_true,Yi,qM,ne_eq,not_false_eq_true,qN,qJ,VE,setAt,VF,Kj,qC,VG,Kn,Jp,Nat.reduceAdd,qF,qG,qI,qf,qK,qa,qz,qd,qE,qc,qA,qg,qH,qy,allLive,J4,tokV,hlv,nv];rw[hR2,if_pos (by rw[<-hb_2.1];exact hb2)];exact⟨g.H,Vg _,rfl,hs_h1q1.trans hb_2.2⟩
  ·try simp only[decide_eq_true_eq,decide_eq_false_iff_not,Jh,VJ,Ky,VH,JH,VI,VV,VW,reduceCtorEq]at hb2
   refine QJ ?_;change Awp _ _ _ _ _ _ _;refine awp_rseq [2,3] (by rfl) fun K hK=>?_;simp+decide only[qh,qi,qj,qo,ev,qZ,qY,putD,Vz,VA,VB,Ka,VC,VD,Kb,and_true,↓qV,qP,qM,ne_eq,not_false_eq_true,qN,qJ,VE,setAt,VF,Kj,qC,VG,Kn,Jp,Nat.reduceAdd,qF,qG,qI,qf,qK,qa,qz,qd,qE,qc,qA,qg,qH,qy,allLive,J4,tokV,hlv,nv];repeat (with_reducible refine And.intro ?_ ?_;· first|trivial|omega|(intro hg;simp only[Ky,JH,Jh,VH,VI,VJ,decide_eq_true_eq,decide_eq_false_iff_not,qR]at hg;omega))
   apply hK;clear hK K;refine Xd ?_;try simp only[QF,Qn]
   refine Xu (Qr (Qr (Qv))) ?_;simp+decide only[qh,qi,qj,qo,ev,qZ,qY,putD,Vz,VA,VB,Ka,VC,VD,Kb,and_true,Yi,qM,ne_eq,not_false_eq_true,qN,qJ,VE,setAt,VF,Kj,qC,VG,Kn,Jp,Nat.reduceAdd,qF,qG,qI,qf,qK,qa,qz,qd,qE,qc,qA,qg,qH,qy,allLive,J4,tokV,hlv,nv];rw[hR2,if_neg (by rw[<-hb_2.1,hb2];decide)];exact⟨g.H,Vg _,rfl,hs_h1q1.trans hb_2.2⟩
 ·try simp only[decide_eq_true_eq,decide_eq_false_iff_not,Jh,VJ,Ky,VH,JH,VI,VV,VW,reduceCtorEq]at hb1
  rw[if_pos hb1]at hR;have hn1:=qjF hb1;refine QJ ?_;change Awp _ _ _ _ _ _ _;refine awp_rseq [0,4] (by rfl) fun K hK=>?_;simp+decide only[qh,qi,qj,qo,ev,qZ,qY,putD,Vz,VA,VB,Ka,VC,VD,Kb,and_true,↓qV,qP,qM,ne_eq,not_false_eq_true,qN,qJ,VE,setAt,VF,Kj,qC,VG,Kn,Jp,Nat.reduceAdd,qF,qG,qI,qf,qK,qa,qz,qd,qE,qc,qA,qg,qH,qy,allLive,J4,tokV,hlv,nv];repeat (with_reducible refine And.intro ?_ ?_;· first|trivial|omega|(intro hg;simp only[Ky,JH,Jh,VH,VI,VJ,decide_eq_true_eq,decide_eq_false_iff_not,qR]at hg;omega))
  apply hK;clear hK K;refine Qp ?_;refine QL ?_;refine XI [0,4] (fun g:QuG=>[(0,v),(4, .int .i64 g.n)]) (fun g:QuG=>g.H) (fun g:QuG=>Sub h g.H/\g.n<=l.length/\l.length<=g.f+g.n/\WU QY l l.length 1=WU QY l g.f g.n) (fun g:QuG=>l.length-g.n) ⟨1,l.length,_⟩ (by rfl) (Vg _) ⟨zqB,by simp only;omega,by simp only;omega,rfl⟩ ?_;rintro⟨n,f,H⟩ ⟨hs_H,g1,g2,g3⟩;simp only at hs_H g1 g2 g3|-
  refine Qp ?_;obtain⟨kb,hkb⟩:∃kb,kb=isK l n 1 [[79,70],[73,78]]:=⟨_,rfl⟩
  refine awp_rseq [0,4,53] (by rfl) fun K hK=>?_;simp+decide only[qh,qi,qj,qo,ev,qZ,qY,putD,Vz,VA,VB,Ka,VC,VD,Kb,and_true,↓qW,qU,qM,ne_eq,not_false_eq_true,qN,qJ,VE,setAt,VF,Kj,qC,VG,Kn,Jp,Nat.reduceAdd,qF,qG,qI,qf,qK,qa,qz,qd,qE,qc,qA,qg,qH,qy,allLive,J4,tokV,hlv,nv];repeat (with_reducible refine And.intro ?_ ?_;· first|trivial|omega|(intro hg;simp only[Ky,JH,Jh,VH,VI,VJ,decide_eq_true_eq,decide_eq_false_iff_not,qR]at hg;omega))
  refine QS (cs:=[.str [79,70], .str [73,78]]) (by kernel_rfl) fun k6q2 hk6q2=>?_;have hn_6q2:H k6q2=none:=by first|assumption|(simp only[V7]at hk6q2;simp only[hk6q2])
  have hf_6q2:h k6q2=none:=Bh hs_H hn_6q2;refine XD (V:= .bool kb) (by rfl) (by rfl) (by rw[hkb];exact qmd w0 _ v _ l _ n 1 (hv.mono zqB) hl (qcv (l:=[[79,70],[73,78]]) zqA) (by decide)) ?_;simp+decide only[qh,qi,qj,qo,ev,qZ,qY,putD,Vz,VA,VB,Ka,VC,VD,Kb,and_true,↓qW,qU,↓Zj,agP,Xw,gv,QB,QD,QC,Qs,Qg,Qe,Zk,implies_true,VK,decide_true,decide_false,VL,VM,Qc,Qb,forall_const,false_implies,Qk,Qf,J4,VN,VO,VP,VQ,VS,VT,VU,Xb,Xc,Xa,↓XT,Qa,Qm,cond_false,Zb,Za,Zd,Zc,Qh,XM,qM,ne_eq,not_false_eq_true,qN,qJ,VE,setAt,VF,Kj,qC,VG,Kn,Jp,Nat.reduceAdd,qF,qG,qI,qf,qK,qa,qz,qd,qE,qc,qA,qg,qH,qy,allLive,J4,tokV,hlv,nv];try simp(disch:=omega)only[wrap_i64,wrap_u8]
  repeat (with_reducible refine And.intro ?_ ?_;· first|trivial|omega|(intro hg;simp only[Ky,JH,Jh,VH,VI,VJ,decide_eq_true_eq,decide_eq_false_iff_not,qR]at hg;omega))
  refine qao (g:= .bool kb) (V:= .bool (qgI QY l (n+1))) (f:=47) (cap:=[]) (xs:=[v, .int .i64 ((n+1:Nat):Int)]) (by rfl) (by rfl) (fun hg=>⟨rfl,by
   have hg':kb=true:=by rwa [Qg]at hg
   simp+decide only[evs,ev,putD,Vz,VA,Ka,hg',Qc,JE,Ke,Vh];rfl⟩) (fun hg=>qoN w0 ha _ v l (n+1) (hv.mono zqB) hl) fun h6q8 hs68=>?_
  have hs_h6q8:Sub h h6q8:=Bq zqC hs68;have hr_h6q8:Sub H h6q8:=Bq zqC hs68;have eb_6q2:=hs68 k6q2 _ zqA;simp+decide only[qh,qi,qj,qo,ev,qZ,qY,putD,Vz,VA,VB,Ka,VC,VD,Kb,and_true,gv,QB,Qg,Qe,Qs,↓XH,Xj,QO,QH,QG,QA,Xo,Xn,Xm,Xl,QZ,Xk,qM,ne_eq,not_false_eq_true,qO w0 eb_6q2,qN,qJ,VE,setAt,VF,Kj,qC,VG,Kn,Jp,Nat.reduceAdd,qF,qG,qI,qf,qK,qa,qz,qd,qE,qc,qA,qg,qH,qy,allLive,J4,tokV,hlv,nv];repeat (with_reducible refine And.intro ?_ ?_;· first|trivial|omega|(intro hg;simp only[Ky,JH,Jh,VH,VI,VJ,decide_eq_true_eq,decide_eq_false_iff_not,qR]at hg;omega))
  apply hK;clear hK K;refine Qw (b:=_) rfl (fun hb3=>?_) (fun hb3=>?_)
  ·try simp only[decide_eq_true_eq,decide_eq_false_iff_not,Jh,VJ,Ky,VH,JH,VI,VV,VW,reduceCtorEq]at hb3
   obtain⟨q1,q2⟩:=hb3;have hn2:=qjF q2;obtain⟨f',hf'⟩:∃f',f=f'+1:=⟨f-1,by omega⟩
   rw[hf',WU,if_pos ⟨by rw[<-hkb];exact q1,q2⟩]at g3;refine QJ ?_;change Awp _ _ _ _ _ _ _;refine QL ?_;refine XZ [0,4] (by rfl) ?_;simp+decide only[qh,qi,qj,qo,ev,qZ,qY,putD,Vz,VA,VB,Ka,VC,VD,Kb,and_true,↓qW,qU,↓Qj,Qa,Qm,cond_false,Qh,XM,↓qV,qP,qM,ne_eq,not_false_eq_true,qO w0 eb_6q2,qN,qJ,VE,setAt,VF,Kj,qC,VG,Kn,Jp,Nat.reduceAdd,qF,qG,qI,qf,qK,qa,qz,qd,qE,qc,qA,qg,qH,qy,allLive,J4,tokV,hlv,nv];try simp(disch:=omega)only[wrap_i64,wrap_u8]
   repeat (with_reducible refine And.intro ?_ ?_;· first|trivial|omega|(intro hg;simp only[Ky,JH,Jh,VH,VI,VJ,decide_eq_true_eq,decide_eq_false_iff_not,qR]at hg;omega))
   try simp only[QK,Qt]
   exact⟨⟨n+2,f',_⟩,rfl,Vg _,⟨zqB,by simp only;omega,by simp only;omega,g3⟩,by simp only;omega⟩
  ·try simp only[decide_eq_true_eq,decide_eq_false_iff_not,Jh,VJ,Ky,VH,JH,VI,VV,VW,reduceCtorEq]at hb3
   have g4:WU QY l l.length 1=n:=by
    rw[g3];cases f with
    |zero=>rfl
    |succ f'=>
     rw[WU,if_neg];rw[<-hkb];rintro⟨q1,q2⟩;rcases hb3 with z|z
     ·rw[q1]at z;cases z
     ·rw[q2]at z;cases z
   rw[g4]at hR;obtain⟨g,hg⟩:∃g,g=WN l n:=⟨_,rfl⟩
   have hgl:=qjJ (l:=l) g1;rw[<-hg]at hR hgl;refine XJ ?_;change Awp _ _ _ _ _ _ _;refine awp_rseq [0,4,5,6] (by rfl) fun K hK=>?_;simp+decide only[qh,qi,qj,qo,ev,qZ,qY,putD,Vz,VA,VB,Ka,VC,VD,Kb,and_true,↓qW,qU,qM,ne_eq,not_false_eq_true,qO w0 eb_6q2,qN,qJ,VE,setAt,VF,Kj,qC,VG,Kn,Jp,Nat.reduceAdd,qF,qG,qI,qf,qK,qa,qz,qd,qE,qc,qA,qg,qH,qy,allLive,J4,tokV,hlv,nv];repeat (with_reducible refine And.intro ?_ ?_;· first|trivial|omega|(intro hg;simp only[Ky,JH,Jh,VH,VI,VJ,decide_eq_true_eq,decide_eq_false_iff_not,qR]at hg;omega))
   refine QN (by rfl) (by rfl) (qoO w0 _ v l n (hv.mono zqB) hl) fun x8q2 h8q2 hx8q2=>?_;obtain⟨rfl,hs8⟩:=hx8q2;rw[<-hg];have hs_h8q2:Sub h h8q2:=Bq zqC hs8;have hr_h8q2:Sub h6q8 h8q2:=Bq zqC hs8;have eb_6q2:=hs8 k6q2 _ zqA;simp+decide only[qh,qi,qj,qo,ev,qZ,qY,putD,Vz,VA,VB,Ka,VC,VD,Kb,and_true,↓qW,qU,↓Zl,XY,Zp,KX,JD,VG,Kn,↓qV,qP,qM,ne_eq,not_false_eq_true,qO w0 eb_6q2,qN,qJ,VE,setAt,VF,Kj,qC,VG,Kn,Jp,Nat.reduceAdd,qF,qG,qI,qf,qK,qa,qz,qd,qE,qc,qA,qg,qH,qy,allLive,J4,tokV,hlv,nv];repeat (with_reducible refine And.intro ?_ ?_;· first|trivial|omega|(intro hg;simp only[Ky,JH,Jh,VH,VI,VJ,decide_eq_true_eq,decide_eq_false_iff_not,qR]at hg;omega))
   apply hK;clear hK K;refine awp_rseq [0,4,5,6] (by rfl) fun K hK=>?_;simp+decide only[qh,qi,qj,qo,ev,qZ,qY,putD,Vz,VA,VB,Ka,VC,VD,Kb,and_true,↓qW,qU,↓Qj,Qa,Qz,cond_false,Qh,XM,↓qV,qP,qM,ne_eq,not_false_eq_true,qO w0 eb_6q2,qN,qJ,VE,setAt,VF,Kj,qC,VG,Kn,Jp,Nat.reduceAdd,qF,qG,qI,qf,qK,qa,qz,qd,qE,qc,qA,qg,qH,qy,allLive,J4,tokV,hlv,nv];try simp(disch:=omega)only[wrap_i64,wrap_u8]
   repeat (with_reducible refine And.intro ?_ ?_;· first|trivial|omega|(intro hg;simp only[Ky,JH,Jh,VH,VI,VJ,decide_eq_true_eq,decide_eq_false_iff_not,qR]at hg;omega))
   apply hK;clear hK K;refine Qp ?_;refine awp_rseq [0,4,70] (by rfl) fun K hK=>?_;simp+decide only[qh,qi,qj,qo,ev,qZ,qY,putD,Vz,VA,VB,Ka,VC,VD,Kb,and_true,↓qW,qU,↓Qj,Qa,Qm,cond_false,Qh,UE,↓Zj,agP,Xw,gv,QB,QD,QC,Qs,Qg,Qe,Zk,implies_true,VK,decide_true,decide_false,VL,VM,Qc,Qb,forall_const,false_implies,Qk,Qf,J4,VN,VO,VP,VQ,VS,VT,VU,Xb,Xc,Xa,↓qbP,YB,UD,qei,qek,↓XH,Xj,QO,QH,QG,QA,Xo,Xn,Xm,Xl,QZ,Xk,qM,ne_eq,not_false_eq_true,qO w0 eb_6q2,qN,qJ,VE,setAt,VF,Kj,qC,VG,Kn,Jp,Nat.reduceAdd,qF,qG,qI,qf,qK,qa,qz,qd,qE,qc,qA,qg,qH,qy,allLive,J4,tokV,hlv,nv];try simp(disch:=omega)only[wrap_i64,wrap_u8]
   repeat (with_reducible refine And.intro ?_ ?_;· first|trivial|omega|(intro hg;simp only[Ky,JH,Jh,VH,VI,VJ,decide_eq_true_eq,decide_eq_false_iff_not,qR]at hg;omega))
   apply hK;clear hK K;refine Qw (b:=_) rfl (fun hb4=>?_) (fun hb4=>?_)
   ·try simp only[decide_eq_true_eq,decide_eq_false_iff_not,Jh,VJ,Ky,VH,JH,VI,VV,VW,reduceCtorEq]at hb4
    rw[if_pos ⟨by omega,hb4.2⟩]at hR;obtain⟨g',hg'⟩:∃g',g'=WN l (n+g.1):=⟨_,rfl⟩
    have hgl':=qjJ (l:=l) (i:=n+g.1) (by omega);rw[<-hg']at hR hgl';refine awp_rseq [4,7,8] (by rfl) fun K hK=>?_;simp+decide only[qh,qi,qj,qo,ev,qZ,qY,putD,Vz,VA,VB,Ka,VC,VD,Kb,and_true,↓qW,qU,qM,ne_eq,not_false_eq_true,qO w0 eb_6q2,qN,qJ,VE,setAt,VF,Kj,qC,VG,Kn,Jp,Nat.reduceAdd,qF,qG,qI,qf,qK,qa,qz,qd,qE,qc,qA,qg,qH,qy,allLive,J4,tokV,hlv,nv];repeat (with_reducible refine And.intro ?_ ?_;· first|trivial|omega|(intro hg;simp only[Ky,JH,Jh,VH,VI,VJ,decide_eq_true_eq,decide_eq_false_iff_not,qR]at hg;omega))
    refine QN (by rfl) (by rfl) (qoO w0 _ v l (n+g.1) (hv.mono zqB) hl) fun x11q2 h11q2 hx11q2=>?_;obtain⟨rfl,hs11⟩:=hx11q2;rw[<-hg'];have hs_h11q2:Sub h h11q2:=Bq zqC hs11;have hr_h11q2:Sub h8q2 h11q2:=Bq zqC hs11;have eb_6q2:=hs11 k6q2 _ zqA;simp+decide only[qh,qi,qj,qo,ev,qZ,qY,putD,Vz,VA,VB,Ka,VC,VD,Kb,and_true,↓qW,qU,↓Zl,XY,Zp,KX,JD,VG,Kn,↓qV,qP,qM,ne_eq,not_false_eq_true,qO w0 eb_6q2,qN,qJ,VE,setAt,VF,Kj,qC,VG,Kn,Jp,Nat.reduceAdd,qF,qG,qI,qf,qK,qa,qz,qd,qE,qc,qA,qg,qH,qy,allLive,J4,tokV,hlv,nv];repeat (with_reducible refine And.intro ?_ ?_;· first|trivial|omega|(intro hg;simp only[Ky,JH,Jh,VH,VI,VJ,decide_eq_true_eq,decide_eq_false_iff_not,qR]at hg;omega))
    apply hK;clear hK K;refine awp_rseq [4,7,77] (by rfl) fun K hK=>?_;simp+decide only[qh,qi,qj,qo,ev,qZ,qY,putD,Vz,VA,VB,Ka,VC,VD,Kb,and_true,↓qW,qU,qM,ne_eq,not_false_eq_true,qO w0 eb_6q2,qN,qJ,VE,setAt,VF,Kj,qC,VG,Kn,Jp,Nat.reduceAdd,qF,qG,qI,qf,qK,qa,qz,qd,qE,qc,qA,qg,qH,qy,allLive,J4,tokV,hlv,nv];repeat (with_reducible refine And.intro ?_ ?_;· first|trivial|omega|(intro hg;simp only[Ky,JH,Jh,VH,VI,VJ,decide_eq_true_eq,decide_eq_false_iff_not,qR]at hg;omega))
    apply hK;clear hK K;refine Qw (b:=_) rfl (fun hb5=>?_) (fun hb5=>?_)
    ·try simp only[decide_eq_true_eq,decide_eq_false_iff_not,Jh,VJ,Ky,VH,JH,VI,VV,VW,reduceCtorEq]at hb5
     rw[if_pos hb5]at hR;refine XZ [4] (by rfl) ?_;simp+decide only[qh,qi,qj,qo,ev,qZ,qY,putD,Vz,VA,VB,Ka,VC,VD,Kb,and_true,↓qW,qU,↓Qj,Qa,Qz,cond_false,Qh,XM,↓qV,qP,qM,ne_eq,not_false_eq_true,qO w0 eb_6q2,qN,qJ,VE,setAt,VF,Kj,qC,VG,Kn,Jp,Nat.reduceAdd,qF,qG,qI,qf,qK,qa,qz,qd,qE,qc,qA,qg,qH,qy,allLive,J4,tokV,hlv,nv];try simp(disch:=omega)only[wrap_i64,wrap_u8]
     repeat (with_reducible refine And.intro ?_ ?_;· first|trivial|omega|(intro hg;simp only[Ky,JH,Jh,VH,VI,VJ,decide_eq_true_eq,decide_eq_false_iff_not,qR]at hg;omega))
     change Awp _ _ _ _ _ _ _;refine awp_rseq [2,3] (by rfl) fun K hK=>?_;simp+decide only[qh,qi,qj,qo,ev,qZ,qY,putD,Vz,VA,VB,Ka,VC,VD,Kb,and_true,↓qW,qU,↓qV,qP,qM,ne_eq,not_false_eq_true,qO w0 eb_6q2,qN,qJ,VE,setAt,VF,Kj,qC,VG,Kn,Jp,Nat.reduceAdd,qF,qG,qI,qf,qK,qa,qz,qd,qE,qc,qA,qg,qH,qy,allLive,J4,tokV,hlv,nv];repeat (with_reducible refine And.intro ?_ ?_;· first|trivial|omega|(intro hg;simp only[Ky,JH,Jh,VH,VI,VJ,decide_eq_true_eq,decide_eq_false_iff_not,qR]at hg;omega))
     apply hK;clear hK K;refine Xd ?_;try simp only[QF,Qn]
     refine XV h zqC (Qr (Qr (Qv))) ?_;simp+decide only[qh,qi,qj,qo,ev,qZ,qY,putD,Vz,VA,VB,Ka,VC,VD,Kb,and_true,Yi,qM,ne_eq,not_false_eq_true,qO w0 eb_6q2,qN,qJ,VE,setAt,VF,Kj,qC,VG,Kn,Jp,Nat.reduceAdd,qF,qG,qI,qf,qK,qa,qz,qd,qE,qc,qA,qg,qH,qy,allLive,J4,tokV,hlv,nv];rw[hR];exact⟨rfl,zqB⟩
    ·try simp only[decide_eq_true_eq,decide_eq_false_iff_not,Jh,VJ,Ky,VH,JH,VI,VV,VW,reduceCtorEq]at hb5
     rw[if_neg (by rw[hb5];decide)]at hR;refine QJ ?_;change Awp _ _ _ _ _ _ _;refine awp_rseq [2,3] (by rfl) fun K hK=>?_;simp+decide only[qh,qi,qj,qo,ev,qZ,qY,putD,Vz,VA,VB,Ka,VC,VD,Kb,and_true,↓qW,qU,↓qV,qP,qM,ne_eq,not_false_eq_true,qO w0 eb_6q2,qN,qJ,VE,setAt,VF,Kj,qC,VG,Kn,Jp,Nat.reduceAdd,qF,qG,qI,qf,qK,qa,qz,qd,qE,qc,qA,qg,qH,qy,allLive,J4,tokV,hlv,nv];repeat (with_reducible refine And.intro ?_ ?_;· first|trivial|omega|(intro hg;simp only[Ky,JH,Jh,VH,VI,VJ,decide_eq_true_eq,decide_eq_false_iff_not,qR]at hg;omega))
     apply hK;clear hK K;refine Xd ?_;try simp only[QF,Qn]
     refine XV h zqC (Qr (Qr (Qv))) ?_;simp+decide only[qh,qi,qj,qo,ev,qZ,qY,putD,Vz,VA,VB,Ka,VC,VD,Kb,and_true,Yi,qM,ne_eq,not_false_eq_true,qO w0 eb_6q2,qN,qJ,VE,setAt,VF,Kj,qC,VG,Kn,Jp,Nat.reduceAdd,qF,qG,qI,qf,qK,qa,qz,qd,qE,qc,qA,qg,qH,qy,allLive,J4,tokV,hlv,nv];rw[hR];exact⟨rfl,zqB⟩
   ·try simp only[decide_eq_true_eq,decide_eq_false_iff_not,Jh,VJ,Ky,VH,JH,VI,VV,VW,reduceCtorEq]at hb4
    rw[if_neg (by
     rintro⟨q1,q2⟩;rcases hb4 with z|z
     ·omega
     ·rw[q2]at z;cases z)]at hR
    refine QJ ?_;change Awp _ _ _ _ _ _ _;refine awp_rseq [2,3] (by rfl) fun K hK=>?_;simp+decide only[qh,qi,qj,qo,ev,qZ,qY,putD,Vz,VA,VB,Ka,VC,VD,Kb,and_true,↓qW,qU,↓qV,qP,qM,ne_eq,not_false_eq_true,qO w0 eb_6q2,qN,qJ,VE,setAt,VF,Kj,qC,VG,Kn,Jp,Nat.reduceAdd,qF,qG,qI,qf,qK,qa,qz,qd,qE,qc,qA,qg,qH,qy,allLive,J4,tokV,hlv,nv];repeat (with_reducible refine And.intro ?_ ?_;· first|trivial|omega|(intro hg;simp only[Ky,JH,Jh,VH,VI,VJ,decide_eq_true_eq,decide_eq_false_iff_not,qR]at hg;omega))
    apply hK;clear hK K;refine Xd ?_;try simp only[QF,Qn]
    refine XV h zqC (Qr (Qr (Qv))) ?_;simp+decide only[qh,qi,qj,qo,ev,qZ,qY,putD,Vz,VA,VB,Ka,VC,VD,Kb,and_true,Yi,qM,ne_eq,not_false_eq_true,qO w0 eb_6q2,qN,qJ,VE,setAt,VF,Kj,qC,VG,Kn,Jp,Nat.reduceAdd,qF,qG,qI,qf,qK,qa,qz,qd,qE,qc,qA,qg,qH,qy,allLive,J4,tokV,hlv,nv];rw[hR];exact⟨rfl,zqB⟩
end Go.Proofs.YtgiadjbiimkbiaaDoor
namespace Go.AM
theorem qbE{P:Program}{w0:World}{ops rest:List Oper}{s:Slots}{h:AHeap}{K:Slots->AHeap->Prop}{dst:Option Tmp}{ty:TypeId}{pos:String}{af:Array Edge}{ts:Array TypeId}{t u e:TypeId}{d:TypeDesc}{x y:Operand}{v v':AVal}{es by':Nat}{z:Value}{xs ys:List (List AVal)}
 (h0:ts[0]?=some t) (h1:ts[1]?=some u) (ht:P.underlying t=some (.slice e)) (hu:P.underlying u=some d) (hd:∀k,d≠ .int k)
 (hs:Yu P e=some es) (hb:qeo P e=some by') (hz:qap P e=some z) (hzs:z.cells.size=es) (hes:es≠0)
 (hx:ev s x=Yd v) (hv:IsL w0 h es v xs) (hy:ev s y=v') (hv':IsL w0 h es v' ys) (hne:ys.length≠0)
 (hl:(xs.length+ys.length)*by'<=140737488355328) (hl':xs.length+ys.length<4611686018427387904)
 (hk:∀k,h k=none->IsL w0 (h.set k ⟨(xs++ys).flatten,0⟩) es (.slice (.own k) 0 (xs.length+ys.length) (.grow es)) (xs++ys)->Xp P w0 ops rest (putD s dst (.slice (.own k) 0 (xs.length+ys.length) (.grow es))) (h.set k ⟨(xs++ys).flatten,0⟩) K):
 Xp P w0 ops (⟨dst, .call ⟨.builtin .append,[x,y].toArray,ts⟩,ty,pos,af,none⟩::rest) s h K:=by
 obtain⟨s1,s2,s3⟩:=hv'.src;have hw:∀x∈xs++ys,x.length=es:=fun x hx=>by
  rcases JS.1 hx with h|h
  ·exact hv.wide x h
  ·exact hv'.wide x h
 have hal:allLive (xs++ys).flatten=true:=by rw[Bo,YE,hv.allLive,hv'.allLive];rfl
 have key:∀k,h k=none->Xp P w0 ops rest (putD s dst (.slice (.own k) 0 (xs.length+ys.length) (.grow es))) (h.set k ⟨xs.flatten++ys.flatten,0⟩) K:=fun k hk0=>by
  have:=hk k hk0 (by rw[<-Jb];exact V9 (Vf _ _ _) hw rfl hal (.grow es) rfl)
  rwa [Bo]at this
 rw[qct];simp only[eop,evs,Ke,Vh,hx,hy,qeP,h0,h1,ht,hu,hs,hb,hz,s1];refine⟨hd,⟨hes,hzs⟩,s2,?_⟩;cases hv with
 |nil=>
  simp only[Yd];simp only[JD,Jp,List.flatten_nil,Jd]at hl hl' key;exact⟨fun e0=>absurd e0 hne,fun _=>⟨⟨hl,hl'⟩,fun k hk0 _=>by rw[s3];exact key k hk0⟩⟩
 |mk lc o n c xs hn hw hc hl2 hcap=>
  subst hn;simp only[Yd];refine⟨fun h1=>by omega,fun _=>⟨⟨by rw[hc];exact hl2,hl,hl'⟩,fun k hk0 _=>?_⟩⟩;rw[hc,s3];exact key k hk0
theorem qiM{P:Program}{w0:World}{ops rest:List Oper}{s:Slots}{H:AHeap}{K:Slots->AHeap->Prop}{dst:Option Tmp}{ty:TypeId}{pos:String}{af:Array Edge}{ts:Array TypeId}{t u e:TypeId}{d:TypeDesc}{x y:Operand}{v':AVal}{es by' k:Nat}{c:Cap}{z:Value}{xs ys:List (List AVal)}
 (h0:ts[0]?=some t) (h1:ts[1]?=some u) (ht:P.underlying t=some (.slice e)) (hu:P.underlying u=some d) (hd:∀k,d≠ .int k)
 (hs:Yu P e=some es) (hb:qeo P e=some by') (hz:qap P e=some z) (hzs:z.cells.size=es) (hes:es≠0)
 (hx:ev s x= .slice (.own k) 0 xs.length c) (hc:c= .exact xs.length\/c= .grow es) (hk:H k=some ⟨xs.flatten,0⟩) (hw:∀x∈xs,x.length=es) (hal:allLive xs.flatten=true) (hy:ev s y=v') (hv':IsL w0 H es v' ys) (hsc:XR ys.flatten=true) (hne:ys.length≠0)
 (hl:(xs.length+ys.length)*by'<=140737488355328) (hl':xs.length+ys.length<4611686018427387904)
 (hkk:∀k' H',H' k'=some ⟨(xs++ys).flatten,0⟩->(H k'=none\/k'=k)->(∀j d,H j=some d->j≠k->H' j=some d/\j≠k')->Xp P w0 ops rest (putD s dst (.slice (.own k') 0 (xs.length+ys.length) (.grow es))) H' K):
 Xp P w0 ops (⟨dst, .call ⟨.builtin .append,[x,y].toArray,ts⟩,ty,pos,af,none⟩::rest) s H K:=by
 rcases hc with rfl|rfl
 ·refine qbE (v:= .slice (.own k) 0 xs.length (.exact xs.length)) h0 h1 ht hu hd hs hb hz hzs hes hx (V9 hk hw rfl hal (.exact _) (KL _)) hy hv' hne hl hl' fun k' hk' _=>?_
  refine hkk k' _ (Vf _ _ _) (.inl hk') fun j d hj _=>?_;have hne':j≠k':=fun e=>by subst e;rw[hk']at hj;cases hj
  exact⟨(Ve _ _ hne').trans hj,hne'⟩
 ·have hlen:xs.flatten.length / es=xs.length:=by rw[Zw hw,Vj _ (Vi hes)]
  refine qbS (zs:=xs) (H0:=H.del k) (b:=some ⟨k,xs.flatten⟩) h0 h1 ht hu hd hs hb hz hzs hes (by rw[hx];simp only[qeY,hlen]) ⟨by simp[Bu],by simp only;rw[Zw hw];exact Nat.mul_mod_left _ _,hal⟩ rfl hw ?_ hy hv' hsc hl hl' fun b' h' o1 o2 o3=>?_
  ·intro j d hj
   by_cases e:j=k
   ·subst e
    rw[show qeZ (H.del j) (some ⟨j,xs.flatten⟩)=(H.del j).set j ⟨xs.flatten,0⟩from rfl,Vf]at hj;rw[<-hj];exact hk
   ·rw[show qeZ (H.del k) (some ⟨k,xs.flatten⟩)=(H.del k).set k ⟨xs.flatten,0⟩from rfl,Ve _ _ e]at hj
    simpa[Bu,e]using hj
  ·cases b' with
   |none=>
    exfalso;have e0:((xs++ys).flatten).length=0:=by rw[<-o2];rfl
    have hw2:∀x∈xs++ys,x.length=es:=fun x hx=>by
     rcases JS.1 hx with h|h
     ·exact hw x h
     ·exact hv'.wide x h
    rw[Zw hw2,Jb]at e0;rcases Nat.mul_eq_zero.1 e0 with e|e
    ·omega
    ·exact hes e
   |some b'=>
    obtain⟨kb,cells⟩:=b';have hcl:cells=(xs++ys).flatten:=o2;subst hcl;have hw2:∀x∈xs++ys,x.length=es:=fun x hx=>by
     rcases JS.1 hx with h|h
     ·exact hw x h
     ·exact hv'.wide x h
    have hlen2:(xs++ys).flatten.length / es=xs.length+ys.length:=by rw[Zw hw2,Vj _ (Vi hes),Jb]
    have hkb:(H.del k) kb=none:=o1.1;have hr:=hkk kb h' (o3 _ _ (Vf _ _ _)) (by
     by_cases e:kb=k
     ·exact .inr e
     ·left;simpa[Bu,e]using hkb) (fun j d hj hjk=>by
     have hdj:(H.del k) j=some d:=by simpa[Bu,hjk]using hj
     have hjb:j≠kb:=fun e=>by subst e;rw[hdj]at hkb;cases hkb
     exact⟨o3 _ _ ((Ve _ _ hjb).trans hdj),hjb⟩)
    simp only[qeY,hlen2];exact hr
def emp:AHeap:=fun _=>none
def one(k:Nat)(b:Blk):AHeap:=fun j=>if j=k then some b else none
theorem one_at(k:Nat)(b:Blk):one k b k=some b:=by simp[one]
theorem qih{k j:Nat}(b:Blk)(h:j≠k):one k b j=none:=by simp[one,h]
theorem qkr{k j:Nat}{b c:Blk}(h:one k b j=some c):j=k/\c=b:=by
 by_cases e:j=k
 ·subst e;rw[one_at]at h;exact⟨rfl,(Option.some.inj h).symm⟩
 ·rw[qih b e]at h;cases h
def disj(p q:AHeap):Prop:=∀k,p k=none\/q k=none
theorem disj.symm{p q:AHeap}(h:disj p q):disj q p:=fun k=>(h k).symm
theorem qlW(p:AHeap):disj p emp:=fun _=> .inr rfl
def Sep(ps:List AHeap)(h:AHeap):Prop:=(∀p∈ps,Sub p h)/\ps.Pairwise disj
section
variable {ps qs:List AHeap} {h h':AHeap}
theorem Sep.perm(hs:Sep ps h)(hp:ps.Perm qs):Sep qs h:=⟨fun p hq=>hs.1 p (hp.mem_iff.2 hq),(hp.pairwise_iff fun h=>disj.symm h).1 hs.2⟩
theorem Sep.forget(hs:Sep ps h)(hh:Sub h h'):Sep ps h':=⟨fun p hp=>(hs.1 p hp).trans hh,hs.2⟩
theorem Sep.sub(hs:Sep ps h)(hp:qs.Sublist ps):Sep qs h:=⟨fun p hq=>hs.1 p (hp.subset hq),hs.2.sublist hp⟩
theorem Sep.in_(hs:Sep ps h){i:Nat}{p:AHeap}(hi:ps[i]?=some p):Sub p h:=hs.1 p (List.mem_of_getElem? hi)
theorem Sep.at_(hs:Sep ps h){i k:Nat}{b:Blk}(hi:ps[i]?=some (one k b)):h k=some b:=hs.in_ hi k b (one_at k b)
theorem Sep.apart(hs:Sep ps h){i j:Nat}{p q:AHeap}(hi:ps[i]?=some p)(hj:ps[j]?=some q)(hij:i≠j):disj p q:=by
 obtain⟨hi1,hi2⟩:=Jw.1 hi;obtain⟨hj1,hj2⟩:=Jw.1 hj;have:=Bv.1 hs.2;rcases Nat.lt_or_gt_of_ne hij with h1|h1
 ·have:=this i j hi1 hj1 h1
  rwa [hi2,hj2]at this
 ·have:=this j i hj1 hi1 h1
  rw[hi2,hj2]at this;exact this.symm
theorem Sep.ne(hs:Sep ps h){i j k l:Nat}{b c:Blk}(hi:ps[i]?=some (one k b))(hj:ps[j]?=some (one l c))(hij:i≠j):k≠l:=fun e=>by
 subst e;rcases hs.apart hi hj hij k with z|z<;>rw[one_at]at z<;>cases z
theorem Sep.not(hs:Sep ps h){i j k:Nat}{b:Blk}{p:AHeap}(hi:ps[i]?=some (one k b))(hj:ps[j]?=some p)(hij:i≠j):p k=none:=by
 rcases hs.apart hi hj hij k with z|z
 ·rw[one_at]at z;cases z
 ·exact z
theorem Sub.off{p h:AHeap}(hs:Sub p h){k:Nat}(hk:p k=Option.none)(b:Blk):Sub p (h.set k b):=fun j c hj=>by
 have e:j≠k:=fun e=>by subst e;rw[hk]at hj;cases hj
 rw[Ve _ _ e];exact hs _ _ hj
theorem Sep.lay(hs:Sep ps h){k:Nat}(hk:h k=none)(b:Blk):Sep (ps++[one k b]) (h.set k b):=by
 have hn:∀p∈ps,p k=none:=fun p hp=>(hs.1 p hp).none hk;refine⟨fun p hp=>?_,?_⟩
 ·rcases JS.1 hp with hp|hp
  ·exact(hs.1 p hp).off (hn p hp) b
  ·rw[V4.1 hp]
   intro j c hj;obtain⟨rfl,rfl⟩:=qkr hj;exact Vf _ _ _
 ·rw[Bz]
  refine⟨hs.2,by simp,fun p hp q hq j=>?_⟩;rw[V4.1 hq];by_cases e:j=k
  ·subst e;exact .inl (hn p hp)
  ·exact .inr (qih b e)
theorem qkn{α:Type}{R:α->α->Prop}(hsym:∀a b,R a b->R b a){l:List α}{i:Nat}{x:α}(hl:l.Pairwise R)(hx:∀j y,j≠i->l[j]?=some y->R x y):(l.set i x).Pairwise R:=by
 rw[Bv]at hl|-
 intro a b ha hb hab;rw[List.length_set]at ha hb;rw[BA,BA];by_cases e1:i=a
 ·subst e1
  rw[if_pos rfl,if_neg (by omega)];exact hx b _ (by omega) (JB hb)
 ·rw[if_neg e1]
  by_cases e2:i=b
  ·subst e2
   rw[if_pos rfl];exact hsym _ _ (hx a _ (by omega) (JB ha))
  ·rw[if_neg e2]
   exact hl a b ha hb hab
theorem Sep.turn(hs:Sep ps h){i:Nat}{p':AHeap}(hp:Sub p' h')(hq:∀j q,j≠i->ps[j]?=some q->Sub q h'/\disj p' q):Sep (ps.set i p') h':=by
 refine⟨fun p hm=>?_,qkn (fun a b=>disj.symm) hs.2 fun j y h1 h2=>(hq j y h1 h2).2⟩;obtain⟨j,hj⟩:=List.mem_iff_getElem?.1 hm;rw[List.getElem?_set]at hj;by_cases e:i=j
 ·rw[if_pos e]at hj
  split at hj
  ·cases hj;exact hp
  ·cases hj
 ·rw[if_neg e]at hj
  exact(hq j p (fun z=>e z.symm) hj).1
theorem Sep.put(hs:Sep ps h){i k:Nat}{b:Blk}(hi:ps[i]?=some (one k b))(b':Blk):Sep (ps.set i (one k b')) (h.set k b'):=
 hs.turn (fun j c hj=>by obtain⟨rfl,rfl⟩:=qkr hj;exact Vf _ _ _) fun j q hj hq=>by
  have hn:=hs.not hi hq (fun e=>hj e.symm);refine⟨(hs.in_ hq).off hn b',fun x=>?_⟩;by_cases e:x=k
  ·subst e;exact .inr hn
  ·exact .inl (qih b' e)
theorem Sep.pick(hs:Sep ps h)(ix:List Nat)(hn:ix.Nodup)(hb:∀i∈ix,i<ps.length):Sep (ix.map fun i=>ps.getD i emp) h:=by
 refine⟨fun p hp=>?_,?_⟩
 ·obtain⟨i,hi,rfl⟩:=JI.1 hp
  refine hs.in_ (i:=i) ?_;rw[Ko,JB (hb i hi)];rfl
 ·rw[List.pairwise_map]
  refine List.Pairwise.imp_of_mem ?_ hn;intro a b ha hb' hab;refine hs.apart (i:=a) (j:=b) ?_ ?_ hab
  ·rw[Ko,JB (hb a ha)];rfl
  ·rw[Ko,JB (hb b hb')];rfl
theorem Sep.emp(hs:Sep ps h):Sep (ps++[AM.emp]) h:=by
 refine⟨fun p hp=>?_,?_⟩
 ·rcases JS.1 hp with hp|hp
  ·exact hs.1 p hp
  ·rw[V4.1 hp];intro j c hj;cases hj
 ·rw[Bz]
  exact⟨hs.2,by simp,fun p _ q hq=>by rw[V4.1 hq];exact qlW p⟩
def qaY:List AHeap->AHeap
 |[]=>AM.emp
 |p::ps=>uni p (qaY ps)
theorem qew{k:Nat}:∀{ps:List AHeap},qaY ps k=none↔∀p∈ps,p k=none
 |[]=>by simp[qaY,AM.emp]
 |p::ps=>by
  simp only[qaY,List.forall_mem_cons];constructor
  ·intro h
   obtain⟨a,b⟩:=qrh h;exact⟨a,qew.1 b⟩
  ·rintro⟨a,b⟩
   rw[qfA a];exact qew.2 b
theorem qri(hp:∀p∈ps,Sub p h):Sub (qaY ps) h:=by
 induction ps with
 |nil=>intro j c hj;cases hj
 |cons p ps ih=>
  intro j c hj;simp only[qaY]at hj;cases e:p j with
  |some d=>rw[qhT e]at hj;cases hj;exact hp p Je j _ e
  |none=>rw[qfA e]at hj;exact ih (fun q hq=>hp q (Jf _ hq)) j c hj
theorem Yb(hd:ps.Pairwise disj):∀p∈ps,Sub p (qaY ps):=by
 induction ps with
 |nil=>intro p hp;cases hp
 |cons q ps ih=>
  obtain⟨h1,h2⟩:=BC.1 hd;intro p hp;rcases KW.1 hp with rfl|hp
  ·exact Sub.uni _ _
  ·intro j c hj
   have hq:q j=none:=(h1 p hp j).resolve_right fun e=>by rw[e]at hj;cases hj
   simp only[qaY];rw[qfA hq];exact ih h2 p hp j c hj
theorem qjN{p:AHeap}:disj p (qaY ps)↔∀q∈ps,disj p q:=by
 constructor
 ·intro h q hq k
  rcases h k with z|z
  ·exact .inl z
  ·exact .inr (qew.1 z q hq)
 ·intro h k
  cases e:p k with
  |none=>exact .inl rfl
  |some b=>exact .inr (qew.2 fun q hq=>(h q hq k).resolve_left fun z=>by rw[e]at z;cases z)
theorem Sep.fold(hs:Sep (ps++qs) h):Sep (qaY ps::qs) h:=by
 have h2:=Bz.1 hs.2;refine⟨fun p hp=>?_,BC.2 ⟨fun q hq=>disj.symm (qjN.2 fun p hp=>(h2.2.2 p hp q hq).symm),h2.2.1⟩⟩;rcases KW.1 hp with rfl|hp
 ·exact qri fun q hq=>hs.1 q (List.mem_append_left _ hq)
 ·exact hs.1 p (List.mem_append_right _ hp)
theorem Sep.unfold(hd:ps.Pairwise disj)(hs:Sep (qaY ps::qs) h):Sep (ps++qs) h:=by
 obtain⟨h1,h2⟩:=BC.1 hs.2;refine⟨fun p hp=>?_,Bz.2 ⟨hd,h2,fun p hp q hq=>((qjN.1 (h1 q hq).symm) p hp).symm⟩⟩;rcases JS.1 hp with hp|hp
 ·exact(Yb hd p hp).trans (hs.1 _ Je)
 ·exact hs.1 p (Jf _ hp)
theorem Sep.left(hs:Sep (ps++qs) h):ps.Pairwise disj:=(Bz.1 hs.2).1
end
theorem BlkOk.trunc{fi:PMap}{cs xs:List AVal}{p:Place}{w:World}(h:BlkOk fi ⟨cs++xs,0⟩ p w):BlkOk fi ⟨cs,0⟩ p w:=by
 rcases h with h|h
 ·obtain⟨c,e,lo,hi,h1,h2,h3,h4,h5,h6⟩:=h.row
  simp only[Jb]at h3 h5;refine .inl ⟨c,e,lo,hi,h1,h2,by simp only;omega,Jq _,?_,h6⟩;have:=qiR cs.length h5;rw[List.take_left,List.take_take,Nat.min_eq_left (by omega)]at this;exact this
 ·have:=h.frz
  simp at this
theorem HRel.trunc{w0 w:World}{fi:PMap}{h:AHeap}(hr:HRel w0 fi h w){k:Nat}{cs xs:List AVal}(hk:h k=some ⟨cs++xs,0⟩):HRel w0 fi (h.set k ⟨cs,0⟩) w:=by
 have ex:∀j b,h.set k ⟨cs,0⟩ j=some b->∃b',h j=some b':=fun j b hj=>by
  by_cases e:j=k
  ·subst e;exact⟨_,hk⟩
  ·rw[Ve _ _ e]at hj;exact⟨b,hj⟩
 refine⟨hr.below,fun j b hj=>?_,fun j j' b b' p p' hb hb'=>?_,hr.lt,hr.fin,hr.typ⟩
 ·by_cases e:j=k
  ·subst e
   rw[Vf]at hj;cases hj;obtain⟨p,h1,h2,h3⟩:=hr.own j _ hk;exact⟨p,h1,h2,h3.trunc⟩
  ·rw[Ve _ _ e]at hj
   exact hr.own j b hj
 ·obtain⟨c,hc⟩:=ex j b hb
  obtain⟨c',hc'⟩:=ex j' b' hb';exact hr.inj j j' c c' p p' hc hc'
theorem Awp.trunc{P:Program}{w0:World}{n:FrameK}{s:Slots}{h:AHeap}{Q:Exit->Slots->AHeap->Prop}{c:Code}{k:Nat}{cs xs:List AVal}(hk:h k=some ⟨cs++xs,0⟩)(hc:Awp P w0 n c Q s (h.set k ⟨cs,0⟩)):Awp P w0 n c Q s h:=
 fun fi a w hr hs=>hc fi a w (hr.trunc hk) hs
def isG:AVal->Bool
 | .slice _ _ _ (.exact _)=>false
 |_=>true
def GrowV(es:Nat)(v:AVal)(p:AHeap)(xs:List (List AVal)):Prop:=
 (v= .nilSlice/\p=emp/\xs=[])\/∃k c,v= .slice (.own k) 0 xs.length c/\(c= .exact xs.length\/c= .grow es)/\p=one k ⟨xs.flatten,0⟩/\(∀x∈xs,x.length=es)/\allLive xs.flatten=true
section
variable {es:Nat} {v:AVal} {p:AHeap} {xs:List (List AVal)}
theorem GrowV.nil:GrowV es .nilSlice emp []:= .inl ⟨rfl,rfl,rfl⟩
theorem GrowV.new{k:Nat}{c:Cap}{n:Nat}(hn:n=xs.length)(hc:c= .exact n\/c= .grow es)(hw:∀x∈xs,x.length=es)(hl:allLive xs.flatten=true){cs:List AVal}(hcs:cs=xs.flatten):GrowV es (.slice (.own k) 0 n c) (one k ⟨cs,0⟩) xs:=by
 subst hn hcs;exact .inr ⟨k,c,rfl,hc,rfl,hw,hl⟩
theorem GrowV.live(h:GrowV es v p xs):v.live=true:=by rcases h with⟨rfl,_⟩|⟨k,c,rfl,_⟩<;>rfl
theorem GrowV.scal(h:GrowV es v p xs):v.scal=true:=by rcases h with⟨rfl,_⟩|⟨k,c,rfl,_⟩<;>rfl
theorem GrowV.cells(h:GrowV es v p xs):v.cells=[v]:=by rcases h with⟨rfl,_⟩|⟨k,c,rfl,_⟩<;>rfl
theorem GrowV.wide(h:GrowV es v p xs):∀x∈xs,x.length=es:=by
 rcases h with⟨_,_,rfl⟩|⟨k,c,_,_,_,hw,_⟩
 ·intro x hx;cases hx
 ·exact hw
theorem GrowV.isL{w0:World}{h:AHeap}(hg:GrowV es v p xs)(hs:Sub p h):IsL w0 h es v xs:=by
 rcases hg with⟨rfl,_,rfl⟩|⟨k,c,rfl,hc,rfl,hw,hl⟩
 ·exact .nil
 ·refine V9 (hs _ _ (one_at k _)) hw rfl hl c ?_
  rcases hc with rfl|rfl
  ·exact KL _
  ·rfl
variable {P:Program} {w0:World} {ops rest:List Oper} {s:Slots} {H:AHeap} {K:Slots->AHeap->Prop} {dst:Option Tmp} {ty:TypeId} {pos:String} {af:Array Edge} {ts:Array TypeId} {t u e:TypeId} {d:TypeDesc} {x y:Operand} {v':AVal} {by' i:Nat} {z:Value} {ys:List (List AVal)} {ps:List AHeap}
theorem Ub(h0:ts[0]?=some t)(h1:ts[1]?=some u)(ht:P.underlying t=some (.slice e))(hu:P.underlying u=some d)(hd:∀k,d≠ .int k)
 (hs:Yu P e=some es) (hb:qeo P e=some by') (hz:qap P e=some z) (hzs:z.cells.size=es) (hes:es≠0)
 (hx:ev s x=v) (hg:GrowV es v p xs) (hi:ps[i]?=some p) (hS:Sep ps H) (hy:ev s y=v') (hv':IsL w0 H es v' ys) (hsc:XR ys.flatten=true) (hne:ys.length≠0)
 (hl:(xs.length+ys.length)*by'<=140737488355328) (hl':xs.length+ys.length<4611686018427387904)
 (hkk:∀u p' H',GrowV es u p' (xs++ys)->isG u=true->Sep (ps.set i p') H'->Xp P w0 ops rest (putD s dst u) H' K):
 Xp P w0 ops (⟨dst, .call ⟨.builtin .append,[x,y].toArray,ts⟩,ty,pos,af,none⟩::rest) s H K:=by
 have hw:∀x∈xs++ys,x.length=es:=fun x hx=>by
  rcases JS.1 hx with h|h
  ·exact hg.wide x h
  ·exact hv'.wide x h
 have hal:allLive (xs++ys).flatten=true:=by rw[Bo,YE,(hg.isL (w0:=w0) (hS.in_ hi)).allLive,hv'.allLive];rfl
 have fin:∀k' H',H' k'=some ⟨(xs++ys).flatten,0⟩->(∀j q,j≠i->ps[j]?=some q->Sub q H'/\q k'=none)->Xp P w0 ops rest (putD s dst (.slice (.own k') 0 (xs.length+ys.length) (.grow es))) H' K:=fun k' H' h1 h2=>by
  refine hkk _ (one k' ⟨(xs++ys).flatten,0⟩) H' (GrowV.new (by rw[Jb]) (.inr rfl) hw hal rfl) rfl (hS.turn (fun j c hj=>by obtain⟨rfl,rfl⟩:=qkr hj;exact h1) fun j q hj hq=>?_);obtain⟨a,b⟩:=h2 j q hj hq;refine⟨a,fun x=>?_⟩;by_cases ex:x=k'
  ·subst ex;exact .inr b
  ·exact .inl (qih _ ex)
 rcases hg with⟨rfl,rfl,rfl⟩|⟨k,c,rfl,hc,rfl,hw1,hl1⟩
 ·refine qbE (v:= .nilSlice) h0 h1 ht hu hd hs hb hz hzs hes hx .nil hy hv' hne hl hl' fun k' hk' _=>?_
  exact fin k' _ (Vf _ _ _) fun j q hj hq=>⟨(hS.in_ hq).off ((hS.in_ hq).none hk') _,(hS.in_ hq).none hk'⟩
 ·refine qiM h0 h1 ht hu hd hs hb hz hzs hes hx hc (hS.at_ hi) hw1 hl1 hy hv' hsc hne hl hl' fun k' H' h1 h2 h3=>?_
  refine fin k' H' h1 fun j q hj hq=>?_;have hqk:=hS.not hi hq (fun e=>hj e.symm);have hsub:=hS.in_ hq;refine⟨fun a b hab=>(h3 a b (hsub _ _ hab) fun e=>by subst e;rw[hqk]at hab;cases hab).1,?_⟩;rcases h2 with z|rfl
  ·exact hsub.none z
  ·exact hqk
end
section
variable {P:Program} {w0:World} {ops rest:List Oper} {s:Slots} {H:AHeap} {K:Slots->AHeap->Prop} {dst:Option Tmp} {ty:TypeId} {pos:String} {af:Array Edge}
theorem qiN{ts:Array TypeId}{t u e:TypeId}{d:TypeDesc}{x y:Operand}{v':AVal}{es by' n c o:Nat}{lc:Loc}{z:Value}
 (h0:ts[0]?=some t) (h1:ts[1]?=some u) (ht:P.underlying t=some (.slice e)) (hu:P.underlying u=some d) (hd:∀k,d≠ .int k)
 (hs:Yu P e=some es) (hb:qeo P e=some by') (hz:qap P e=some z) (hzs:z.cells.size=es) (hes:es≠0)
 (hx:ev s x= .slice lc o n (.exact c)) (hn:n<=c) (hy:ev s y=v') (hv':IsL w0 H es v' [])
 (hk:Xp P w0 ops rest (putD s dst (.slice lc o n (.exact c))) H K):
 Xp P w0 ops (⟨dst, .call ⟨.builtin .append,[x,y].toArray,ts⟩,ty,pos,af,none⟩::rest) s H K:=by
 obtain⟨s1,s2,s3⟩:=hv'.src;rw[qct];simp only[eop,evs,Ke,Vh,hx,hy,qeP,h0,h1,ht,hu,hs,hb,hz,s1];exact⟨hd,⟨hes,hzs⟩,s2,⟨fun _=> .inl ⟨rfl,hk⟩,fun hh=>absurd hh (by simp only[JD];omega)⟩⟩
end
end Go.AM
namespace Go.Proofs.YtgiadjbiimkbiaaDoor
open Go.AM
open Go.Proofs
open Go.Col (Str FaultC okF)
open Go.Tok (TokC)
open Go.Stm
open Go.RowKit (Below)
set_option maxRecDepth 100000
def phC(q:PhrC×AVal):List AVal:=[.str q.1.words,q.2]
def bdC(q:BodC×AVal×AVal):List AVal:=[.str q.1.1,q.2.1,q.2.2]
def qdV(q:StC×AVal×AVal):List AVal:=[.str q.1.verb, .int .i64 q.1.line, .int .i64 q.1.col,q.2.1,q.2.2]
def PhV(w0:World)(h:AHeap)(v:AVal)(l:List PhrC):Prop:=∃qs:List (PhrC×AVal),l=qs.map (·.1)/\IsL w0 h 2 v (qs.map phC)/\∀q∈qs,IsL w0 h 5 q.2 (q.1.toks.map Zh)
def BdV(w0:World)(S:AVal->List StC->Prop)(h:AHeap)(v:AVal)(l:List BodC):Prop:=∃qs:List (BodC×AVal×AVal),l=qs.map (·.1)/\IsL w0 h 3 v (qs.map bdC)/\∀q∈qs,IsL w0 h 5 q.2.1 (q.1.2.1.map Zh)/\S q.2.2 q.1.2.2
def StsV(w0:World):Nat->AHeap->AVal->List StC->Prop
 |0,h,v,l=>l=[]/\IsL w0 h 5 v []
 |d+1,h,v,l=>∃qs:List (StC×AVal×AVal),l=qs.map (·.1)/\IsL w0 h 5 v (qs.map qdV)/\∀q∈qs,PhV w0 h q.2.1 q.1.phrases/\BdV w0 (StsV w0 d h) h q.2.2 q.1.bodies
theorem PhV.mono{w0:World}{h h':AHeap}{v:AVal}{l:List PhrC}(hp:PhV w0 h v l)(hs:Sub h h'):PhV w0 h' v l:=by
 obtain⟨qs,e,a,b⟩:=hp;exact⟨qs,e,a.mono hs,fun q hq=>(b q hq).mono hs⟩
theorem BdV.mono{w0:World}{h h':AHeap}{S S':AVal->List StC->Prop}{v:AVal}{l:List BodC}(hp:BdV w0 S h v l)(hs:Sub h h')(hS:∀v l,S v l->S' v l):BdV w0 S' h' v l:=by
 obtain⟨qs,e,a,b⟩:=hp;exact⟨qs,e,a.mono hs,fun q hq=>⟨(b q hq).1.mono hs,hS _ _ (b q hq).2⟩⟩
theorem StsV.mono{w0:World}{h h':AHeap}(hs:Sub h h'):∀{d:Nat} {v:AVal} {l:List StC},StsV w0 d h v l->StsV w0 d h' v l
 |0,_,_,hp=>⟨hp.1,hp.2.mono hs⟩
 |d+1,_,_,⟨qs,e,a,b⟩=>⟨qs,e,a.mono hs,fun q hq=>⟨(b q hq).1.mono hs,(b q hq).2.mono hs fun _ _=>StsV.mono hs⟩⟩
theorem StsV.isL{w0:World}{h:AHeap}{d:Nat}{v:AVal}{l:List StC}(hp:StsV w0 d h v l):∃qs:List (StC×AVal×AVal),l=qs.map (·.1)/\IsL w0 h 5 v (qs.map qdV):=by
 cases d with
 |zero=>exact⟨[],hp.1,hp.2⟩
 |succ d=>obtain⟨qs,a,b,-⟩:=hp;exact⟨qs,a,b⟩
theorem PhV.live{w0:World}{h:AHeap}{v:AVal}{l:List PhrC}(hp:PhV w0 h v l):v.live=true:=by obtain⟨_,_,a,_⟩:=hp;exact a.live
theorem PhV.scal{w0:World}{h:AHeap}{v:AVal}{l:List PhrC}(hp:PhV w0 h v l):v.scal=true:=by obtain⟨_,_,a,_⟩:=hp;exact a.scal
theorem PhV.cells{w0:World}{h:AHeap}{v:AVal}{l:List PhrC}(hp:PhV w0 h v l):v.cells=[v]:=by obtain⟨_,_,a,_⟩:=hp;exact a.cells
theorem BdV.live{w0:World}{h:AHeap}{S:AVal->List StC->Prop}{v:AVal}{l:List BodC}(hp:BdV w0 S h v l):v.live=true:=by obtain⟨_,_,a,_⟩:=hp;exact a.live
theorem BdV.scal{w0:World}{h:AHeap}{S:AVal->List StC->Prop}{v:AVal}{l:List BodC}(hp:BdV w0 S h v l):v.scal=true:=by obtain⟨_,_,a,_⟩:=hp;exact a.scal
theorem BdV.cells{w0:World}{h:AHeap}{S:AVal->List StC->Prop}{v:AVal}{l:List BodC}(hp:BdV w0 S h v l):v.cells=[v]:=by obtain⟨_,_,a,_⟩:=hp;exact a.cells
theorem qeb{qs:List (PhrC×AVal)}:∀x∈qs.map phC,x.length=2:=fun x hx=>by obtain⟨q,_,rfl⟩:=JI.1 hx;rfl
def qeV:PhrC×AVal:=(⟨[],[]⟩, .nilSlice)
theorem qfF{w0:World}{h:AHeap}{lc:AM.Loc}{o:Nat}{c:Cap}{qs:List (PhrC×AVal)}(ht:IsL w0 h 2 (.slice lc o qs.length c) (qs.map phC)){i:Nat}(hi:i<qs.length):
 rd w0 h lc (o+i*2)= .str (qs.getD i qeV).1.words/\rd w0 h lc (o+i*2+1)=(qs.getD i qeV).2:=by
 have he:=ht.elem (i:=i) (by rw[Jn];exact hi);rw[getD_map qeV hi]at he;simp only[qC,phC,List.cons.injEq,and_true]at he;exact he
theorem qdw{w0:World}{h:AHeap}{v:AVal}{qs:List (PhrC×AVal)}(ht:IsL w0 h 2 v (qs.map phC))(hn:0<qs.length):∃lc o c,v= .slice lc o qs.length c:=by
 obtain⟨lc,o,c,e⟩:=ht.open (fun e=>by rw[Vu]at e;subst e;simp at hn);rw[Jn]at e;exact⟨lc,o,c,e⟩
theorem qie{w0:World}{h:AHeap}{v:AVal}{qs:List (PhrC×AVal)}(ht:IsL w0 h 2 v (qs.map phC)):∀H:AHeap,YZ Tryd.prog H 45 v=⟨True, .int .i64 qs.length⟩:=by
 intro H;have:=ht.len Tryd.underlying45 H
 rwa [Jn]at this
theorem qcS(l:List TokC):XR (l.map Zh).flatten=true:=by
 induction l with
 |nil=>rfl
 |cons t l ih=>rw[Ke,List.flatten_cons];simp only[Zh,Kh,Jd,XR,ih,J4];rfl
theorem qeM:qaD Tryd.prog .eql 31 .nilSlice .nilSlice=⟨True, .bool true⟩:=by simp[qaD,qlz,qgC,qrN,tyK,Tryd.underlying31]
theorem We(l:AM.Loc)(o n:Nat)(c:Cap):qaD Tryd.prog .eql 31 (.slice l o n c) .nilSlice=⟨True, .bool false⟩:=by simp[qaD,qlz,qgC,qrN,tyK,Tryd.underlying31]
theorem qsI(w0:World)(h:AHeap):ACall Tryd.prog w0 26 [.nilSlice] h (fun r h'=>r= .nilSlice/\h'=h):=by
 refine Xf (n:=8) (rs:=[.tmp 2]) Tryd.func26 rfl rfl rfl rfl (Vy rfl) ?_;simp only[Xe];refine awp_rseq [0] (by rfl) fun K hK=>?_;simp+decide only[qh,qi,qj,qo,ev,qZ,qY,putD,Vz,VA,VB,Ka,VC,VD,Kb,and_true,↓qV,qP,qM,ne_eq,not_false_eq_true,qN,qJ,VE,setAt,VF,Kj,qC,VG,Kn,Jp,Nat.reduceAdd,qF,qG,qI,qf,qK,qa,qz,qd,qE,qc,qA,qg,qH,qy,allLive,J4,tokV,qeM];repeat (with_reducible refine And.intro ?_ ?_;· first|trivial|omega|(intro hg;simp only[Ky,JH,Jh,VH,VI,VJ,decide_eq_true_eq,decide_eq_false_iff_not,qR]at hg;omega))
 apply hK;clear hK K;refine Qp ?_;refine awp_rseq [0,4] (by rfl) fun K hK=>?_;simp+decide only[qh,qi,qj,qo,ev,qZ,qY,putD,Vz,VA,VB,Ka,VC,VD,Kb,and_true,↓qW,qU,↓Qj,Qa,qdC,cond_false,qM,ne_eq,not_false_eq_true,qN,qJ,VE,setAt,VF,Kj,qC,VG,Kn,Jp,Nat.reduceAdd,qF,qG,qI,qf,qK,qa,qz,qd,qE,qc,qA,qg,qH,qy,allLive,J4,tokV,qeM];repeat (with_reducible refine And.intro ?_ ?_;· first|trivial|omega|(intro hg;simp only[Ky,JH,Jh,VH,VI,VJ,decide_eq_true_eq,decide_eq_false_iff_not,qR]at hg;omega))
 apply hK;clear hK K;refine Qw (b:=_) rfl (fun hb1=>?_) (fun hb1=>?_)
 ·try simp only[decide_eq_true_eq,decide_eq_false_iff_not,Jh,VJ,Ky,VH,JH,VI,VV,VW,reduceCtorEq]at hb1
  refine awp_rseq [2] (by rfl) fun K hK=>?_;simp+decide only[qh,qi,qj,qo,ev,qZ,qY,putD,Vz,VA,VB,Ka,VC,VD,Kb,and_true,↓qV,qP,qM,ne_eq,not_false_eq_true,qN,qJ,VE,setAt,VF,Kj,qC,VG,Kn,Jp,Nat.reduceAdd,qF,qG,qI,qf,qK,qa,qz,qd,qE,qc,qA,qg,qH,qy,allLive,J4,tokV,qeM];repeat (with_reducible refine And.intro ?_ ?_;· first|trivial|omega|(intro hg;simp only[Ky,JH,Jh,VH,VI,VJ,decide_eq_true_eq,decide_eq_false_iff_not,qR]at hg;omega))
  apply hK;clear hK K;refine Xd ?_;try simp only[QF,Qn]
  refine XV h zqC (Qr (Qv)) ?_;simp+decide only[qh,qi,qj,qo,ev,qZ,qY,putD,Vz,VA,VB,Ka,VC,VD,Kb,and_true,QU,qM,ne_eq,not_false_eq_true,qN,qJ,VE,setAt,VF,Kj,qC,VG,Kn,Jp,Nat.reduceAdd,qF,qG,qI,qf,qK,qa,qz,qd,qE,qc,qA,qg,qH,qy,allLive,J4,tokV,qeM];all_goals first|rfl|exact⟨rfl,rfl⟩|(simp+decide only[Ka, *];done)|(trace_state;fail)
 ·cases hb1
theorem qsH(w0:World)(h:AHeap)(lc:AM.Loc)(o n:Nat)(c:Cap)(hv:IsL w0 h 5 (.slice lc o n c) []):ACall Tryd.prog w0 26 [.slice lc o n c] h (fun r h'=>IsL w0 h' 5 r []/\Sub h h'):=by
 refine Xf (n:=8) (rs:=[.tmp 2]) Tryd.func26 rfl rfl rfl rfl (Vy rfl) ?_;simp only[Xe];refine awp_rseq [0] (by rfl) fun K hK=>?_;simp+decide only[qh,qi,qj,qo,ev,qZ,qY,putD,Vz,VA,VB,Ka,VC,VD,Kb,and_true,↓qV,qP,qM,ne_eq,not_false_eq_true,qN,qJ,VE,setAt,VF,Kj,qC,VG,Kn,Jp,Nat.reduceAdd,qF,qG,qI,qf,qK,qa,qz,qd,qE,qc,qA,qg,qH,qy,allLive,J4,tokV,We];repeat (with_reducible refine And.intro ?_ ?_;· first|trivial|omega|(intro hg;simp only[Ky,JH,Jh,VH,VI,VJ,decide_eq_true_eq,decide_eq_false_iff_not,qR]at hg;omega))
 apply hK;clear hK K;refine Qp ?_;refine awp_rseq [0,4] (by rfl) fun K hK=>?_;simp+decide only[qh,qi,qj,qo,ev,qZ,qY,putD,Vz,VA,VB,Ka,VC,VD,Kb,and_true,↓qW,qU,↓Qj,Qa,qdC,cond_false,qM,ne_eq,not_false_eq_true,qN,qJ,VE,setAt,VF,Kj,qC,VG,Kn,Jp,Nat.reduceAdd,qF,qG,qI,qf,qK,qa,qz,qd,qE,qc,qA,qg,qH,qy,allLive,J4,tokV,We];repeat (with_reducible refine And.intro ?_ ?_;· first|trivial|omega|(intro hg;simp only[Ky,JH,Jh,VH,VI,VJ,decide_eq_true_eq,decide_eq_false_iff_not,qR]at hg;omega))
 apply hK;clear hK K;refine Qw (b:=_) rfl (fun hb1=>?_) (fun hb1=>?_)
 ·cases hb1
 ·try simp only[decide_eq_true_eq,decide_eq_false_iff_not,Jh,VJ,Ky,VH,JH,VI,VV,VW,reduceCtorEq]at hb1
  refine QJ ?_;change Awp _ _ _ _ _ _ _;refine awp_rseq [2] (by rfl) fun K hK=>?_;refine QS (cs:=[]) (by kernel_rfl) fun k3q0 hk3q0=>?_;try have hf_3q0:h k3q0=none:=by first|assumption|(simp only[V7]at hk3q0;simp only[hk3q0])
  simp+decide only[qh,qi,qj,qo,ev,qZ,qY,putD,Vz,VA,VB,Ka,VC,VD,Kb,and_true,↓qW,qU,qM,ne_eq,not_false_eq_true,qN,qJ,VE,setAt,VF,Kj,qC,VG,Kn,Jp,Nat.reduceAdd,qF,qG,qI,qf,qK,qa,qz,qd,qE,qc,qA,qg,qH,qy,allLive,J4,tokV,We];repeat (with_reducible refine And.intro ?_ ?_;· first|trivial|omega|(intro hg;simp only[Ky,JH,Jh,VH,VI,VJ,decide_eq_true_eq,decide_eq_false_iff_not,qR]at hg;omega))
  refine qiN (by rfl) (by rfl) Tryd.underlying31 Tryd.underlying31 (fun k e=>by cases e) Yv qgg qdT (by rfl) (by decide) (by rfl) (KL _) (by rfl) (hv.mono zqB) ?_;simp+decide only[qh,qi,qj,qo,ev,qZ,qY,putD,Vz,VA,VB,Ka,VC,VD,Kb,and_true,↓qV,qP,qM,ne_eq,not_false_eq_true,qN,qJ,VE,setAt,VF,Kj,qC,VG,Kn,Jp,Nat.reduceAdd,qF,qG,qI,qf,qK,qa,qz,qd,qE,qc,qA,qg,qH,qy,allLive,J4,tokV,We];repeat (with_reducible refine And.intro ?_ ?_;· first|trivial|omega|(intro hg;simp only[Ky,JH,Jh,VH,VI,VJ,decide_eq_true_eq,decide_eq_false_iff_not,qR]at hg;omega))
  apply hK;clear hK K;refine Xd ?_;try simp only[QF,Qn]
  refine XV h zqC (Qr (Qv)) ?_;simp+decide only[qh,qi,qj,qo,ev,qZ,qY,putD,Vz,VA,VB,Ka,VC,VD,Kb,and_true,QU,qM,ne_eq,not_false_eq_true,qN,qJ,VE,setAt,VF,Kj,qC,VG,Kn,Jp,Nat.reduceAdd,qF,qG,qI,qf,qK,qa,qz,qd,qE,qc,qA,qg,qH,qy,allLive,J4,tokV,We];exact⟨.mk _ _ _ _ _ rfl (fun x hx=>by cases hx) rfl rfl (KL _),zqB⟩
theorem qsG(w0:World)(h:AHeap)(lc:AM.Loc)(o n:Nat)(c:Cap)(l:List TokC)(hv:IsL w0 h 5 (.slice lc o n c) (l.map Zh))(hn:l≠[])(hl:l.length<=1000000):ACall Tryd.prog w0 26 [.slice lc o n c] h (fun r h'=>IsL w0 h' 5 r (l.map Zh)/\Sub h h'):=by
 have hn2:=V5.2 hn;refine Xf (n:=8) (rs:=[.tmp 2]) Tryd.func26 rfl rfl rfl rfl (Vy rfl) ?_;simp only[Xe];refine awp_rseq [0] (by rfl) fun K hK=>?_;simp+decide only[qh,qi,qj,qo,ev,qZ,qY,putD,Vz,VA,VB,Ka,VC,VD,Kb,and_true,↓qV,qP,qM,ne_eq,not_false_eq_true,qN,qJ,VE,setAt,VF,Kj,qC,VG,Kn,Jp,Nat.reduceAdd,qF,qG,qI,qf,qK,qa,qz,qd,qE,qc,qA,qg,qH,qy,allLive,J4,tokV,We];repeat (with_reducible refine And.intro ?_ ?_;· first|trivial|omega|(intro hg;simp only[Ky,JH,Jh,VH,VI,VJ,decide_eq_true_eq,decide_eq_false_iff_not,qR]at hg;omega))
 apply hK;clear hK K;refine Qp ?_;refine awp_rseq [0,4] (by rfl) fun K hK=>?_;simp+decide only[qh,qi,qj,qo,ev,qZ,qY,putD,Vz,VA,VB,Ka,VC,VD,Kb,and_true,↓qW,qU,↓Qj,Qa,qdC,cond_false,qM,ne_eq,not_false_eq_true,qN,qJ,VE,setAt,VF,Kj,qC,VG,Kn,Jp,Nat.reduceAdd,qF,qG,qI,qf,qK,qa,qz,qd,qE,qc,qA,qg,qH,qy,allLive,J4,tokV,We];repeat (with_reducible refine And.intro ?_ ?_;· first|trivial|omega|(intro hg;simp only[Ky,JH,Jh,VH,VI,VJ,decide_eq_true_eq,decide_eq_false_iff_not,qR]at hg;omega))
 apply hK;clear hK K;refine Qw (b:=_) rfl (fun hb1=>?_) (fun hb1=>?_)
 ·cases hb1
 ·try simp only[decide_eq_true_eq,decide_eq_false_iff_not,Jh,VJ,Ky,VH,JH,VI,VV,VW,reduceCtorEq]at hb1
  refine QJ ?_;change Awp _ _ _ _ _ _ _;refine awp_rseq [2] (by rfl) fun K hK=>?_;refine QS (cs:=[]) (by kernel_rfl) fun k3q0 hk3q0=>?_;try have hf_3q0:h k3q0=none:=by first|assumption|(simp only[V7]at hk3q0;simp only[hk3q0])
  simp+decide only[qh,qi,qj,qo,ev,qZ,qY,putD,Vz,VA,VB,Ka,VC,VD,Kb,and_true,↓qW,qU,qM,ne_eq,not_false_eq_true,qN,qJ,VE,setAt,VF,Kj,qC,VG,Kn,Jp,Nat.reduceAdd,qF,qG,qI,qf,qK,qa,qz,qd,qE,qc,qA,qg,qH,qy,allLive,J4,tokV,We];repeat (with_reducible refine And.intro ?_ ?_;· first|trivial|omega|(intro hg;simp only[Ky,JH,Jh,VH,VI,VJ,decide_eq_true_eq,decide_eq_false_iff_not,qR]at hg;omega))
  refine qbE (v:= .slice (.own k3q0) 0 0 (.exact 0)) (xs:=[]) (ys:=l.map Zh) (by rfl) (by rfl) Tryd.underlying31 Tryd.underlying31 (fun k e=>by cases e) Yv qgg qdT (by rfl) (by decide) (by rfl) (.mk _ _ _ _ _ rfl (fun x hx=>by cases hx) rfl rfl (KL _)) (by rfl) (hv.mono zqB) (by rw[Jn];omega) (by rw[Jn];simp only[JD];omega) (by rw[Jn];simp only[JD];omega) fun k3q2 hk3q2 hv32=>?_;simp+decide only[qh,qi,qj,qo,ev,qZ,qY,putD,Vz,VA,VB,Ka,VC,VD,Kb,and_true,↓qV,qP,qM,ne_eq,not_false_eq_true,qN,qJ,VE,setAt,VF,Kj,qC,VG,Kn,Jp,Nat.reduceAdd,qF,qG,qI,qf,qK,qa,qz,qd,qE,qc,qA,qg,qH,qy,allLive,J4,tokV,We];repeat (with_reducible refine And.intro ?_ ?_;· first|trivial|omega|(intro hg;simp only[Ky,JH,Jh,VH,VI,VJ,decide_eq_true_eq,decide_eq_false_iff_not,qR]at hg;omega))
  apply hK;clear hK K;refine Xd ?_;try simp only[QF,Qn]
  refine Xu (Qr (Qv)) ?_;simp+decide only[qh,qi,qj,qo,ev,qZ,qY,putD,Vz,VA,VB,Ka,VC,VD,Kb,and_true,QU,qM,ne_eq,not_false_eq_true,qN,qJ,VE,setAt,VF,Kj,qC,VG,Kn,Jp,Nat.reduceAdd,qF,qG,qI,qf,qK,qa,qz,qd,qE,qc,qA,qg,qH,qy,allLive,J4,tokV,We];exact⟨_,Vg _,hv32,(V8 hk3q0).trans (V8 hk3q2)⟩
theorem qpT(w0:World)(h:AHeap)(v:AVal)(l:List TokC)(hv:IsL w0 h 5 v (l.map Zh))(hl:l.length<=1000000):ACall Tryd.prog w0 26 [v] h (fun r h'=>IsL w0 h' 5 r (l.map Zh)/\Sub h h'):=by
 by_cases hn:l=[]
 ·subst hn
  cases hv with
  |nil=>exact(qsI w0 h).mono fun r h' ⟨a,b⟩=>by subst a b;exact⟨.nil,Vg _⟩
  |mk lc o n c _ a b d e f=>exact qsH w0 h lc o n c (.mk lc o n c _ a b d e f)
 ·cases v<;>first
  |exact qsG w0 h _ _ _ _ l hv hn hl
  |(exfalso;obtain⟨lc,o,c,e⟩:=YA hv (V5.2 hn);cases e)
structure FnG where
 j:Nat
 H:AHeap
set_option maxHeartbeats 1000000 in
theorem qsD(w0:World)(h:AHeap)(vb w:Str)(ln cl:Int)(pv bv:AVal)(l:List PhrC)(hp:PhV w0 h pv l)(hbl:bv.live=true)(hbs:bv.scal=true)(hbc:bv.cells=[bv])(hl:l.length<=1000000)(ht:∀p∈l,p.toks.length<=1000000):
 ACall Tryd.prog w0 93 [.agg [.str vb, .int .i64 ln, .int .i64 cl,pv,bv], .str w] h (fun r h'=>Sub h h'/\∃rv,r= .tuple [Yd rv, .bool (qhp l w).isSome]/\IsL w0 h' 5 rv (((qhp l w).getD []).map Zh)):=by
 have hpl:=hp.live;have hps:=hp.scal;have hpc:=hp.cells;obtain⟨qs,rfl,hq,hqt⟩:=hp;rw[Jn]at hl;have hql:∀q∈qs,q.2.live=true:=fun q hqm=>(hqt q hqm).live;have nq:=qie hq;have hF:qhp (qs.map (·.1)) w=((qs.map (·.1)).find? fun p=>decide (p.words=w)).map (·.toks):=rfl;obtain⟨F,hFF⟩:∃F,F=qhp (qs.map (·.1)) w:=⟨_,rfl⟩
 rw[<-hFF]at hF|-
 refine Xf (n:=24) (rs:=[.tmp 4, .tmp 5]) Tryd.func93 rfl rfl rfl rfl (Vy rfl) ?_;simp only[Xe];refine awp_rseq [1,2] (by rfl) fun K hK=>?_;refine qcu (by rfl) (by rfl) (by rfl) fun k0q0 hk0q0=>?_;try have hf_0q0:h k0q0=none:=by first|assumption|(simp only[V7]at hk0q0;simp only[hk0q0])
 skip;simp+decide only[qh,qi,qj,qo,ev,qZ,qY,putD,Vz,VA,VB,Ka,VC,VD,Kb,and_true,↓qV,qP,qM,ne_eq,not_false_eq_true,qN,qJ,VE,setAt,VF,Kj,qC,VG,Kn,Jp,Nat.reduceAdd,qF,qG,qI,qf,qK,qa,qz,qd,qE,qc,qA,qg,qH,qy,allLive,J4,tokV,hpl,hbl,nq];repeat (with_reducible refine And.intro ?_ ?_;· first|trivial|omega|(intro hg;simp only[Ky,JH,Jh,VH,VI,VJ,decide_eq_true_eq,decide_eq_false_iff_not,qR]at hg;omega))
 apply hK;clear hK K;refine Qp ?_;refine awp_rseq [1,9,10,11] (by rfl) fun K hK=>?_;simp+decide only[qh,qi,qj,qo,ev,qZ,qY,putD,Vz,VA,VB,Ka,VC,VD,Kb,and_true,↓Qo,Qd,UJ,↓Qu,QM,Qi qfv,↓XG,Xh,QE Tryd.underlying45,QT Tryd.underlying45,↓qW,qU,qM,ne_eq,not_false_eq_true,qN,qJ,VE,setAt,VF,Kj,qC,VG,Kn,Jp,Nat.reduceAdd,qF,qG,qI,qf,qK,qa,qz,qd,qE,qc,qA,qg,qH,qy,allLive,J4,tokV,hpl,hbl,nq];repeat (with_reducible refine And.intro ?_ ?_;· first|trivial|omega|(intro hg;simp only[Ky,JH,Jh,VH,VI,VJ,decide_eq_true_eq,decide_eq_false_iff_not,qR]at hg;omega))
 apply hK;clear hK K;refine QL ?_;refine XI [1,9,10,11] (fun g:FnG=>[(1, .str w),(9,pv),(10, .int .i64 qs.length),(11, .int .i64 g.j)]) (fun g:FnG=>g.H) (fun g:FnG=>Sub h g.H/\g.j<=qs.length/\F=(((qs.drop g.j).map (·.1)).find? fun p=>decide (p.words=w)).map (·.toks)) (fun g:FnG=>qs.length-g.j) ⟨0,_⟩ (by rfl) (Vg _) ⟨zqB,Jq _,hF⟩ ?_;rintro⟨j,H⟩ ⟨hs_H,hj,hg⟩;simp only at hs_H hj hg|-
 refine awp_rseq [1,9,10,11,12] (by rfl) fun K hK=>?_;simp+decide only[qh,qi,qj,qo,ev,qZ,qY,putD,Vz,VA,VB,Ka,VC,VD,Kb,and_true,↓Qj,Qa,Qz,cond_false,Qh,Zo,qM,ne_eq,not_false_eq_true,qN,qJ,VE,setAt,VF,Kj,qC,VG,Kn,Jp,Nat.reduceAdd,qF,qG,qI,qf,qK,qa,qz,qd,qE,qc,qA,qg,qH,qy,allLive,J4,tokV,hpl,hbl,nq];repeat (with_reducible refine And.intro ?_ ?_;· first|trivial|omega|(intro hg;simp only[Ky,JH,Jh,VH,VI,VJ,decide_eq_true_eq,decide_eq_false_iff_not,qR]at hg;omega))
 apply hK;clear hK K;refine Qp (Qw (b:=_) rfl (fun hb1=>?_) (fun hb1=>?_))
 ·try simp only[decide_eq_true_eq,decide_eq_false_iff_not,Jh,VJ,Ky,VH,JH,VI,VV,VW,reduceCtorEq]at hb1
  have hj':j<qs.length:=by omega
  obtain⟨q,hqe⟩:∃q,q=qs.getD j qeV:=⟨_,rfl⟩
  have hqm:q∈qs:=by rw[hqe,Ko,JB hj'];exact Vr hj'
  obtain⟨lc,o,c,hpe⟩:=qdw hq (by omega);have hq2:=hq.mono hs_H;rw[hpe]at hq2;obtain⟨e0,e1⟩:=qfF hq2 hj';rw[<-hqe]at e0 e1;have hql1:=hql q hqm;have hqt1:=hqt q hqm;have hqs1:=hqt1.scal;have hqc1:=hqt1.cells;obtain⟨⟨qw,qt⟩,qv⟩:=q;simp only at e0 e1 hql1 hqt1 hqs1 hqc1;have hst:F=if qw=w then some qt else(((qs.drop (j+1)).map (·.1)).find? fun p=>decide (p.words=w)).map (·.toks):=by
   rw[hg,J9 hj',Ke,Bp];have:qs[j]=(⟨qw,qt⟩,qv):=by rw[hqe,Ko,JB hj'];rfl
   rw[this];by_cases z:qw=w
   ·simp[z]
   ·simp[z]
  have hqtl:qt.length<=1000000:=ht _ (List.mem_map_of_mem (f:=(·.1)) hqm);have hwj:IntKind.i64.wrap ((j:Int)+1)=((j+1:Nat):Int):=by rw[wrap_i64 (by omega) (by omega)];omega
  refine QJ ?_;change Awp _ _ _ _ _ _ _;refine Qp ?_;refine QL ?_;refine awp_rseq [1,7,9,10,11] (by rfl) fun K hK=>?_;simp+decide only[qh,qi,qj,qo,ev,qZ,qY,putD,Vz,VA,VB,Ka,VC,VD,Kb,and_true,↓QV,QM,Ql Tryd.underlying45 qbn,↓Qu,Xy ag44 qbn,qM,ne_eq,not_false_eq_true,qN,qJ,VE,setAt,VF,Kj,qC,VG,Kn,Jp,Nat.reduceAdd,qF,qG,qI,qf,qK,qa,qz,qd,qE,qc,qA,qg,qH,qy,allLive,J4,tokV,hpl,hbl,nq,hpe,e0,e1,hql1,VO,VX,K6];repeat (with_reducible refine And.intro ?_ ?_;· first|trivial|omega|(intro hg;simp only[Ky,JH,Jh,VH,VI,VJ,decide_eq_true_eq,decide_eq_false_iff_not,qR]at hg;omega))
  refine XL qrc (cs:=[.str [], .nilSlice]) (by rfl) fun k3q2 hk3q2=>?_;have hn_3q2:H k3q2=none:=by first|assumption|(simp only[V7]at hk3q2;simp only[hk3q2])
  have hf_3q2:h k3q2=none:=Bh hs_H hn_3q2;refine QR (by rfl) (by rfl) zqA qbn (by rfl) (by rfl) zqD (Jq _) (by first|rfl|(simp+decide only[ev,putD,Vz,VA,Ka,VE,XR,J4,VO,hqs1,qaa,UZ,WH])) ?_;simp only[Bi,setAt,VE,VF,Kj,Jp,Nat.reduceAdd];simp+decide only[qh,qi,qj,qo,ev,qZ,qY,putD,Vz,VA,VB,Ka,VC,VD,Kb,and_true,qM,ne_eq,not_false_eq_true,qN,qJ,VE,setAt,VF,Kj,qC,VG,Kn,Jp,Nat.reduceAdd,qF,qG,qI,qf,qK,qa,qz,qd,qE,qc,qA,qg,qH,qy,allLive,J4,tokV,hpl,hbl,nq,hpe,e0,e1,hql1,VO,VX,K6];repeat (with_reducible refine And.intro ?_ ?_;· first|trivial|omega|(intro hg;simp only[Ky,JH,Jh,VH,VI,VJ,decide_eq_true_eq,decide_eq_false_iff_not,qR]at hg;omega))
  apply hK;clear hK K;refine awp_rseq [1,7,9,10,11,18] (by rfl) fun K hK=>?_;simp+decide only[qh,qi,qj,qo,ev,qZ,qY,putD,Vz,VA,VB,Ka,VC,VD,Kb,and_true,↓Qo,Qd,qkB,↓Qu,QM,Qi ag9,↓qW,qU,↓Qj,Qa,Qz,cond_false,XC,Wv,qM,ne_eq,not_false_eq_true,qN,qJ,VE,setAt,VF,Kj,qC,VG,Kn,Jp,Nat.reduceAdd,qF,qG,qI,qf,qK,qa,qz,qd,qE,qc,qA,qg,qH,qy,allLive,J4,tokV,hpl,hbl,nq,VX];repeat (with_reducible refine And.intro ?_ ?_;· first|trivial|omega|(intro hg;simp only[Ky,JH,Jh,VH,VI,VJ,decide_eq_true_eq,decide_eq_false_iff_not,qR]at hg;omega))
  apply hK;clear hK K;refine Qw (b:=_) rfl (fun hb2=>?_) (fun hb2=>?_)
  ·try simp only[decide_eq_true_eq,decide_eq_false_iff_not,Jh,VJ,Ky,VH,JH,VI,VV,VW,reduceCtorEq]at hb2
   rw[if_pos hb2]at hst;refine awp_rseq [4,5] (by rfl) fun K hK=>?_;simp+decide only[qh,qi,qj,qo,ev,qZ,qY,putD,Vz,VA,VB,Ka,VC,VD,Kb,and_true,↓Qo,Qd,qcJ,↓Qu,QM,Qi qbR,qM,ne_eq,not_false_eq_true,qN,qJ,VE,setAt,VF,Kj,qC,VG,Kn,Jp,Nat.reduceAdd,qF,qG,qI,qf,qK,qa,qz,qd,qE,qc,qA,qg,qH,qy,allLive,J4,tokV,hpl,hbl,nq];repeat (with_reducible refine And.intro ?_ ?_;· first|trivial|omega|(intro hg;simp only[Ky,JH,Jh,VH,VI,VJ,decide_eq_true_eq,decide_eq_false_iff_not,qR]at hg;omega))
   refine QN (by rfl) (by rfl) (qpT w0 _ qv qt (hqt1.mono zqB) hqtl) fun x5q2 h5q2 hx5q2=>?_;obtain⟨hv5,hs5⟩:=hx5q2;have hs_h5q2:Sub h h5q2:=Bq zqC hs5;have hr_h5q2:Sub H h5q2:=Bq zqC hs5;have eb_3q2:=hs5 k3q2 _ zqA;refine XD (V:=Yd x5q2) (by rfl) (by rfl) (qgf w0 _ x5q2 _ hv5) ?_;simp+decide only[qh,qi,qj,qo,ev,qZ,qY,putD,Vz,VA,VB,Ka,VC,VD,Kb,and_true,↓qV,qP,qM,ne_eq,not_false_eq_true,qO w0 eb_3q2,qN,qJ,VE,setAt,VF,Kj,qC,VG,Kn,Jp,Nat.reduceAdd,qF,qG,qI,qf,qK,qa,qz,qd,qE,qc,qA,qg,qH,qy,allLive,J4,tokV,hpl,hbl,nq];repeat (with_reducible refine And.intro ?_ ?_;· first|trivial|omega|(intro hg;simp only[Ky,JH,Jh,VH,VI,VJ,decide_eq_true_eq,decide_eq_false_iff_not,qR]at hg;omega))
   apply hK;clear hK K;refine Xd ?_;try simp only[QF,Qn]
   refine Xu (Qr (Qr (Qv))) ?_;simp+decide only[qh,qi,qj,qo,ev,qZ,qY,putD,Vz,VA,VB,Ka,VC,VD,Kb,and_true,Yi,qM,ne_eq,not_false_eq_true,qO w0 eb_3q2,qN,qJ,VE,setAt,VF,Kj,qC,VG,Kn,Jp,Nat.reduceAdd,qF,qG,qI,qf,qK,qa,qz,qd,qE,qc,qA,qg,qH,qy,allLive,J4,tokV,hpl,hbl,nq];rw[hst];exact⟨_,Vg _,zqB,_,rfl,hv5⟩
  ·try simp only[decide_eq_true_eq,decide_eq_false_iff_not,Jh,VJ,Ky,VH,JH,VI,VV,VW,reduceCtorEq]at hb2
   rw[if_neg hb2]at hst;refine QJ ?_;change Awp _ _ _ _ _ _ _;refine XZ [1,9,10,11] (by rfl) ?_;simp+decide only[qh,qi,qj,qo,ev,qZ,qY,putD,Vz,VA,VB,Ka,VC,VD,Kb,and_true,↓Qj,Qa,Qm,cond_false,Qh,XM,↓qW,qU,qM,ne_eq,not_false_eq_true,qN,qJ,VE,setAt,VF,Kj,qC,VG,Kn,Jp,Nat.reduceAdd,qF,qG,qI,qf,qK,qa,qz,qd,qE,qc,qA,qg,qH,qy,allLive,J4,tokV,hpl,hbl,nq,hwj];try simp(disch:=omega)only[wrap_i64,wrap_u8]
   repeat (with_reducible refine And.intro ?_ ?_;· first|trivial|omega|(intro hg;simp only[Ky,JH,Jh,VH,VI,VJ,decide_eq_true_eq,decide_eq_false_iff_not,qR]at hg;omega))
   try simp only[QK,Qt]
   exact⟨⟨j+1,_⟩,by rw[hpe];rfl,Vg _,⟨zqB,hj',hst⟩,by simp only;omega⟩
 ·try simp only[decide_eq_true_eq,decide_eq_false_iff_not,Jh,VJ,Ky,VH,JH,VI,VV,VW,reduceCtorEq]at hb1
  have hst:F=none:=by rw[hg,Bl (by omega)];rfl
  refine XJ ?_;change Awp _ _ _ _ _ _ _;refine awp_rseq [4,5] (by rfl) fun K hK=>?_;simp+decide only[qh,qi,qj,qo,ev,qZ,qY,putD,Vz,VA,VB,Ka,VC,VD,Kb,and_true,↓qV,qP,qM,ne_eq,not_false_eq_true,qN,qJ,VE,setAt,VF,Kj,qC,VG,Kn,Jp,Nat.reduceAdd,qF,qG,qI,qf,qK,qa,qz,qd,qE,qc,qA,qg,qH,qy,allLive,J4,tokV,hpl,hbl,nq];repeat (with_reducible refine And.intro ?_ ?_;· first|trivial|omega|(intro hg;simp only[Ky,JH,Jh,VH,VI,VJ,decide_eq_true_eq,decide_eq_false_iff_not,qR]at hg;omega))
  apply hK;clear hK K;refine Xd ?_;try simp only[QF,Qn]
  refine Xu (Qr (Qr (Qv))) ?_;simp+decide only[qh,qi,qj,qo,ev,qZ,qY,putD,Vz,VA,VB,Ka,VC,VD,Kb,and_true,Yi,qM,ne_eq,not_false_eq_true,qN,qJ,VE,setAt,VF,Kj,qC,VG,Kn,Jp,Nat.reduceAdd,qF,qG,qI,qf,qK,qa,qz,qd,qE,qc,qA,qg,qH,qy,allLive,J4,tokV,hpl,hbl,nq];rw[hst];exact⟨H,Vg _,hs_H, .nilSlice,rfl, .nil⟩
end Go.Proofs.YtgiadjbiimkbiaaDoor
