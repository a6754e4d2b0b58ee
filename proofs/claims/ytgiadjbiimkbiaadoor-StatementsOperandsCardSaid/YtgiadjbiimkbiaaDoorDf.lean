/-
  Texts of this proof, joined: SqF, SqG, SpF, SpG, SrA, SrD, SrE, LwR, LwS, LwK, LwX, LwI.
  Conditions: none.
-/
import Derived.Test.YtgiadjbiimkbiaaDoorDe
import Derived.Test.YtgiadjbiimkbiaaDoorDc
import Derived.Test.YtgiadjbiimkbiaaDoorDd
import Derived.Test.YtgiadjbiimkbiaaDoorProg
import Derived.Test.YtgiadjbiimkbiaaDoorDb
import Derived.WalkKit
import Derived.ProofKit
import Derived.OpenShut
import Derived.ShutString
import Derived.ChangeOld
import Derived.Below
import Derived.Deep.Strs
import Derived.Handed
import Derived.HandedShaped
import Derived.Shelf.Vars
import Derived.Test.YtgiadjbiimkbiaaDoorRows
import Derived.Lib.LaidTab
import Derived.MakeChecks
set_option linter.unusedSimpArgs false
set_option linter.unnecessarySimpa false
set_option linter.unusedVariables false
open Bool renaming and_eq_true->Ky,not_false->VL,not_true->VM,and_true->J4,and_false->VN,true_and->VO,false_and->VP,or_true->VQ,or_false->VS,true_or->VT,false_or->VU,or_eq_true->JH,not_eq_true'->Jh,and_eq_false_iff->VH,or_eq_false_iff->VI,not_eq_false'->VJ,not_not->VK,true_eq->VV,false_eq->VW
open List renaming all_eq_true->Jz,contains_cons->VC,contains_nil->VD,set_cons_zero->VF,set_cons_succ->Kj,getD_cons_zero->VG,getD_cons_succ->Kn,length_cons->KX,length_nil->JD,cons_append->Kh,nil_append->Jd,mem_range->JA,drop_zero->Vk,map_cons->Ke,map_nil->Vh,length_pos_iff->V5,mem_singleton->V4,length_map->Jn,mem_map->JI,length_drop->K5,length_take->K4,length_singleton->JF,map_append->VZ,length_append->Jb,mem_append->JS,eq_nil_of_length_eq_zero->Kg,append_assoc->K9,mem_cons_self->Je,mem_cons_of_mem->Jf,append_nil->JE,length->Ej,getElem?_eq_getElem->JB,getD->Ko,getElem_mem->Vr,getElem?_eq_none->Kr,map_eq_nil_iff->Vu,getElem?_map->Vv,filterMap_cons->Vt,filterMap_nil->Eo,getElem?_cons_zero->Kz,getElem?_cons_succ->KM
open Nat renaming le_of_ble_eq_true->Vy,zero_add->Jp,zero_le->Jq,mul_one->V6,le_refl->KL,zero_mul->K7,add_zero->K6,lt_succ_of_lt->El,le_trans->Vb,mul_comm->Ep,not_lt_zero->Er
open Go.AM.Slots renaming put->Vz,get->VA,keep->VB
open Go.AM.AVal renaming cells->VE
open Go.AM.Sub renaming trans->Bq,none->Bh,refl->Vg,set->V8
open Go.AM.AHeap renaming set_none->V7,set_set->Bi,ne_some->BF,set_same->Vf
open Int renaming toNat_natCast->VX,toNat_zero->Bt,tmod_eq_emod_of_nonneg->Em,natCast_emod->En
open Option renaming map_some->KI
open UInt8 renaming ofNat->KD
namespace Go.Stm
open Go.Col (Str FaultC okF)
open Go.Tok
def qiG:Nat->List StC->Bool
 |0,l=>decide (l.length<=1000000)
 |m+1,l=>decide (l.length<=1000000) && l.all fun s=>decide (s.verb.length<=1000000) && (decide (s.bodies.length<=1000000) && (decide (s.phrases.length<=1000000) && ((s.phrases.all fun p=>decide (p.words.length<=1000000) && (decide (p.toks.length<=1000000) && p.toks.all fun t=>decide (t.text.length<=1000000))) &&
  s.bodies.all fun b=>decide (b.1.length<=1000000) && (decide (b.2.1.length<=1000000) && ((b.2.1.all fun t=>decide (t.text.length<=1000000)) && qiG m b.2.2)))))
def qha(s:Str)(n:Nat)(want:Str):Bool:=match qaZ Xa (Za s) Zp 300 with
 |some (.ok L _)=>decide (L.length=n) && (decide (Lib.join (ZA 32 L) [32]=want) && (qiG 32 L && (decide ((ZA 32 L).length<=1000000) && decide (YS 32 L<=1000000))))
 |_=>false
def qsu:Str:=[65,68,68,32,65,32,66,32,84,79,32,67,32,83,73,90,69,32,69,82,82,79,82,32,77,79,86,69,32,49,32,84,79,32,68,32,69,78,68,45,65,68,68,32,77,79,86,69,32,50,32,84,79,32,69,32,46]
def lvWa:Str:=[123,65,68,68,32,60,62,32,49,65,32,49,66,32,60,84,79,62,32,49,67,32,91,79,78,32,83,73,90,69,32,69,82,82,79,82,93,32,123,77,79,86,69,32,60,62,32,50,49,32,60,84,79,62,32,49,68,32,125,32,125,32,123,77,79,86,69,32,60,62,32,50,50,32,60,84,79,62,32,49,69,32,125]
theorem lv_a:qha qsu 2 lvWa=true:=by decide+kernel
def qop:Str:=[73,70,32,65,32,62,32,49,32,73,70,32,66,32,61,32,50,32,65,68,68,32,49,32,84,79,32,65,32,69,76,83,69,32,65,68,68,32,50,32,84,79,32,65,32,46,32,77,79,86,69,32,65,32,84,79,32,66,32,46]
def lvWb:Str:=[123,73,70,32,60,62,32,49,65,32,53,62,32,50,49,32,91,84,72,69,78,93,32,123,73,70,32,60,62,32,49,66,32,53,61,32,50,50,32,91,84,72,69,78,93,32,123,65,68,68,32,60,62,32,50,49,32,60,84,79,62,32,49,65,32,125,32,91,69,76,83,69,93,32,123,65,68,68,32,60,62,32,50,50,32,60,84,79,62,32,49,65,32,125,32,125,32,125,32,123,77,79,86,69,32,60,62,32,49,65,32,60,84,79,62,32,49,66,32,125]
theorem lv_b:qha qop 2 lvWb=true:=by decide+kernel
def qst:Str:=[80,69,82,70,79,82,77,32,78,32,84,73,77,69,83,32,65,68,68,32,49,32,84,79,32,65,32,69,78,68,45,80,69,82,70,79,82,77,32,46,32,80,69,82,70,79,82,77,32,80,32,78,32,84,73,77,69,83,32,46]
def lvWc:Str:=[123,80,69,82,70,79,82,77,32,60,62,32,49,78,32,60,84,73,77,69,83,62,32,91,93,32,123,65,68,68,32,60,62,32,50,49,32,60,84,79,62,32,49,65,32,125,32,125,32,123,80,69,82,70,79,82,77,32,60,62,32,49,80,32,49,78,32,60,84,73,77,69,83,62,32,125]
theorem lv_c:qha qst 2 lvWc=true:=by decide+kernel
def qss:Str:=[69,86,65,76,85,65,84,69,32,65,32,87,72,69,78,32,49,32,87,72,69,78,32,50,32,67,79,78,84,73,78,85,69,32,87,72,69,78,32,79,84,72,69,82,32,83,84,79,80,32,82,85,78,32,69,78,68,45,69,86,65,76,85,65,84,69,32,46]
def lvWd:Str:=[123,69,86,65,76,85,65,84,69,32,60,62,32,49,65,32,91,87,72,69,78,93,32,50,49,32,91,87,72,69,78,93,32,50,50,32,123,67,79,78,84,73,78,85,69,32,60,62,32,125,32,91,87,72,69,78,32,79,84,72,69,82,93,32,123,83,84,79,80,32,60,62,32,60,82,85,78,62,32,125,32,125]
theorem lv_d:qha qss 1 lvWd=true:=by decide+kernel
def qsr:Str:=[82,69,65,68,32,70,32,78,69,88,84,32,82,69,67,79,82,68,32,73,78,84,79,32,88,32,65,84,32,69,78,68,32,67,79,78,84,73,78,85,69,32,46]
def lvWr:Str:=[123,82,69,65,68,32,60,62,32,49,70,32,60,78,69,88,84,62,32,60,73,78,84,79,62,32,49,88,32,91,65,84,32,69,78,68,93,32,123,67,79,78,84,73,78,85,69,32,60,62,32,125,32,125]
theorem lv_r:qha qsr 1 lvWr=true:=by decide+kernel
def qrP(s:Str):Bool:=match qaZ Xa (Za s) Zp 300 with
 |some (.ok L _)=>decide ((if qbd 32 L=true then 0 else YS 32 L)=5)
 |_=>false
theorem qpZ:qrP qop=true:=by decide+kernel
def lvT:List Str:=[[65,68,68,32,49,32,84,79,32,65,32,69,78,68,45,73,70,32,46],
 [73,70,32,65,32,61,32,66,32,46],
 [80,69,82,70,79,82,77,32,65,68,68,32,49,32,84,79,32,65,32,46],
 [53,32,84,79,32,65,32,46]]
def lvL:List Int:=[5,1,1,1]
theorem qsp:((List.range 4).all fun n=>badAt (lvT.getD n []) (lvL.getD n 0) && (decide ((lvT.getD n []).length<=100) && Go.Proofs.YtgiadjbiimkbiaaDoor.asciiB (lvT.getD n [])))=true:=by decide+kernel
end Go.Stm
namespace Go.Proofs.YtgiadjbiimkbiaaDoor
open Go.AM
open Go.Proofs
open Go.Col (Str FaultC okF)
open Go.Tok (TokC)
open Go.Stm
open Go.RowKit (Below)
set_option maxRecDepth 100000
theorem qbH:∀{m:Nat} {l:List StC},qiG m l=true->SmallS m l/\TxS m l
 |0,l,h=>⟨of_decide_eq_true (p:=l.length<=1000000) h,trivial⟩
 |m+1,l,h=>by
  simp only[qiG,Ky,Jz,decide_eq_true_eq]at h;obtain⟨h0,h1⟩:=h;exact⟨⟨h0,fun s hs=>⟨(h1 s hs).2.1,(h1 s hs).2.2.1,fun p hp=>((h1 s hs).2.2.2.1 p hp).2.1,fun b hb=>⟨((h1 s hs).2.2.2.2 b hb).2.1,(qbH ((h1 s hs).2.2.2.2 b hb).2.2.2).1⟩⟩⟩,
   fun s hs=>⟨(h1 s hs).1,fun p hp=>⟨((h1 s hs).2.2.2.1 p hp).1,((h1 s hs).2.2.2.1 p hp).2.2⟩,fun b hb=>⟨((h1 s hs).2.2.2.2 b hb).1,((h1 s hs).2.2.2.2 b hb).2.2.1,(qbH ((h1 s hs).2.2.2.2 b hb).2.2.2).2⟩⟩⟩
theorem qep{l:List TokC}{r r':Rs (List StC)}{f:Nat}(h:qaZ Xa l Zp f=some r)(h':ParseR Xa l Zp r'):r'=r:=ParseR.one h' ⟨f,h⟩
theorem qbv{wz:World}{s want:Str}{n:Nat}{h h':AHeap}{r:AVal}(hb:qha s n want=true)(ho:qhH wz (Za s) h r h'):
 Sub h h'/\∃L rv,r= .tuple [rv,faultV okF]/\StsV wz 32 h' rv L/\L.length=n/\Lib.join (ZA 32 L) [32]=want/\SmallS 32 L/\TxS 32 L/\(ZA 32 L).length<=1000000/\YS 32 L<=1000000/\∃j,qaZ Xa (Za s) Zp 300=some (.ok L j):=by
 obtain⟨hs,ho⟩:=ho;unfold qha at hb;cases hp:qaZ Xa (Za s) Zp 300 with
 |none=>rw[hp]at hb;cases hb
 |some x=>
  rw[hp]at hb;cases x with
  |bad f=>cases hb
  |ok L j=>
   simp only[Ky,decide_eq_true_eq]at hb;obtain⟨b1,b2,b3,b4,b5⟩:=hb;rcases ho with⟨f,q,-⟩|⟨L',j',rv,q,e,hv⟩
   ·cases qep hp q
   ·cases qep hp q
    exact⟨hs,L,rv,e,hv,b1,b2,(qbH b3).1,(qbH b3).2,b4,b5,j,rfl⟩
theorem qmO{wz:World}{s:Str}{ln:Int}{h h':AHeap}{r:AVal}(hb:badAt s ln=true)(ho:qhH wz (Za s) h r h'):Sub h h'/\r= .tuple [.nilSlice,faultV ⟨4,ln,8⟩]:=by
 obtain⟨hs,ho⟩:=ho;unfold badAt at hb;cases hp:qaZ Xa (Za s) Zp 300 with
 |none=>rw[hp]at hb;cases hb
 |some x=>
  rw[hp]at hb;cases x with
  |ok L j=>cases hb
  |bad f=>
   have hb:=of_decide_eq_true hb;subst hb;rcases ho with⟨f,q,e⟩|⟨L',j',rv,q,-⟩
   ·cases qep hp q
    exact⟨hs,e⟩
   ·cases qep hp q
theorem qoo{L:List StC}{j:Nat}(h:qaZ Xa (Za qop) Zp 300=some (.ok L j)):qjw 32 L=5:=by
 have:=qpZ;unfold qrP at this;rw[h]at this;exact of_decide_eq_true this
theorem WS(wz:World)(hm:MaxL wz)(ha:Asp wz)(h:AHeap)(s:Str)(hl:s.length<=999999)(has:asciiB s=true):
 ACall Tryd.prog wz 7 [.str s] h (fun r h'=>IsL wz h' 5 r ((Za s).map Zt)/\Sub h h'):=
 (qoT wz hm ha h s hl has).mono fun r h' ⟨p,a,_,b⟩=>⟨a.isL (b.in_ (i:=1) rfl),b.in_ (i:=0) rfl⟩
theorem qbD(wz:World)(h:AHeap)(v:AVal)(l:List StC)(hs:StsV wz 32 h v l)(hsm:SmallS 32 l)(htx:TxS 32 l)(hT:(ZA 32 l).length<=1000000):
 ACall Tryd.prog wz 23 [v] h (fun r h'=>IsStrs wz h' r (ZA 32 l)/\Sub h h'):=
 (qip wz 32 h v l hs hsm htx (by omega)).mono fun r h' ⟨p,a,_,b⟩=>⟨a.isL (b.in_ (i:=1) rfl),b.in_ (i:=0) rfl⟩
set_option maxHeartbeats 32000000 in
theorem qis(wz:World)(hm:MaxL wz)(ha:Asp wz)(h:AHeap):ACall Tryd.prog wz 8 [] h (fun r h'=>r= .bool true/\Sub h h'):=by
 refine QW (n:=141) (rs:=[.tmp 0]) Tryd.func8 rfl rfl rfl rfl (Vy rfl) ?_;simp only[QV];refine awp_rseq [] (by rfl) fun K hK=>?_;simp+decide only[qh,qi,qj,qo,ev,qZ,qW,putD,Vz,VA,VB,Ka,VC,VD,Kb,and_true,↓qV,qP,decide_true,decide_false,VL,VM,Qc,Qb,forall_const,false_implies,Qj,Qe,J4,VN,VO,VP,VQ,VS,VT,VU,QA,cond_true,cond_false,qN,ne_eq,not_false_eq_true,qO,qJ,VE,setAt,VF,Kj,qC,VG,Kn,Jp,Nat.reduceAdd,qF,qG,qI,qf,qK,qa,qz,qd,qE,qc,qA,qg,qH,qy,allLive,J4,tokV,posV,faultV];repeat (with_reducible refine And.intro ?_ ?_;· first|trivial|omega|(intro hg;simp only[Ky,JH,Jh,VH,VI,VJ,decide_eq_true_eq,decide_eq_false_iff_not,qU]at hg;omega))
 apply hK;clear hK K;refine awp_rseq [1,2] (by rfl) fun K hK=>?_;refine QT (by rfl) (by rfl) (WS wz hm ha _ qsu (by decide) (by decide)) fun x1q0 h1q0 hx1q0=>?_;obtain⟨ht1,hsT1⟩:=hx1q0;have hs_h1q0:Sub h h1q0:=Bq zqC hsT1;have hr_h1q0:=hs_h1q0;refine QT (by rfl) (by rfl) (qdE wz hm ha (Za qsu) (YK (by decide)) (Ws (by decide)) _ x1q0 ht1) fun x1q1 h1q1 hx1q1=>?_;obtain⟨hsP1,La,rva,e1,hva,hna,hja,hsma,htxa,hsla,hcta,jja,hppa⟩:=qbv lv_a hx1q1;subst e1;have hvla:=hva.shape.1;have hvna:=qco hva;rw[hna]at hvna;have hs_h1q1:Sub h h1q1:=Bq zqC hsP1;have hr_h1q1:Sub h1q0 h1q1:=Bq zqC hsP1;simp+decide only[qh,qi,qj,qo,ev,qZ,qW,putD,Vz,VA,VB,Ka,VC,VD,Kb,and_true,↓qY,qR,↓XW,XK,Zd,KX,JD,VG,Kn,decide_true,decide_false,VL,VM,Qc,Qb,forall_const,false_implies,Qj,Qe,J4,VN,VO,VP,VQ,VS,VT,VU,QA,cond_true,cond_false,qN,ne_eq,not_false_eq_true,qO,qJ,VE,setAt,VF,Kj,qC,VG,Kn,Jp,Nat.reduceAdd,qF,qG,qI,qf,qK,qa,qz,qd,qE,qc,qA,qg,qH,qy,allLive,J4,tokV,posV,faultV];repeat (with_reducible refine And.intro ?_ ?_;· first|trivial|omega|(intro hg;simp only[Ky,JH,Jh,VH,VI,VJ,decide_eq_true_eq,decide_eq_false_iff_not,qU]at hg;omega))
 refine XP qgw (cs:=[.int .i64 0, .int .i64 0, .int .i64 0]) (by rfl) fun k1q5 hk1q5=>?_;have hn_1q5:h1q1 k1q5=none:=by first|assumption|(simp only[V7]at hk1q5;simp only[hk1q5])
 have hf_1q5:h k1q5=none:=Bh hs_h1q1 hn_1q5;simp+decide only[qh,qi,qj,qo,ev,qZ,qW,putD,Vz,VA,VB,Ka,VC,VD,Kb,and_true,↓qV,qP,decide_true,decide_false,VL,VM,Qc,Qb,forall_const,false_implies,Qj,Qe,J4,VN,VO,VP,VQ,VS,VT,VU,QA,cond_true,cond_false,qN,ne_eq,not_false_eq_true,qO,qJ,VE,setAt,VF,Kj,qC,VG,Kn,Jp,Nat.reduceAdd,qF,qG,qI,qf,qK,qa,qz,qd,qE,qc,qA,qg,qH,qy,allLive,J4,tokV,posV,faultV];repeat (with_reducible refine And.intro ?_ ?_;· first|trivial|omega|(intro hg;simp only[Ky,JH,Jh,VH,VI,VJ,decide_eq_true_eq,decide_eq_false_iff_not,qU]at hg;omega))
 refine QO (by rfl) (by rfl) zqA qaP (by rfl) (by rfl) zqD (Jq _) (by rfl) ?_;simp only[Bi,setAt,VE,VF,Kj,Jp,Nat.reduceAdd];simp+decide only[qh,qi,qj,qo,ev,qZ,qW,putD,Vz,VA,VB,Ka,VC,VD,Kb,and_true,decide_true,decide_false,VL,VM,Qc,Qb,forall_const,false_implies,Qj,Qe,J4,VN,VO,VP,VQ,VS,VT,VU,QA,cond_true,cond_false,qN,ne_eq,not_false_eq_true,qO,qJ,VE,setAt,VF,Kj,qC,VG,Kn,Jp,Nat.reduceAdd,qF,qG,qI,qf,qK,qa,qz,qd,qE,qc,qA,qg,qH,qy,allLive,J4,tokV,posV,faultV];repeat (with_reducible refine And.intro ?_ ?_;· first|trivial|omega|(intro hg;simp only[Ky,JH,Jh,VH,VI,VJ,decide_eq_true_eq,decide_eq_false_iff_not,qU]at hg;omega))
 apply hK;clear hK K;refine awp_rseq [1,2,3,4] (by rfl) fun K hK=>?_;refine QT (by rfl) (by rfl) (WS wz hm ha _ qop (by decide) (by decide)) fun x2q0 h2q0 hx2q0=>?_;obtain⟨ht2,hsT2⟩:=hx2q0;have hs_h2q0:Sub h h2q0:=Bq zqC hsT2;have hr_h2q0:Sub h1q1 h2q0:=Bq zqC hsT2;have eb_1q5:=hsT2 k1q5 _ zqA;refine QT (by rfl) (by rfl) (qdE wz hm ha (Za qop) (YK (by decide)) (Ws (by decide)) _ x2q0 ht2) fun x2q1 h2q1 hx2q1=>?_;obtain⟨hsP2,Lb,rvb,e2,hvb,hnb,hjb,hsmb,htxb,hslb,hctb,jjb,hppb⟩:=qbv lv_b hx2q1;subst e2;have hvlb:=hvb.shape.1;have hvnb:=qco hvb;rw[hnb]at hvnb;have hs_h2q1:Sub h h2q1:=Bq zqC hsP2;have hr_h2q1:Sub h2q0 h2q1:=Bq zqC hsP2;have eb_1q5:=hsP2 k1q5 _ zqA;simp+decide only[qh,qi,qj,qo,ev,qZ,qW,putD,Vz,VA,VB,Ka,VC,VD,Kb,and_true,↓qY,qR,↓XW,XK,Zd,KX,JD,VG,Kn,decide_true,decide_false,VL,VM,Qc,Qb,forall_const,false_implies,Qj,Qe,J4,VN,VO,VP,VQ,VS,VT,VU,QA,cond_true,cond_false,qN,ne_eq,not_false_eq_true,qM wz eb_1q5,qO,qJ,VE,setAt,VF,Kj,qC,VG,Kn,Jp,Nat.reduceAdd,qF,qG,qI,qf,qK,qa,qz,qd,qE,qc,qA,qg,qH,qy,allLive,J4,tokV,posV,faultV];repeat (with_reducible refine And.intro ?_ ?_;· first|trivial|omega|(intro hg;simp only[Ky,JH,Jh,VH,VI,VJ,decide_eq_true_eq,decide_eq_false_iff_not,qU]at hg;omega))
 refine XP qgw (cs:=[.int .i64 0, .int .i64 0, .int .i64 0]) (by rfl) fun k2q5 hk2q5=>?_;have hn_2q5:h2q1 k2q5=none:=by first|assumption|(simp only[V7]at hk2q5;simp only[hk2q5])
 have hf_2q5:h k2q5=none:=Bh hs_h2q1 hn_2q5;have ne_2q5_1q5:k2q5≠k1q5:=BF hn_2q5 eb_1q5;simp+decide only[qh,qi,qj,qo,ev,qZ,qW,putD,Vz,VA,VB,Ka,VC,VD,Kb,and_true,↓qV,qP,decide_true,decide_false,VL,VM,Qc,Qb,forall_const,false_implies,Qj,Qe,J4,VN,VO,VP,VQ,VS,VT,VU,QA,cond_true,cond_false,qN,ne_eq,not_false_eq_true,ne_2q5_1q5,ne_2q5_1q5.symm,qM wz eb_1q5,qO,qJ,VE,setAt,VF,Kj,qC,VG,Kn,Jp,Nat.reduceAdd,qF,qG,qI,qf,qK,qa,qz,qd,qE,qc,qA,qg,qH,qy,allLive,J4,tokV,posV,faultV];repeat (with_reducible refine And.intro ?_ ?_;· first|trivial|omega|(intro hg;simp only[Ky,JH,Jh,VH,VI,VJ,decide_eq_true_eq,decide_eq_false_iff_not,qU]at hg;omega))
 refine QO (by rfl) (by rfl) zqA qaP (by rfl) (by rfl) zqD (Jq _) (by rfl) ?_;simp only[Bi,setAt,VE,VF,Kj,Jp,Nat.reduceAdd];simp+decide only[qh,qi,qj,qo,ev,qZ,qW,putD,Vz,VA,VB,Ka,VC,VD,Kb,and_true,decide_true,decide_false,VL,VM,Qc,Qb,forall_const,false_implies,Qj,Qe,J4,VN,VO,VP,VQ,VS,VT,VU,QA,cond_true,cond_false,qN,ne_eq,not_false_eq_true,ne_2q5_1q5,ne_2q5_1q5.symm,qM wz eb_1q5,qO,qJ,VE,setAt,VF,Kj,qC,VG,Kn,Jp,Nat.reduceAdd,qF,qG,qI,qf,qK,qa,qz,qd,qE,qc,qA,qg,qH,qy,allLive,J4,tokV,posV,faultV];repeat (with_reducible refine And.intro ?_ ?_;· first|trivial|omega|(intro hg;simp only[Ky,JH,Jh,VH,VI,VJ,decide_eq_true_eq,decide_eq_false_iff_not,qU]at hg;omega))
 apply hK;clear hK K;refine awp_rseq [1,2,3,4,5,6] (by rfl) fun K hK=>?_;refine QT (by rfl) (by rfl) (WS wz hm ha _ qst (by decide) (by decide)) fun x3q0 h3q0 hx3q0=>?_;obtain⟨ht3,hsT3⟩:=hx3q0;have hs_h3q0:Sub h h3q0:=Bq zqC hsT3;have hr_h3q0:Sub h2q1 h3q0:=Bq zqC hsT3;have eb_2q5:=hsT3 k2q5 _ zqA;have eb_1q5:=hsT3 k1q5 _ zqA;refine QT (by rfl) (by rfl) (qdE wz hm ha (Za qst) (YK (by decide)) (Ws (by decide)) _ x3q0 ht3) fun x3q1 h3q1 hx3q1=>?_;obtain⟨hsP3,Lc,rvc,e3,hvc,hnc,hjc,hsmc,htxc,hslc,hctc,jjc,hppc⟩:=qbv lv_c hx3q1;subst e3;have hvlc:=hvc.shape.1;have hvnc:=qco hvc;rw[hnc]at hvnc;have hs_h3q1:Sub h h3q1:=Bq zqC hsP3;have hr_h3q1:Sub h3q0 h3q1:=Bq zqC hsP3;have eb_1q5:=hsP3 k1q5 _ zqA;have eb_2q5:=hsP3 k2q5 _ zqA;simp+decide only[qh,qi,qj,qo,ev,qZ,qW,putD,Vz,VA,VB,Ka,VC,VD,Kb,and_true,↓qY,qR,↓XW,XK,Zd,KX,JD,VG,Kn,decide_true,decide_false,VL,VM,Qc,Qb,forall_const,false_implies,Qj,Qe,J4,VN,VO,VP,VQ,VS,VT,VU,QA,cond_true,cond_false,qN,ne_eq,not_false_eq_true,qM wz eb_1q5,qM wz eb_2q5,ne_2q5_1q5,ne_2q5_1q5.symm,qO,qJ,VE,setAt,VF,Kj,qC,VG,Kn,Jp,Nat.reduceAdd,qF,qG,qI,qf,qK,qa,qz,qd,qE,qc,qA,qg,qH,qy,allLive,J4,tokV,posV,faultV];repeat (with_reducible refine And.intro ?_ ?_;· first|trivial|omega|(intro hg;simp only[Ky,JH,Jh,VH,VI,VJ,decide_eq_true_eq,decide_eq_false_iff_not,qU]at hg;omega))
 refine XP qgw (cs:=[.int .i64 0, .int .i64 0, .int .i64 0]) (by rfl) fun k3q5 hk3q5=>?_;have hn_3q5:h3q1 k3q5=none:=by first|assumption|(simp only[V7]at hk3q5;simp only[hk3q5])
 have hf_3q5:h k3q5=none:=Bh hs_h3q1 hn_3q5;have ne_3q5_1q5:k3q5≠k1q5:=BF hn_3q5 eb_1q5;have ne_3q5_2q5:k3q5≠k2q5:=BF hn_3q5 eb_2q5;simp+decide only[qh,qi,qj,qo,ev,qZ,qW,putD,Vz,VA,VB,Ka,VC,VD,Kb,and_true,↓qV,qP,decide_true,decide_false,VL,VM,Qc,Qb,forall_const,false_implies,Qj,Qe,J4,VN,VO,VP,VQ,VS,VT,VU,QA,cond_true,cond_false,qN,ne_eq,not_false_eq_true,ne_3q5_1q5,ne_3q5_1q5.symm,ne_3q5_2q5,ne_3q5_2q5.symm,qM wz eb_1q5,qM wz eb_2q5,ne_2q5_1q5,ne_2q5_1q5.symm,qO,qJ,VE,setAt,VF,Kj,qC,VG,Kn,Jp,Nat.reduceAdd,qF,qG,qI,qf,qK,qa,qz,qd,qE,qc,qA,qg,qH,qy,allLive,J4,tokV,posV,faultV];repeat (with_reducible refine And.intro ?_ ?_;· first|trivial|omega|(intro hg;simp only[Ky,JH,Jh,VH,VI,VJ,decide_eq_true_eq,decide_eq_false_iff_not,qU]at hg;omega))
 refine QO (by rfl) (by rfl) zqA qaP (by rfl) (by rfl) zqD (Jq _) (by rfl) ?_;simp only[Bi,setAt,VE,VF,Kj,Jp,Nat.reduceAdd];simp+decide only[qh,qi,qj,qo,ev,qZ,qW,putD,Vz,VA,VB,Ka,VC,VD,Kb,and_true,decide_true,decide_false,VL,VM,Qc,Qb,forall_const,false_implies,Qj,Qe,J4,VN,VO,VP,VQ,VS,VT,VU,QA,cond_true,cond_false,qN,ne_eq,not_false_eq_true,ne_3q5_1q5,ne_3q5_1q5.symm,ne_3q5_2q5,ne_3q5_2q5.symm,qM wz eb_1q5,qM wz eb_2q5,ne_2q5_1q5,ne_2q5_1q5.symm,qO,qJ,VE,setAt,VF,Kj,qC,VG,Kn,Jp,Nat.reduceAdd,qF,qG,qI,qf,qK,qa,qz,qd,qE,qc,qA,qg,qH,qy,allLive,J4,tokV,posV,faultV];repeat (with_reducible refine And.intro ?_ ?_;· first|trivial|omega|(intro hg;simp only[Ky,JH,Jh,VH,VI,VJ,decide_eq_true_eq,decide_eq_false_iff_not,qU]at hg;omega))
 apply hK;clear hK K;refine awp_rseq [1,2,3,4,5,6,7,8] (by rfl) fun K hK=>?_;refine QT (by rfl) (by rfl) (WS wz hm ha _ qss (by decide) (by decide)) fun x4q0 h4q0 hx4q0=>?_;obtain⟨ht4,hsT4⟩:=hx4q0;have hs_h4q0:Sub h h4q0:=Bq zqC hsT4;have hr_h4q0:Sub h3q1 h4q0:=Bq zqC hsT4;have eb_3q5:=hsT4 k3q5 _ zqA;have eb_1q5:=hsT4 k1q5 _ zqA;have eb_2q5:=hsT4 k2q5 _ zqA;refine QT (by rfl) (by rfl) (qdE wz hm ha (Za qss) (YK (by decide)) (Ws (by decide)) _ x4q0 ht4) fun x4q1 h4q1 hx4q1=>?_;obtain⟨hsP4,Ld,rvd,e4,hvd,hnd,hjd,hsmd,htxd,hsld,hctd,jjd,hppd⟩:=qbv lv_d hx4q1;subst e4;have hvld:=hvd.shape.1;have hvnd:=qco hvd;rw[hnd]at hvnd;have hs_h4q1:Sub h h4q1:=Bq zqC hsP4;have hr_h4q1:Sub h4q0 h4q1:=Bq zqC hsP4;have eb_1q5:=hsP4 k1q5 _ zqA;have eb_2q5:=hsP4 k2q5 _ zqA;have eb_3q5:=hsP4 k3q5 _ zqA;simp+decide only[qh,qi,qj,qo,ev,qZ,qW,putD,Vz,VA,VB,Ka,VC,VD,Kb,and_true,↓qY,qR,↓XW,XK,Zd,KX,JD,VG,Kn,decide_true,decide_false,VL,VM,Qc,Qb,forall_const,false_implies,Qj,Qe,J4,VN,VO,VP,VQ,VS,VT,VU,QA,cond_true,cond_false,qN,ne_eq,not_false_eq_true,qM wz eb_1q5,qM wz eb_2q5,qM wz eb_3q5,ne_2q5_1q5,ne_2q5_1q5.symm,ne_3q5_1q5,ne_3q5_1q5.symm,ne_3q5_2q5,ne_3q5_2q5.symm,qO,qJ,VE,setAt,VF,Kj,qC,VG,Kn,Jp,Nat.reduceAdd,qF,qG,qI,qf,qK,qa,qz,qd,qE,qc,qA,qg,qH,qy,allLive,J4,tokV,posV,faultV];repeat (with_reducible refine And.intro ?_ ?_;· first|trivial|omega|(intro hg;simp only[Ky,JH,Jh,VH,VI,VJ,decide_eq_true_eq,decide_eq_false_iff_not,qU]at hg;omega))
 refine XP qgw (cs:=[.int .i64 0, .int .i64 0, .int .i64 0]) (by rfl) fun k4q5 hk4q5=>?_;have hn_4q5:h4q1 k4q5=none:=by first|assumption|(simp only[V7]at hk4q5;simp only[hk4q5])
 have hf_4q5:h k4q5=none:=Bh hs_h4q1 hn_4q5;have ne_4q5_1q5:k4q5≠k1q5:=BF hn_4q5 eb_1q5;have ne_4q5_2q5:k4q5≠k2q5:=BF hn_4q5 eb_2q5;have ne_4q5_3q5:k4q5≠k3q5:=BF hn_4q5 eb_3q5;simp+decide only[qh,qi,qj,qo,ev,qZ,qW,putD,Vz,VA,VB,Ka,VC,VD,Kb,and_true,↓qV,qP,decide_true,decide_false,VL,VM,Qc,Qb,forall_const,false_implies,Qj,Qe,J4,VN,VO,VP,VQ,VS,VT,VU,QA,cond_true,cond_false,qN,ne_eq,not_false_eq_true,ne_4q5_1q5,ne_4q5_1q5.symm,ne_4q5_2q5,ne_4q5_2q5.symm,ne_4q5_3q5,ne_4q5_3q5.symm,qM wz eb_1q5,qM wz eb_2q5,qM wz eb_3q5,ne_2q5_1q5,ne_2q5_1q5.symm,ne_3q5_1q5,ne_3q5_1q5.symm,ne_3q5_2q5,ne_3q5_2q5.symm,qO,qJ,VE,setAt,VF,Kj,qC,VG,Kn,Jp,Nat.reduceAdd,qF,qG,qI,qf,qK,qa,qz,qd,qE,qc,qA,qg,qH,qy,allLive,J4,tokV,posV,faultV];repeat (with_reducible refine And.intro ?_ ?_;· first|trivial|omega|(intro hg;simp only[Ky,JH,Jh,VH,VI,VJ,decide_eq_true_eq,decide_eq_false_iff_not,qU]at hg;omega))
 refine QO (by rfl) (by rfl) zqA qaP (by rfl) (by rfl) zqD (Jq _) (by rfl) ?_;simp only[Bi,setAt,VE,VF,Kj,Jp,Nat.reduceAdd];simp+decide only[qh,qi,qj,qo,ev,qZ,qW,putD,Vz,VA,VB,Ka,VC,VD,Kb,and_true,decide_true,decide_false,VL,VM,Qc,Qb,forall_const,false_implies,Qj,Qe,J4,VN,VO,VP,VQ,VS,VT,VU,QA,cond_true,cond_false,qN,ne_eq,not_false_eq_true,ne_4q5_1q5,ne_4q5_1q5.symm,ne_4q5_2q5,ne_4q5_2q5.symm,ne_4q5_3q5,ne_4q5_3q5.symm,qM wz eb_1q5,qM wz eb_2q5,qM wz eb_3q5,ne_2q5_1q5,ne_2q5_1q5.symm,ne_3q5_1q5,ne_3q5_1q5.symm,ne_3q5_2q5,ne_3q5_2q5.symm,qO,qJ,VE,setAt,VF,Kj,qC,VG,Kn,Jp,Nat.reduceAdd,qF,qG,qI,qf,qK,qa,qz,qd,qE,qc,qA,qg,qH,qy,allLive,J4,tokV,posV,faultV];repeat (with_reducible refine And.intro ?_ ?_;· first|trivial|omega|(intro hg;simp only[Ky,JH,Jh,VH,VI,VJ,decide_eq_true_eq,decide_eq_false_iff_not,qU]at hg;omega))
 apply hK;clear hK K;refine awp_rseq [1,2,3,4,5,6,7,8,9,10] (by rfl) fun K hK=>?_;refine QT (by rfl) (by rfl) (WS wz hm ha _ qsr (by decide) (by decide)) fun x5q0 h5q0 hx5q0=>?_;obtain⟨ht5,hsT5⟩:=hx5q0;have hs_h5q0:Sub h h5q0:=Bq zqC hsT5;have hr_h5q0:Sub h4q1 h5q0:=Bq zqC hsT5;have eb_4q5:=hsT5 k4q5 _ zqA;have eb_1q5:=hsT5 k1q5 _ zqA;have eb_2q5:=hsT5 k2q5 _ zqA;have eb_3q5:=hsT5 k3q5 _ zqA;refine QT (by rfl) (by rfl) (qdE wz hm ha (Za qsr) (YK (by decide)) (Ws (by decide)) _ x5q0 ht5) fun x5q1 h5q1 hx5q1=>?_;obtain⟨hsP5,Lr,rvr,e5,hvr,hnr,hjr,hsmr,htxr,hslr,hctr,jjr,hppr⟩:=qbv lv_r hx5q1;subst e5;have hvlr:=hvr.shape.1;have hvnr:=qco hvr;rw[hnr]at hvnr;have hs_h5q1:Sub h h5q1:=Bq zqC hsP5;have hr_h5q1:Sub h5q0 h5q1:=Bq zqC hsP5;have eb_1q5:=hsP5 k1q5 _ zqA;have eb_2q5:=hsP5 k2q5 _ zqA;have eb_3q5:=hsP5 k3q5 _ zqA;have eb_4q5:=hsP5 k4q5 _ zqA;simp+decide only[qh,qi,qj,qo,ev,qZ,qW,putD,Vz,VA,VB,Ka,VC,VD,Kb,and_true,↓qY,qR,↓XW,XK,Zd,KX,JD,VG,Kn,decide_true,decide_false,VL,VM,Qc,Qb,forall_const,false_implies,Qj,Qe,J4,VN,VO,VP,VQ,VS,VT,VU,QA,cond_true,cond_false,qN,ne_eq,not_false_eq_true,qM wz eb_1q5,qM wz eb_2q5,qM wz eb_3q5,qM wz eb_4q5,ne_2q5_1q5,ne_2q5_1q5.symm,ne_3q5_1q5,ne_3q5_1q5.symm,ne_3q5_2q5,ne_3q5_2q5.symm,ne_4q5_1q5,ne_4q5_1q5.symm,ne_4q5_2q5,ne_4q5_2q5.symm,ne_4q5_3q5,ne_4q5_3q5.symm,qO,qJ,VE,setAt,VF,Kj,qC,VG,Kn,Jp,Nat.reduceAdd,qF,qG,qI,qf,qK,qa,qz,qd,qE,qc,qA,qg,qH,qy,allLive,J4,tokV,posV,faultV];repeat (with_reducible refine And.intro ?_ ?_;· first|trivial|omega|(intro hg;simp only[Ky,JH,Jh,VH,VI,VJ,decide_eq_true_eq,decide_eq_false_iff_not,qU]at hg;omega))
 refine XP qgw (cs:=[.int .i64 0, .int .i64 0, .int .i64 0]) (by rfl) fun k5q5 hk5q5=>?_;have hn_5q5:h5q1 k5q5=none:=by first|assumption|(simp only[V7]at hk5q5;simp only[hk5q5])
 have hf_5q5:h k5q5=none:=Bh hs_h5q1 hn_5q5;have ne_5q5_1q5:k5q5≠k1q5:=BF hn_5q5 eb_1q5;have ne_5q5_2q5:k5q5≠k2q5:=BF hn_5q5 eb_2q5;have ne_5q5_3q5:k5q5≠k3q5:=BF hn_5q5 eb_3q5;have ne_5q5_4q5:k5q5≠k4q5:=BF hn_5q5 eb_4q5;simp+decide only[qh,qi,qj,qo,ev,qZ,qW,putD,Vz,VA,VB,Ka,VC,VD,Kb,and_true,↓qV,qP,decide_true,decide_false,VL,VM,Qc,Qb,forall_const,false_implies,Qj,Qe,J4,VN,VO,VP,VQ,VS,VT,VU,QA,cond_true,cond_false,qN,ne_eq,not_false_eq_true,ne_5q5_1q5,ne_5q5_1q5.symm,ne_5q5_2q5,ne_5q5_2q5.symm,ne_5q5_3q5,ne_5q5_3q5.symm,ne_5q5_4q5,ne_5q5_4q5.symm,qM wz eb_1q5,qM wz eb_2q5,qM wz eb_3q5,qM wz eb_4q5,ne_2q5_1q5,ne_2q5_1q5.symm,ne_3q5_1q5,ne_3q5_1q5.symm,ne_3q5_2q5,ne_3q5_2q5.symm,ne_4q5_1q5,ne_4q5_1q5.symm,ne_4q5_2q5,ne_4q5_2q5.symm,ne_4q5_3q5,ne_4q5_3q5.symm,qO,qJ,VE,setAt,VF,Kj,qC,VG,Kn,Jp,Nat.reduceAdd,qF,qG,qI,qf,qK,qa,qz,qd,qE,qc,qA,qg,qH,qy,allLive,J4,tokV,posV,faultV];repeat (with_reducible refine And.intro ?_ ?_;· first|trivial|omega|(intro hg;simp only[Ky,JH,Jh,VH,VI,VJ,decide_eq_true_eq,decide_eq_false_iff_not,qU]at hg;omega))
 refine QO (by rfl) (by rfl) zqA qaP (by rfl) (by rfl) zqD (Jq _) (by rfl) ?_;simp only[Bi,setAt,VE,VF,Kj,Jp,Nat.reduceAdd];simp+decide only[qh,qi,qj,qo,ev,qZ,qW,putD,Vz,VA,VB,Ka,VC,VD,Kb,and_true,decide_true,decide_false,VL,VM,Qc,Qb,forall_const,false_implies,Qj,Qe,J4,VN,VO,VP,VQ,VS,VT,VU,QA,cond_true,cond_false,qN,ne_eq,not_false_eq_true,ne_5q5_1q5,ne_5q5_1q5.symm,ne_5q5_2q5,ne_5q5_2q5.symm,ne_5q5_3q5,ne_5q5_3q5.symm,ne_5q5_4q5,ne_5q5_4q5.symm,qM wz eb_1q5,qM wz eb_2q5,qM wz eb_3q5,qM wz eb_4q5,ne_2q5_1q5,ne_2q5_1q5.symm,ne_3q5_1q5,ne_3q5_1q5.symm,ne_3q5_2q5,ne_3q5_2q5.symm,ne_4q5_1q5,ne_4q5_1q5.symm,ne_4q5_2q5,ne_4q5_2q5.symm,ne_4q5_3q5,ne_4q5_3q5.symm,qO,qJ,VE,setAt,VF,Kj,qC,VG,Kn,Jp,Nat.reduceAdd,qF,qG,qI,qf,qK,qa,qz,qd,qE,qc,qA,qg,qH,qy,allLive,J4,tokV,posV,faultV];repeat (with_reducible refine And.intro ?_ ?_;· first|trivial|omega|(intro hg;simp only[Ky,JH,Jh,VH,VI,VJ,decide_eq_true_eq,decide_eq_false_iff_not,qU]at hg;omega))
 apply hK;clear hK K;refine Qr ?_;refine awp_rseq [1,3,5,7,9,87] (by kernel_rfl) fun K hK=>?_;try simp only[List.append_eq,Kh,Jd]
 simp+decide only[qh,qi,qj,qo,ev,qZ,qW,putD,Vz,VA,VB,Ka,VC,VD,Kb,and_true,↓Qn,Qd,qsJ,↓Qv,QN,Qf ag24,↓Qh,Qa,Qm,cond_false,Qg,qby,↓qY,qR,↓Zk,agP,XH,gv,Qw,QJ,QI,QC,Qk,Qi,ZC,implies_true,VK,decide_true,decide_false,VL,VM,Qc,Qb,forall_const,false_implies,Qj,Qe,J4,VN,VO,VP,VQ,VS,VT,VU,XU,XV,Xp,Xr,Xo,↓ZK,Zz,WM,Ya,ZZ,ZY,ZW,ZV,ZU,ZR,ZT,↓XY,Zh,Zg,Zj,Zi,↓XR,Xw,Xb,QM,QL,QG,XC,XB,XA,Xz,Xl,Xy,↓Zy,↓qej,Xf,Qz Tryd.underlying23,QR Tryd.underlying23,qee,qef,decide_true,decide_false,VL,VM,Qc,Qb,forall_const,false_implies,Qj,Qe,J4,VN,VO,VP,VQ,VS,VT,VU,QA,cond_true,cond_false,qN,ne_eq,not_false_eq_true,ne_5q5_1q5,ne_5q5_1q5.symm,ne_5q5_2q5,ne_5q5_2q5.symm,ne_5q5_3q5,ne_5q5_3q5.symm,ne_5q5_4q5,ne_5q5_4q5.symm,qM wz eb_1q5,qM wz eb_2q5,qM wz eb_3q5,qM wz eb_4q5,ne_2q5_1q5,ne_2q5_1q5.symm,ne_3q5_1q5,ne_3q5_1q5.symm,ne_3q5_2q5,ne_3q5_2q5.symm,ne_4q5_1q5,ne_4q5_1q5.symm,ne_4q5_2q5,ne_4q5_2q5.symm,ne_4q5_3q5,ne_4q5_3q5.symm,qO,qJ,VE,setAt,VF,Kj,qC,VG,Kn,Jp,Nat.reduceAdd,qF,qG,qI,qf,qK,qa,qz,qd,qE,qc,qA,qg,qH,qy,allLive,J4,tokV,posV,faultV,hvla,hvna,hvlb,hvnb,hvlc,hvnc,hvld,hvnd,hvlr,hvnr];repeat (with_reducible refine And.intro ?_ ?_;· first|trivial|omega|(intro hg;simp only[Ky,JH,Jh,VH,VI,VJ,decide_eq_true_eq,decide_eq_false_iff_not,qU]at hg;omega))
 apply hK;clear hK K;refine Qu (b:=_) rfl (fun hb1=>?_) (fun hb1=>?_)
 ·cases hb1
 ·try simp only[decide_eq_true_eq,decide_eq_false_iff_not,Jh,VJ,Ky,VH,JH,VI,VV,VW,reduceCtorEq]at hb1
  refine QE ?_;change Awp _ _ _ _ _ _ _;refine Qr ?_;refine awp_rseq [5,7,9,102] (by rfl) fun K hK=>?_;simp+decide only[qh,qi,qj,qo,ev,qZ,qW,putD,Vz,VA,VB,Ka,VC,VD,Kb,and_true,↓qY,qR,decide_true,decide_false,VL,VM,Qc,Qb,forall_const,false_implies,Qj,Qe,J4,VN,VO,VP,VQ,VS,VT,VU,QA,cond_true,cond_false,qN,ne_eq,not_false_eq_true,ne_5q5_1q5,ne_5q5_1q5.symm,ne_5q5_2q5,ne_5q5_2q5.symm,ne_5q5_3q5,ne_5q5_3q5.symm,ne_5q5_4q5,ne_5q5_4q5.symm,qM wz eb_1q5,qM wz eb_2q5,qM wz eb_3q5,qM wz eb_4q5,ne_2q5_1q5,ne_2q5_1q5.symm,ne_3q5_1q5,ne_3q5_1q5.symm,ne_3q5_2q5,ne_3q5_2q5.symm,ne_4q5_1q5,ne_4q5_1q5.symm,ne_4q5_2q5,ne_4q5_2q5.symm,ne_4q5_3q5,ne_4q5_3q5.symm,qO,qJ,VE,setAt,VF,Kj,qC,VG,Kn,Jp,Nat.reduceAdd,qF,qG,qI,qf,qK,qa,qz,qd,qE,qc,qA,qg,qH,qy,allLive,J4,tokV,posV,faultV,hvla,hvna,hvlb,hvnb,hvlc,hvnc,hvld,hvnd,hvlr,hvnr];repeat (with_reducible refine And.intro ?_ ?_;· first|trivial|omega|(intro hg;simp only[Ky,JH,Jh,VH,VI,VJ,decide_eq_true_eq,decide_eq_false_iff_not,qU]at hg;omega))
  refine QT (by rfl) (by rfl) (qbD wz _ rva La (hva.mono (by repeat (first|exact Vg _|assumption|refine Bq ?_ (V8 (by assumption))|refine Bq ?_ (by assumption)))) hsma htxa hsla) fun x8q1 h8q1 hx8q1=>?_;obtain⟨hsta,hsSa⟩:=hx8q1;have hs_h8q1:Sub h h8q1:=Bq zqC hsSa;have hr_h8q1:Sub h5q1 h8q1:=Bq zqC hsSa;have eb_5q5:=hsSa k5q5 _ zqA;have eb_1q5:=hsSa k1q5 _ zqA;have eb_2q5:=hsSa k2q5 _ zqA;have eb_3q5:=hsSa k3q5 _ zqA;have eb_4q5:=hsSa k4q5 _ zqA;refine Xk (V:= .str lvWa) (by rfl) (by rfl) (by rw[<-hja];exact qdj wz _ _ (ZA 32 La) [32] hsta (by omega) (by rw[hja];decide)) ?_;simp+decide only[qh,qi,qj,qo,ev,qZ,qW,putD,Vz,VA,VB,Ka,VC,VD,Kb,and_true,↓Qh,Qa,XE,cond_false,Xu,qbw,↓qY,qR,↓Zy,agP,XH,gv,Qw,QJ,QI,QC,Qk,Qi,ZC,implies_true,VK,decide_true,decide_false,VL,VM,Qc,Qb,forall_const,false_implies,Qj,Qe,J4,VN,VO,VP,VQ,VS,VT,VU,Xp,Xr,Xo,decide_true,decide_false,VL,VM,Qc,Qb,forall_const,false_implies,Qj,Qe,J4,VN,VO,VP,VQ,VS,VT,VU,QA,cond_true,cond_false,qN,ne_eq,not_false_eq_true,qM wz eb_1q5,qM wz eb_2q5,qM wz eb_3q5,qM wz eb_4q5,qM wz eb_5q5,ne_2q5_1q5,ne_2q5_1q5.symm,ne_3q5_1q5,ne_3q5_1q5.symm,ne_3q5_2q5,ne_3q5_2q5.symm,ne_4q5_1q5,ne_4q5_1q5.symm,ne_4q5_2q5,ne_4q5_2q5.symm,ne_4q5_3q5,ne_4q5_3q5.symm,ne_5q5_1q5,ne_5q5_1q5.symm,ne_5q5_2q5,ne_5q5_2q5.symm,ne_5q5_3q5,ne_5q5_3q5.symm,ne_5q5_4q5,ne_5q5_4q5.symm,qO,qJ,VE,setAt,VF,Kj,qC,VG,Kn,Jp,Nat.reduceAdd,qF,qG,qI,qf,qK,qa,qz,qd,qE,qc,qA,qg,qH,qy,allLive,J4,tokV,posV,faultV,hvla,hvna,hvlb,hvnb,hvlc,hvnc,hvld,hvnd,hvlr,hvnr];repeat (with_reducible refine And.intro ?_ ?_;· first|trivial|omega|(intro hg;simp only[Ky,JH,Jh,VH,VI,VJ,decide_eq_true_eq,decide_eq_false_iff_not,qU]at hg;omega))
  refine Yc (by rfl) ?_;refine QT (by rfl) (by rfl) (qbD wz _ rvb Lb (hvb.mono (by repeat (first|exact Vg _|assumption|refine Bq ?_ (V8 (by assumption))|refine Bq ?_ (by assumption)))) hsmb htxb hslb) fun x8q6 h8q6 hx8q6=>?_;obtain⟨hstb,hsSb⟩:=hx8q6;have hs_h8q6:Sub h h8q6:=Bq zqC hsSb;have hr_h8q6:Sub h8q1 h8q6:=Bq zqC hsSb;have eb_1q5:=hsSb k1q5 _ zqA;have eb_2q5:=hsSb k2q5 _ zqA;have eb_3q5:=hsSb k3q5 _ zqA;have eb_4q5:=hsSb k4q5 _ zqA;have eb_5q5:=hsSb k5q5 _ zqA;refine Yc (by rfl) ?_;refine Xk (V:= .str lvWb) (by rfl) (by rfl) (by rw[<-hjb];exact qdj wz _ _ (ZA 32 Lb) [32] hstb (by omega) (by rw[hjb];decide)) ?_;simp+decide only[qh,qi,qj,qo,ev,qZ,qW,putD,Vz,VA,VB,Ka,VC,VD,Kb,and_true,↓XY,Qa,agP,XH,gv,Qw,QJ,QI,QC,Qk,Qi,ZC,implies_true,VK,decide_true,decide_false,VL,VM,Qc,Qb,forall_const,false_implies,Qj,Qe,J4,VN,VO,VP,VQ,VS,VT,VU,XE,cond_false,Zh,Zg,Zj,Zi,Xu,qbw,Xp,Xr,Xo,↓XR,Xw,Xb,QM,QL,QG,XC,XB,XA,Xz,Xl,Xy,↓qY,qR,↓Zy,decide_true,decide_false,VL,VM,Qc,Qb,forall_const,false_implies,Qj,Qe,J4,VN,VO,VP,VQ,VS,VT,VU,QA,cond_true,cond_false,qN,ne_eq,not_false_eq_true,qM wz eb_1q5,qM wz eb_2q5,qM wz eb_3q5,qM wz eb_4q5,qM wz eb_5q5,ne_2q5_1q5,ne_2q5_1q5.symm,ne_3q5_1q5,ne_3q5_1q5.symm,ne_3q5_2q5,ne_3q5_2q5.symm,ne_4q5_1q5,ne_4q5_1q5.symm,ne_4q5_2q5,ne_4q5_2q5.symm,ne_4q5_3q5,ne_4q5_3q5.symm,ne_5q5_1q5,ne_5q5_1q5.symm,ne_5q5_2q5,ne_5q5_2q5.symm,ne_5q5_3q5,ne_5q5_3q5.symm,ne_5q5_4q5,ne_5q5_4q5.symm,qO,qJ,VE,setAt,VF,Kj,qC,VG,Kn,Jp,Nat.reduceAdd,qF,qG,qI,qf,qK,qa,qz,qd,qE,qc,qA,qg,qH,qy,allLive,J4,tokV,posV,faultV,hvla,hvna,hvlb,hvnb,hvlc,hvnc,hvld,hvnd,hvlr,hvnr];repeat (with_reducible refine And.intro ?_ ?_;· first|trivial|omega|(intro hg;simp only[Ky,JH,Jh,VH,VI,VJ,decide_eq_true_eq,decide_eq_false_iff_not,qU]at hg;omega))
  refine Yc (by rfl) ?_;refine QT (by rfl) (by rfl) (qrv wz 32 _ rvb Lb (hvb.mono (by repeat (first|exact Vg _|assumption|refine Bq ?_ (V8 (by assumption))|refine Bq ?_ (by assumption)))) hsmb (by omega)) fun x8q12 h8q12 hx8q12=>?_;obtain⟨rfl,hsC⟩:=hx8q12;rw[qoo hppb];have hs_h8q12:Sub h h8q12:=Bq zqC hsC;have hr_h8q12:Sub h8q6 h8q12:=Bq zqC hsC;have eb_1q5:=hsC k1q5 _ zqA;have eb_2q5:=hsC k2q5 _ zqA;have eb_3q5:=hsC k3q5 _ zqA;have eb_4q5:=hsC k4q5 _ zqA;have eb_5q5:=hsC k5q5 _ zqA;simp+decide only[qh,qi,qj,qo,ev,qZ,qW,putD,Vz,VA,VB,Ka,VC,VD,Kb,and_true,↓XY,Qa,agP,XH,gv,Qw,QJ,QI,QC,Qk,Qi,ZC,implies_true,VK,decide_true,decide_false,VL,VM,Qc,Qb,forall_const,false_implies,Qj,Qe,J4,VN,VO,VP,VQ,VS,VT,VU,Qm,cond_false,Zh,Zg,Zj,Zi,Qg,qby,Xp,Xr,Xo,↓XR,Xw,Xb,QM,QL,QG,XC,XB,XA,Xz,Xl,Xy,decide_true,decide_false,VL,VM,Qc,Qb,forall_const,false_implies,Qj,Qe,J4,VN,VO,VP,VQ,VS,VT,VU,QA,cond_true,cond_false,qN,ne_eq,not_false_eq_true,qM wz eb_1q5,qM wz eb_2q5,qM wz eb_3q5,qM wz eb_4q5,qM wz eb_5q5,ne_2q5_1q5,ne_2q5_1q5.symm,ne_3q5_1q5,ne_3q5_1q5.symm,ne_3q5_2q5,ne_3q5_2q5.symm,ne_4q5_1q5,ne_4q5_1q5.symm,ne_4q5_2q5,ne_4q5_2q5.symm,ne_4q5_3q5,ne_4q5_3q5.symm,ne_5q5_1q5,ne_5q5_1q5.symm,ne_5q5_2q5,ne_5q5_2q5.symm,ne_5q5_3q5,ne_5q5_3q5.symm,ne_5q5_4q5,ne_5q5_4q5.symm,qO,qJ,VE,setAt,VF,Kj,qC,VG,Kn,Jp,Nat.reduceAdd,qF,qG,qI,qf,qK,qa,qz,qd,qE,qc,qA,qg,qH,qy,allLive,J4,tokV,posV,faultV,hvla,hvna,hvlb,hvnb,hvlc,hvnc,hvld,hvnd,hvlr,hvnr];repeat (with_reducible refine And.intro ?_ ?_;· first|trivial|omega|(intro hg;simp only[Ky,JH,Jh,VH,VI,VJ,decide_eq_true_eq,decide_eq_false_iff_not,qU]at hg;omega))
  apply hK;clear hK K;refine Qu (b:=_) rfl (fun hb2=>?_) (fun hb2=>?_)
  ·cases hb2
  ·try simp only[decide_eq_true_eq,decide_eq_false_iff_not,Jh,VJ,Ky,VH,JH,VI,VV,VW,reduceCtorEq]at hb2
   refine QE ?_;change Awp _ _ _ _ _ _ _;refine Qr ?_;refine awp_rseq [118] (by rfl) fun K hK=>?_;simp+decide only[qh,qi,qj,qo,ev,qZ,qW,putD,Vz,VA,VB,Ka,VC,VD,Kb,and_true,↓qY,qR,decide_true,decide_false,VL,VM,Qc,Qb,forall_const,false_implies,Qj,Qe,J4,VN,VO,VP,VQ,VS,VT,VU,QA,cond_true,cond_false,qN,ne_eq,not_false_eq_true,qM wz eb_1q5,qM wz eb_2q5,qM wz eb_3q5,qM wz eb_4q5,qM wz eb_5q5,ne_2q5_1q5,ne_2q5_1q5.symm,ne_3q5_1q5,ne_3q5_1q5.symm,ne_3q5_2q5,ne_3q5_2q5.symm,ne_4q5_1q5,ne_4q5_1q5.symm,ne_4q5_2q5,ne_4q5_2q5.symm,ne_4q5_3q5,ne_4q5_3q5.symm,ne_5q5_1q5,ne_5q5_1q5.symm,ne_5q5_2q5,ne_5q5_2q5.symm,ne_5q5_3q5,ne_5q5_3q5.symm,ne_5q5_4q5,ne_5q5_4q5.symm,qO,qJ,VE,setAt,VF,Kj,qC,VG,Kn,Jp,Nat.reduceAdd,qF,qG,qI,qf,qK,qa,qz,qd,qE,qc,qA,qg,qH,qy,allLive,J4,tokV,posV,faultV,hvla,hvna,hvlb,hvnb,hvlc,hvnc,hvld,hvnd,hvlr,hvnr];repeat (with_reducible refine And.intro ?_ ?_;· first|trivial|omega|(intro hg;simp only[Ky,JH,Jh,VH,VI,VJ,decide_eq_true_eq,decide_eq_false_iff_not,qU]at hg;omega))
   refine QT (by rfl) (by rfl) (qbD wz _ rvc Lc (hvc.mono (by repeat (first|exact Vg _|assumption|refine Bq ?_ (V8 (by assumption))|refine Bq ?_ (by assumption)))) hsmc htxc hslc) fun x10q1 h10q1 hx10q1=>?_;obtain⟨hstc,hsSc⟩:=hx10q1;have hs_h10q1:Sub h h10q1:=Bq zqC hsSc;have hr_h10q1:Sub h8q12 h10q1:=Bq zqC hsSc;have eb_1q5:=hsSc k1q5 _ zqA;have eb_2q5:=hsSc k2q5 _ zqA;have eb_3q5:=hsSc k3q5 _ zqA;have eb_4q5:=hsSc k4q5 _ zqA;have eb_5q5:=hsSc k5q5 _ zqA;refine Xk (V:= .str lvWc) (by rfl) (by rfl) (by rw[<-hjc];exact qdj wz _ _ (ZA 32 Lc) [32] hstc (by omega) (by rw[hjc];decide)) ?_;simp+decide only[qh,qi,qj,qo,ev,qZ,qW,putD,Vz,VA,VB,Ka,VC,VD,Kb,and_true,↓Qh,Qa,XE,cond_false,Xu,qbw,↓qY,qR,↓Zy,agP,XH,gv,Qw,QJ,QI,QC,Qk,Qi,ZC,implies_true,VK,decide_true,decide_false,VL,VM,Qc,Qb,forall_const,false_implies,Qj,Qe,J4,VN,VO,VP,VQ,VS,VT,VU,Xp,Xr,Xo,decide_true,decide_false,VL,VM,Qc,Qb,forall_const,false_implies,Qj,Qe,J4,VN,VO,VP,VQ,VS,VT,VU,QA,cond_true,cond_false,qN,ne_eq,not_false_eq_true,qM wz eb_1q5,qM wz eb_2q5,qM wz eb_3q5,qM wz eb_4q5,qM wz eb_5q5,ne_2q5_1q5,ne_2q5_1q5.symm,ne_3q5_1q5,ne_3q5_1q5.symm,ne_3q5_2q5,ne_3q5_2q5.symm,ne_4q5_1q5,ne_4q5_1q5.symm,ne_4q5_2q5,ne_4q5_2q5.symm,ne_4q5_3q5,ne_4q5_3q5.symm,ne_5q5_1q5,ne_5q5_1q5.symm,ne_5q5_2q5,ne_5q5_2q5.symm,ne_5q5_3q5,ne_5q5_3q5.symm,ne_5q5_4q5,ne_5q5_4q5.symm,qO,qJ,VE,setAt,VF,Kj,qC,VG,Kn,Jp,Nat.reduceAdd,qF,qG,qI,qf,qK,qa,qz,qd,qE,qc,qA,qg,qH,qy,allLive,J4,tokV,posV,faultV,hvla,hvna,hvlb,hvnb,hvlc,hvnc,hvld,hvnd,hvlr,hvnr];repeat (with_reducible refine And.intro ?_ ?_;· first|trivial|omega|(intro hg;simp only[Ky,JH,Jh,VH,VI,VJ,decide_eq_true_eq,decide_eq_false_iff_not,qU]at hg;omega))
   refine Yc (by rfl) ?_;refine QT (by rfl) (by rfl) (qbD wz _ rvd Ld (hvd.mono (by repeat (first|exact Vg _|assumption|refine Bq ?_ (V8 (by assumption))|refine Bq ?_ (by assumption)))) hsmd htxd hsld) fun x10q6 h10q6 hx10q6=>?_;obtain⟨hstd,hsSd⟩:=hx10q6;have hs_h10q6:Sub h h10q6:=Bq zqC hsSd;have hr_h10q6:Sub h10q1 h10q6:=Bq zqC hsSd;have eb_1q5:=hsSd k1q5 _ zqA;have eb_2q5:=hsSd k2q5 _ zqA;have eb_3q5:=hsSd k3q5 _ zqA;have eb_4q5:=hsSd k4q5 _ zqA;have eb_5q5:=hsSd k5q5 _ zqA;refine Yc (by rfl) ?_;refine Xk (V:= .str lvWd) (by rfl) (by rfl) (by rw[<-hjd];exact qdj wz _ _ (ZA 32 Ld) [32] hstd (by omega) (by rw[hjd];decide)) ?_;simp+decide only[qh,qi,qj,qo,ev,qZ,qW,putD,Vz,VA,VB,Ka,VC,VD,Kb,and_true,↓XY,Qa,agP,XH,gv,Qw,QJ,QI,QC,Qk,Qi,ZC,implies_true,VK,decide_true,decide_false,VL,VM,Qc,Qb,forall_const,false_implies,Qj,Qe,J4,VN,VO,VP,VQ,VS,VT,VU,XE,cond_false,Zh,Zg,Zj,Zi,Xu,qbw,Xp,Xr,Xo,↓XR,Xw,Xb,QM,QL,QG,XC,XB,XA,Xz,Xl,Xy,↓qY,qR,↓Zy,decide_true,decide_false,VL,VM,Qc,Qb,forall_const,false_implies,Qj,Qe,J4,VN,VO,VP,VQ,VS,VT,VU,QA,cond_true,cond_false,qN,ne_eq,not_false_eq_true,qM wz eb_1q5,qM wz eb_2q5,qM wz eb_3q5,qM wz eb_4q5,qM wz eb_5q5,ne_2q5_1q5,ne_2q5_1q5.symm,ne_3q5_1q5,ne_3q5_1q5.symm,ne_3q5_2q5,ne_3q5_2q5.symm,ne_4q5_1q5,ne_4q5_1q5.symm,ne_4q5_2q5,ne_4q5_2q5.symm,ne_4q5_3q5,ne_4q5_3q5.symm,ne_5q5_1q5,ne_5q5_1q5.symm,ne_5q5_2q5,ne_5q5_2q5.symm,ne_5q5_3q5,ne_5q5_3q5.symm,ne_5q5_4q5,ne_5q5_4q5.symm,qO,qJ,VE,setAt,VF,Kj,qC,VG,Kn,Jp,Nat.reduceAdd,qF,qG,qI,qf,qK,qa,qz,qd,qE,qc,qA,qg,qH,qy,allLive,J4,tokV,posV,faultV,hvla,hvna,hvlb,hvnb,hvlc,hvnc,hvld,hvnd,hvlr,hvnr];repeat (with_reducible refine And.intro ?_ ?_;· first|trivial|omega|(intro hg;simp only[Ky,JH,Jh,VH,VI,VJ,decide_eq_true_eq,decide_eq_false_iff_not,qU]at hg;omega))
   refine Yc (by rfl) ?_;refine QT (by rfl) (by rfl) (qbD wz _ rvr Lr (hvr.mono (by repeat (first|exact Vg _|assumption|refine Bq ?_ (V8 (by assumption))|refine Bq ?_ (by assumption)))) hsmr htxr hslr) fun x10q12 h10q12 hx10q12=>?_;obtain⟨hstr,hsSr⟩:=hx10q12;have hs_h10q12:Sub h h10q12:=Bq zqC hsSr;have hr_h10q12:Sub h10q6 h10q12:=Bq zqC hsSr;have eb_1q5:=hsSr k1q5 _ zqA;have eb_2q5:=hsSr k2q5 _ zqA;have eb_3q5:=hsSr k3q5 _ zqA;have eb_4q5:=hsSr k4q5 _ zqA;have eb_5q5:=hsSr k5q5 _ zqA;refine Yc (by rfl) ?_;refine Xk (V:= .str lvWr) (by rfl) (by rfl) (by rw[<-hjr];exact qdj wz _ _ (ZA 32 Lr) [32] hstr (by omega) (by rw[hjr];decide)) ?_;simp+decide only[qh,qi,qj,qo,ev,qZ,qW,putD,Vz,VA,VB,Ka,VC,VD,Kb,and_true,↓XY,Qa,agP,XH,gv,Qw,QJ,QI,QC,Qk,Qi,ZC,implies_true,VK,decide_true,decide_false,VL,VM,Qc,Qb,forall_const,false_implies,Qj,Qe,J4,VN,VO,VP,VQ,VS,VT,VU,XE,cond_false,Zh,Zg,Zj,Zi,Xu,qbw,Xp,Xr,Xo,↓XR,Xw,Xb,QM,QL,QG,XC,XB,XA,Xz,Xl,Xy,decide_true,decide_false,VL,VM,Qc,Qb,forall_const,false_implies,Qj,Qe,J4,VN,VO,VP,VQ,VS,VT,VU,QA,cond_true,cond_false,qN,ne_eq,not_false_eq_true,qM wz eb_1q5,qM wz eb_2q5,qM wz eb_3q5,qM wz eb_4q5,qM wz eb_5q5,ne_2q5_1q5,ne_2q5_1q5.symm,ne_3q5_1q5,ne_3q5_1q5.symm,ne_3q5_2q5,ne_3q5_2q5.symm,ne_4q5_1q5,ne_4q5_1q5.symm,ne_4q5_2q5,ne_4q5_2q5.symm,ne_4q5_3q5,ne_4q5_3q5.symm,ne_5q5_1q5,ne_5q5_1q5.symm,ne_5q5_2q5,ne_5q5_2q5.symm,ne_5q5_3q5,ne_5q5_3q5.symm,ne_5q5_4q5,ne_5q5_4q5.symm,qO,qJ,VE,setAt,VF,Kj,qC,VG,Kn,Jp,Nat.reduceAdd,qF,qG,qI,qf,qK,qa,qz,qd,qE,qc,qA,qg,qH,qy,allLive,J4,tokV,posV,faultV,hvla,hvna,hvlb,hvnb,hvlc,hvnc,hvld,hvnd,hvlr,hvnr];repeat (with_reducible refine And.intro ?_ ?_;· first|trivial|omega|(intro hg;simp only[Ky,JH,Jh,VH,VI,VJ,decide_eq_true_eq,decide_eq_false_iff_not,qU]at hg;omega))
   apply hK;clear hK K;refine Qu (b:=_) rfl (fun hb3=>?_) (fun hb3=>?_)
   ·cases hb3
   ·try simp only[decide_eq_true_eq,decide_eq_false_iff_not,Jh,VJ,Ky,VH,JH,VI,VV,VW,reduceCtorEq]at hb3
    refine QE ?_;change Awp _ _ _ _ _ _ _;refine awp_rseq [11] (by rfl) fun K hK=>?_;refine QZ (cs:=lvT.map AVal.str) (by kernel_rfl) fun k12q0 hk12q0=>?_;have hn_12q0:h10q12 k12q0=none:=by first|assumption|(simp only[V7]at hk12q0;simp only[hk12q0])
    have hf_12q0:h k12q0=none:=Bh hs_h10q12 hn_12q0;have ne_12q0_1q5:k12q0≠k1q5:=BF hn_12q0 eb_1q5;have ne_12q0_2q5:k12q0≠k2q5:=BF hn_12q0 eb_2q5;have ne_12q0_3q5:k12q0≠k3q5:=BF hn_12q0 eb_3q5;have ne_12q0_4q5:k12q0≠k4q5:=BF hn_12q0 eb_4q5;have ne_12q0_5q5:k12q0≠k5q5:=BF hn_12q0 eb_5q5;simp+decide only[qh,qi,qj,qo,ev,qZ,qW,putD,Vz,VA,VB,Ka,VC,VD,Kb,and_true,↓qV,qP,decide_true,decide_false,VL,VM,Qc,Qb,forall_const,false_implies,Qj,Qe,J4,VN,VO,VP,VQ,VS,VT,VU,QA,cond_true,cond_false,qN,ne_eq,not_false_eq_true,ne_12q0_1q5,ne_12q0_1q5.symm,ne_12q0_2q5,ne_12q0_2q5.symm,ne_12q0_3q5,ne_12q0_3q5.symm,ne_12q0_4q5,ne_12q0_4q5.symm,ne_12q0_5q5,ne_12q0_5q5.symm,qM wz eb_1q5,qM wz eb_2q5,qM wz eb_3q5,qM wz eb_4q5,qM wz eb_5q5,ne_2q5_1q5,ne_2q5_1q5.symm,ne_3q5_1q5,ne_3q5_1q5.symm,ne_3q5_2q5,ne_3q5_2q5.symm,ne_4q5_1q5,ne_4q5_1q5.symm,ne_4q5_2q5,ne_4q5_2q5.symm,ne_4q5_3q5,ne_4q5_3q5.symm,ne_5q5_1q5,ne_5q5_1q5.symm,ne_5q5_2q5,ne_5q5_2q5.symm,ne_5q5_3q5,ne_5q5_3q5.symm,ne_5q5_4q5,ne_5q5_4q5.symm,qO,qJ,VE,setAt,VF,Kj,qC,VG,Kn,Jp,Nat.reduceAdd,qF,qG,qI,qf,qK,qa,qz,qd,qE,qc,qA,qg,qH,qy,allLive,J4,tokV,posV,faultV,hvla,hvna,hvlb,hvnb,hvlc,hvnc,hvld,hvnd,hvlr,hvnr];repeat (with_reducible refine And.intro ?_ ?_;· first|trivial|omega|(intro hg;simp only[Ky,JH,Jh,VH,VI,VJ,decide_eq_true_eq,decide_eq_false_iff_not,qU]at hg;omega))
    apply hK;clear hK K;refine Qr ?_;refine awp_rseq [11,12] (by rfl) fun K hK=>?_;simp+decide only[qh,qi,qj,qo,ev,qZ,qW,putD,Vz,VA,VB,Ka,VC,VD,Kb,and_true,↓qV,qP,decide_true,decide_false,VL,VM,Qc,Qb,forall_const,false_implies,Qj,Qe,J4,VN,VO,VP,VQ,VS,VT,VU,QA,cond_true,cond_false,qN,ne_eq,not_false_eq_true,ne_12q0_1q5,ne_12q0_1q5.symm,ne_12q0_2q5,ne_12q0_2q5.symm,ne_12q0_3q5,ne_12q0_3q5.symm,ne_12q0_4q5,ne_12q0_4q5.symm,ne_12q0_5q5,ne_12q0_5q5.symm,qM wz eb_1q5,qM wz eb_2q5,qM wz eb_3q5,qM wz eb_4q5,qM wz eb_5q5,ne_2q5_1q5,ne_2q5_1q5.symm,ne_3q5_1q5,ne_3q5_1q5.symm,ne_3q5_2q5,ne_3q5_2q5.symm,ne_4q5_1q5,ne_4q5_1q5.symm,ne_4q5_2q5,ne_4q5_2q5.symm,ne_4q5_3q5,ne_4q5_3q5.symm,ne_5q5_1q5,ne_5q5_1q5.symm,ne_5q5_2q5,ne_5q5_2q5.symm,ne_5q5_3q5,ne_5q5_3q5.symm,ne_5q5_4q5,ne_5q5_4q5.symm,qO,qJ,VE,setAt,VF,Kj,qC,VG,Kn,Jp,Nat.reduceAdd,qF,qG,qI,qf,qK,qa,qz,qd,qE,qc,qA,qg,qH,qy,allLive,J4,tokV,posV,faultV,hvla,hvna,hvlb,hvnb,hvlc,hvnc,hvld,hvnd,hvlr,hvnr];repeat (with_reducible refine And.intro ?_ ?_;· first|trivial|omega|(intro hg;simp only[Ky,JH,Jh,VH,VI,VJ,decide_eq_true_eq,decide_eq_false_iff_not,qU]at hg;omega))
    apply hK;clear hK K;refine QK ?_;refine XL [11,12] (fun g:LtG=>[(11, .slice (.own k12q0) 0 4 (.exact 4)),(12, .int .i64 g.i)]) (fun g:LtG=>g.H) (fun g:LtG=>g.i<=4/\Sub h g.H/\g.H k12q0=some ⟨lvT.map AVal.str,0⟩) (fun g:LtG=>4-g.i) ⟨0, .nilSlice,emp,_⟩ (by rfl) (Vg _) ⟨Jq _,zqB,zqA⟩ ?_;rintro⟨i,rv,rp,H⟩ ⟨hi,hs_H,eb_12q0⟩;simp only at hi hs_H eb_12q0|-
    refine Qr ?_;refine awp_rseq [11,12,121] (by rfl) fun K hK=>?_;simp+decide only[qh,qi,qj,qo,ev,qZ,qW,putD,Vz,VA,VB,Ka,VC,VD,Kb,and_true,↓qY,qR,↓Qh,Qa,Qm,cond_false,Qg,Zv,decide_true,decide_false,VL,VM,Qc,Qb,forall_const,false_implies,Qj,Qe,J4,VN,VO,VP,VQ,VS,VT,VU,QA,cond_true,cond_false,qN,ne_eq,not_false_eq_true,qM wz eb_12q0,qO,qJ,VE,setAt,VF,Kj,qC,VG,Kn,Jp,Nat.reduceAdd,qF,qG,qI,qf,qK,qa,qz,qd,qE,qc,qA,qg,qH,qy,allLive,J4,tokV,posV,faultV,hvla,hvna,hvlb,hvnb,hvlc,hvnc,hvld,hvnd,hvlr,hvnr];repeat (with_reducible refine And.intro ?_ ?_;· first|trivial|omega|(intro hg;simp only[Ky,JH,Jh,VH,VI,VJ,decide_eq_true_eq,decide_eq_false_iff_not,qU]at hg;omega))
    apply hK;clear hK K;refine Qu (b:=_) rfl (fun hb4=>?_) (fun hb4=>?_)
    ·try simp only[decide_eq_true_eq,decide_eq_false_iff_not,Jh,VJ,Ky,VH,JH,VI,VV,VW,reduceCtorEq]at hb4
     have hi':i<4:=by omega
     obtain⟨s,hs⟩:∃s,s=lvT.getD i []:=⟨_,rfl⟩
     obtain⟨ln,hln⟩:∃ln,ln=lvL.getD i 0:=⟨_,rfl⟩
     have es:=qcP (wz:=wz) eb_12q0 hi';rw[<-hs,qM wz eb_12q0]at es;have hbad:=Jz.1 qsp i (JA.2 hi');rw[<-hs,<-hln,Ky,Ky,decide_eq_true_eq]at hbad;obtain⟨hbad,hsl,hsa⟩:=hbad;have hi4:((i:Int)<4)=True:=eq_true (by omega);have hwi:IntKind.i64.wrap ((i:Int)+1)=((i+1:Nat):Int):=by rw[wrap_i64 (by omega) (by omega)];omega
     have hcell:([AVal.int .i64 5, .int .i64 1, .int .i64 1, .int .i64 1]:List AVal).getD i .dead= .int .i64 ln:=by
      rw[hln];have q:i=0\/i=1\/i=2\/i=3:=by omega
      rcases q with rfl|rfl|rfl|rfl<;>rfl
     refine QE ?_;change Awp _ _ _ _ _ _ _;refine Qr ?_;refine QK ?_;refine awp_rseq [11,12,14] (by rfl) fun K hK=>?_;simp+decide only[qh,qi,qj,qo,ev,qZ,qW,putD,Vz,VA,VB,Ka,VC,VD,Kb,and_true,↓qY,qR,↓QU,QN,Ql Tryd.underlying22 sz9,↓Qv,Qf ag9,decide_true,decide_false,VL,VM,Qc,Qb,forall_const,false_implies,Qj,Qe,J4,VN,VO,VP,VQ,VS,VT,VU,QA,cond_true,cond_false,qN,ne_eq,not_false_eq_true,qM wz eb_12q0,qO,qJ,VE,setAt,VF,Kj,qC,VG,Kn,Jp,Nat.reduceAdd,qF,qG,qI,qf,qK,qa,qz,qd,qE,qc,qA,qg,qH,qy,allLive,J4,tokV,posV,faultV,hvla,hvna,hvlb,hvnb,hvlc,hvnc,hvld,hvnd,hvlr,hvnr,es,hi4,VX,V6,Jp];repeat (with_reducible refine And.intro ?_ ?_;· first|trivial|omega|(intro hg;simp only[Ky,JH,Jh,VH,VI,VJ,decide_eq_true_eq,decide_eq_false_iff_not,qU]at hg;omega))
     refine QT (by rfl) (by rfl) (WS wz hm ha _ s (by omega) hsa) fun x16q4 h16q4 hx16q4=>?_;obtain⟨ht16,hsT16⟩:=hx16q4;have hs_h16q4:Sub h h16q4:=Bq zqC hsT16;have hr_h16q4:Sub H h16q4:=Bq zqC hsT16;have eb_12q0:=hsT16 k12q0 _ zqA;refine QT (by rfl) (by rfl) (qdE wz hm ha (Za s) (YK (by omega)) (Ws (by omega)) _ x16q4 ht16) fun x16q5 h16q5 hx16q5=>?_;obtain⟨hsP16,e16⟩:=qmO hbad hx16q5;subst e16;have hs_h16q5:Sub h h16q5:=Bq zqC hsP16;have hr_h16q5:Sub h16q4 h16q5:=Bq zqC hsP16;have eb_12q0:=hsP16 k12q0 _ zqA;simp+decide only[qh,qi,qj,qo,ev,qZ,qW,putD,Vz,VA,VB,Ka,VC,VD,Kb,and_true,↓qY,qR,↓XW,XK,Zd,KX,JD,VG,Kn,decide_true,decide_false,VL,VM,Qc,Qb,forall_const,false_implies,Qj,Qe,J4,VN,VO,VP,VQ,VS,VT,VU,QA,cond_true,cond_false,qN,ne_eq,not_false_eq_true,qM wz eb_12q0,qO,qJ,VE,setAt,VF,Kj,qC,VG,Kn,Jp,Nat.reduceAdd,qF,qG,qI,qf,qK,qa,qz,qd,qE,qc,qA,qg,qH,qy,allLive,J4,tokV,posV,faultV,hvla,hvna,hvlb,hvnb,hvlc,hvnc,hvld,hvnd,hvlr,hvnr,es,hi4,VX,V6,Jp];repeat (with_reducible refine And.intro ?_ ?_;· first|trivial|omega|(intro hg;simp only[Ky,JH,Jh,VH,VI,VJ,decide_eq_true_eq,decide_eq_false_iff_not,qU]at hg;omega))
     refine XP qgw (cs:=[.int .i64 0, .int .i64 0, .int .i64 0]) (by rfl) fun k16q9 hk16q9=>?_;have hn_16q9:h16q5 k16q9=none:=by first|assumption|(simp only[V7]at hk16q9;simp only[hk16q9])
     have hf_16q9:h k16q9=none:=Bh hs_h16q5 hn_16q9;have ne_16q9_12q0:k16q9≠k12q0:=BF hn_16q9 eb_12q0;simp+decide only[qh,qi,qj,qo,ev,qZ,qW,putD,Vz,VA,VB,Ka,VC,VD,Kb,and_true,↓qV,qP,decide_true,decide_false,VL,VM,Qc,Qb,forall_const,false_implies,Qj,Qe,J4,VN,VO,VP,VQ,VS,VT,VU,QA,cond_true,cond_false,qN,ne_eq,not_false_eq_true,ne_16q9_12q0,ne_16q9_12q0.symm,qM wz eb_12q0,qO,qJ,VE,setAt,VF,Kj,qC,VG,Kn,Jp,Nat.reduceAdd,qF,qG,qI,qf,qK,qa,qz,qd,qE,qc,qA,qg,qH,qy,allLive,J4,tokV,posV,faultV,hvla,hvna,hvlb,hvnb,hvlc,hvnc,hvld,hvnd,hvlr,hvnr,es,hi4,VX,V6,Jp];repeat (with_reducible refine And.intro ?_ ?_;· first|trivial|omega|(intro hg;simp only[Ky,JH,Jh,VH,VI,VJ,decide_eq_true_eq,decide_eq_false_iff_not,qU]at hg;omega))
     refine QO (by rfl) (by rfl) zqA qaP (by rfl) (by rfl) zqD (Jq _) (by rfl) ?_;simp only[Bi,setAt,VE,VF,Kj,Jp,Nat.reduceAdd];simp+decide only[qh,qi,qj,qo,ev,qZ,qW,putD,Vz,VA,VB,Ka,VC,VD,Kb,and_true,decide_true,decide_false,VL,VM,Qc,Qb,forall_const,false_implies,Qj,Qe,J4,VN,VO,VP,VQ,VS,VT,VU,QA,cond_true,cond_false,qN,ne_eq,not_false_eq_true,ne_16q9_12q0,ne_16q9_12q0.symm,qM wz eb_12q0,qO,qJ,VE,setAt,VF,Kj,qC,VG,Kn,Jp,Nat.reduceAdd,qF,qG,qI,qf,qK,qa,qz,qd,qE,qc,qA,qg,qH,qy,allLive,J4,tokV,posV,faultV,hvla,hvna,hvlb,hvnb,hvlc,hvnc,hvld,hvnd,hvlr,hvnr,es,hi4,VX,V6,Jp];repeat (with_reducible refine And.intro ?_ ?_;· first|trivial|omega|(intro hg;simp only[Ky,JH,Jh,VH,VI,VJ,decide_eq_true_eq,decide_eq_false_iff_not,qU]at hg;omega))
     apply hK;clear hK K;refine qaE 8 [] [11,12,140] mixed (by kernel_rfl) (by rfl) fun K hK=>?_;simp only[List.take_succ_cons,List.take_zero,List.drop_succ_cons,Vk,List.take_nil,List.drop_nil];simp+decide only[qh,qi,qj,qo,ev,qZ,qW,putD,Vz,VA,VB,Ka,VC,VD,Kb,and_true,↓qaO,Yb,Xm qfC qaP,decide_true,decide_false,VL,VM,Qc,Qb,forall_const,false_implies,Qj,Qe,J4,VN,VO,VP,VQ,VS,VT,VU,QA,cond_true,cond_false,qN,ne_eq,not_false_eq_true,ne_16q9_12q0,ne_16q9_12q0.symm,qM wz eb_12q0,qO,qJ,VE,setAt,VF,Kj,qC,VG,Kn,Jp,Nat.reduceAdd,qF,qG,qI,qf,qK,qa,qz,qd,qE,qc,qA,qg,qH,qy,allLive,J4,tokV,posV,faultV,hvla,hvna,hvlb,hvnb,hvlc,hvnc,hvld,hvnd,hvlr,hvnr,hi4,hcell,VX,V6,Jp];repeat (with_reducible refine And.intro ?_ ?_;· first|trivial|omega|(intro hg;simp only[Ky,JH,Jh,VH,VI,VJ,decide_eq_true_eq,decide_eq_false_iff_not,qU]at hg;omega))
     refine qao (by rfl) ?_;refine QZ (cs:=[.int .i64 5, .int .i64 1, .int .i64 1, .int .i64 1]) (by kernel_rfl) fun k17q1 hk17q1=>?_;have ne_17q1_16q9:k17q1≠k16q9:=by simp only[V7]at hk17q1;simp only[hk17q1,ne_eq,not_false_eq_true]
     have hn_17q1:h16q5 k17q1=none:=by first|assumption|(simp only[V7]at hk17q1;simp only[hk17q1])
     have hf_17q1:h k17q1=none:=Bh hs_h16q5 hn_17q1;have ne_17q1_12q0:k17q1≠k12q0:=BF hn_17q1 eb_12q0;rw[qh];simp+decide only[qh,qi,qj,qo,ev,qZ,qW,putD,Vz,VA,VB,Ka,VC,VD,Kb,and_true,↓qaN,qR,↓WJ,Yb,Ql Tryd.underlying70 sz3,ZF,↓qaO,Qf ag3,↓qhc,YL,↓Yf,qfA,evP,Ke,Vh,WC,ZH,YN,qaH,Yk,Ur,YO,qfz,↓qeB,Qa,QB,cond_false,qff,ne28,decide_true,decide_false,VL,VM,Qc,Qb,forall_const,false_implies,Qj,Qe,J4,VN,VO,VP,VQ,VS,VT,VU,QA,cond_true,cond_false,qN,ne_eq,not_false_eq_true,ne_16q9_12q0,ne_16q9_12q0.symm,ne_17q1_16q9,ne_17q1_16q9.symm,ne_17q1_12q0,ne_17q1_12q0.symm,qM wz eb_12q0,qO,qJ,VE,setAt,VF,Kj,qC,VG,Kn,Jp,Nat.reduceAdd,qF,qG,qI,qf,qK,qa,qz,qd,qE,qc,qA,qg,qH,qy,allLive,J4,tokV,posV,faultV,hvla,hvna,hvlb,hvnb,hvlc,hvnc,hvld,hvnd,hvlr,hvnr,hi4,hcell,VX,V6,Jp];repeat (with_reducible refine And.intro ?_ ?_;· first|trivial|omega|(intro hg;simp only[Ky,JH,Jh,VH,VI,VJ,decide_eq_true_eq,decide_eq_false_iff_not,qU]at hg;omega))
     apply hK;clear hK K;refine Qu (b:=_) rfl (fun hb5=>?_) (fun hb5=>?_)
     ·simp at hb5
     ·try simp only[decide_eq_true_eq,decide_eq_false_iff_not,Jh,VJ,Ky,VH,JH,VI,VV,VW,reduceCtorEq]at hb5
      refine QE ?_;change Awp _ _ _ _ _ _ _;refine Zf [11,12] (by rfl) ?_;simp+decide only[qh,qi,qj,qo,ev,qZ,qW,putD,Vz,VA,VB,Ka,VC,VD,Kb,and_true,↓qY,qR,↓Qh,Qa,Qm,cond_false,Qg,XM,↓qV,qP,decide_true,decide_false,VL,VM,Qc,Qb,forall_const,false_implies,Qj,Qe,J4,VN,VO,VP,VQ,VS,VT,VU,QA,cond_true,cond_false,qN,ne_eq,not_false_eq_true,ne_16q9_12q0,ne_16q9_12q0.symm,ne_17q1_16q9,ne_17q1_16q9.symm,ne_17q1_12q0,ne_17q1_12q0.symm,qM wz eb_12q0,qO,qJ,VE,setAt,VF,Kj,qC,VG,Kn,Jp,Nat.reduceAdd,qF,qG,qI,qf,qK,qa,qz,qd,qE,qc,qA,qg,qH,qy,allLive,J4,tokV,posV,faultV,hvla,hvna,hvlb,hvnb,hvlc,hvnc,hvld,hvnd,hvlr,hvnr,hwi];try simp(disch:=omega)only[wrap_i64,wrap_u8]
      repeat (with_reducible refine And.intro ?_ ?_;· first|trivial|omega|(intro hg;simp only[Ky,JH,Jh,VH,VI,VJ,decide_eq_true_eq,decide_eq_false_iff_not,qU]at hg;omega))
      try simp only[QH,Qt]
      exact⟨⟨i+1, .nilSlice,emp,_⟩,rfl,Vg _,⟨hi',zqB,zqA⟩,by simp only;omega⟩
    ·try simp only[decide_eq_true_eq,decide_eq_false_iff_not,Jh,VJ,Ky,VH,JH,VI,VV,VW,reduceCtorEq]at hb4
     refine XJ ?_;change Awp _ _ _ _ _ _ _;refine awp_rseq [0] (by rfl) fun K hK=>?_;simp+decide only[qh,qi,qj,qo,ev,qZ,qW,putD,Vz,VA,VB,Ka,VC,VD,Kb,and_true,↓qV,qP,decide_true,decide_false,VL,VM,Qc,Qb,forall_const,false_implies,Qj,Qe,J4,VN,VO,VP,VQ,VS,VT,VU,QA,cond_true,cond_false,qN,ne_eq,not_false_eq_true,qM wz eb_12q0,qO,qJ,VE,setAt,VF,Kj,qC,VG,Kn,Jp,Nat.reduceAdd,qF,qG,qI,qf,qK,qa,qz,qd,qE,qc,qA,qg,qH,qy,allLive,J4,tokV,posV,faultV,hvla,hvna,hvlb,hvnb,hvlc,hvnc,hvld,hvnd,hvlr,hvnr];repeat (with_reducible refine And.intro ?_ ?_;· first|trivial|omega|(intro hg;simp only[Ky,JH,Jh,VH,VI,VJ,decide_eq_true_eq,decide_eq_false_iff_not,qU]at hg;omega))
     apply hK;clear hK K;refine Xe ?_;try simp only[QD,Qo]
     refine XT h zqC (Qs (Qy)) ?_;simp+decide only[qh,qi,qj,qo,ev,qZ,qW,putD,Vz,VA,VB,Ka,VC,VD,Kb,and_true,Xd,decide_true,decide_false,VL,VM,Qc,Qb,forall_const,false_implies,Qj,Qe,J4,VN,VO,VP,VQ,VS,VT,VU,QA,cond_true,cond_false,qN,ne_eq,not_false_eq_true,qM wz eb_12q0,qO,qJ,VE,setAt,VF,Kj,qC,VG,Kn,Jp,Nat.reduceAdd,qF,qG,qI,qf,qK,qa,qz,qd,qE,qc,qA,qg,qH,qy,allLive,J4,tokV,posV,faultV,hvla,hvna,hvlb,hvnb,hvlc,hvnc,hvld,hvnd,hvlr,hvnr];exact Vg _
end Go.Proofs.YtgiadjbiimkbiaaDoor
namespace Go.Stm
open Go.Col (Str FaultC okF)
open Go.Tok
open Go.Proofs.YtgiadjbiimkbiaaDoor (asciiB)
theorem qiy{a b:Str}(ha:asciiB a=true)(hb:asciiB b=true):asciiB (a++b)=true:=by
 unfold asciiB at*
 rw[List.all_append,ha,hb];rfl
end Go.Stm
namespace Go.AM
theorem qlN{P:Program}{wz:World}{n:FrameK}{Q:Exit->Slots->AHeap->Prop}{s:Slots}{h:AHeap}{id:Nat}{d e:Tmp}{t:TypeId}{m:Nat}{ps:List (Nat×Operand)}{ty ty':TypeId}{pos pos':String}{af af':Array Edge}{cs:List AVal}
 (hd:Xc n [⟨some d, .buildSlice t m ps.toArray,ty,pos,af,none⟩,⟨some e, .assign (.tmp d),ty',pos',af',none⟩]=true) (hb:qaT P t m (evP s ps)=some cs)
 (hk:∀k,h k=none->Q .normal (putD (putD s (some d) (.slice (.own k) 0 m (.exact m))) (some e) (ev (putD s (some d) (.slice (.own k) 0 m (.exact m))) (.tmp d))) (h.set k ⟨cs,0⟩)):
 Awp P wz n (.region id [⟨some d, .buildSlice t m ps.toArray,ty,pos,af,none⟩,⟨some e, .assign (.tmp d),ty',pos',af',none⟩].toArray false) Q s h:=by
 refine qeg hd ?_;refine QZ hb fun k hk0=>?_;rw[qV];exact⟨trivial,hk k hk0⟩
end Go.AM
namespace Go.Proofs.YtgiadjbiimkbiaaDoor
open Go.AM
open Go.Proofs
open Go.Col (Str FaultC okF)
open Go.Tok (TokC)
open Go.Stm
open Go.RowKit (Below)
set_option maxRecDepth 100000
end Go.Proofs.YtgiadjbiimkbiaaDoor
namespace Go.Stm
open Go.Col (Str FaultC okF)
open Go.Tok
theorem qhZ(W:Words)(l:List TokC):∀(f n:Nat),n<=l.length->n<=YJ W l f n/\YJ W l f n<=l.length
 |0,n,h=>⟨KL _,h⟩
 |f+1,n,h=>by
  rw[YJ];by_cases q:isK l n 1 [[79,70],[73,78]]=true/\qdd W l (n+1)=true
  ·rw[if_pos q]
   have h1:n+1<l.length:=by
    have:=q.2;unfold qdd at this;by_cases z:n+1<l.length
    ·exact z
    ·rw[if_neg z]at this;cases this
   have:=qhZ W l f (n+2) (by omega);omega
  ·rw[if_neg q];exact⟨KL _,h⟩
theorem qfJ{W:Words}{l:List TokC}{n:Nat}(h:ZG W l=some n):1<=n/\n<=l.length:=by
 unfold ZG at h;by_cases h1:qdd W l 0=true
 ·rw[if_pos h1]at h
  have h0:0<l.length:=by
   unfold qdd at h1;by_cases z:0<l.length
   ·exact z
   ·rw[if_neg z]at h1;cases h1
  obtain⟨q1,q2⟩:=qhZ W l l.length 1 h0;have g1:=Go.Proofs.YtgiadjbiimkbiaaDoor.groupE_le (l:=l) q2;have g2:=Go.Proofs.YtgiadjbiimkbiaaDoor.groupE_le (l:=l) (i:=YJ W l l.length 1+(Wt l (YJ W l l.length 1)).1) g1;simp only[Option.some.injEq]at h;subst h;split
  ·split
   ·exact⟨by omega,g2⟩
   ·exact⟨by omega,g1⟩
  ·exact⟨by omega,g1⟩
 ·rw[if_neg h1]at h
  split at h
  ·cases h
  ·rename_i hl
   have:=V5.2 hl;split at h
   ·cases h;omega
   ·cases h
def ZJ(W:Words):Nat->List TokC->List (List TokC)->List (List TokC)×FaultC
 |0,_,acc=>(acc,okF)
 |f+1,l,acc=>
  if l=[]then(acc,okF)
  else match ZG W l with
   |none=>([],⟨4,(l.getD 0 noT).line,(l.getD 0 noT).col⟩)
   |some n=>ZJ W f (l.drop n) (acc++[l.take n])
def Uj(W:Words)(l:List TokC):List (List TokC)×FaultC:=ZJ W l.length l []
end Go.Stm
namespace Go.Proofs.YtgiadjbiimkbiaaDoor
open Go.AM
open Go.Proofs
open Go.Col (Str FaultC okF)
open Go.Tok (TokC)
open Go.Stm
open Go.RowKit (Below)
set_option maxRecDepth 100000
def YA:Blk:=⟨[.int .i64 0, .int .i64 0, .int .i64 0],0⟩
theorem qpT{v:AVal}{p:AHeap}{xs:List (List AVal)}(h:GrowV 5 v p xs):XN [[Zo v]].flatten=true:=by rcases h with⟨rfl,_⟩|⟨k,c,rfl,_⟩<;>rfl
theorem qpf(wz:World)(h:AHeap)(v:AVal)(xs:List (List AVal))(hv:IsL wz h 1 v xs):ACall Tryd.prog wz 27 [v] h (fun r h'=>r=Zo v/\h'=h):=by
 have hlen:=hv.len Tryd.underlying36;have h3:=hv.slice3 Tryd.underlying36 qgc .i64 .i64 none rfl;refine QW (n:=9) (rs:=[.tmp 2]) Tryd.func27 rfl rfl rfl rfl (Vy rfl) ?_;simp only[QV];refine awp_rseq [0] (by rfl) fun K hK=>?_;simp+decide only[qh,qi,qj,qo,ev,qZ,qW,putD,Vz,VA,VB,Ka,VC,VD,Kb,and_true,↓qV,qP,hlen,h3];repeat (with_reducible refine And.intro ?_ ?_;· first|trivial|omega|(intro hg;simp only[Ky,JH,Jh,VH,VI,VJ,decide_eq_true_eq,decide_eq_false_iff_not,qU]at hg;omega))
 apply hK;clear hK K;refine awp_rseq [2] (by rfl) fun K hK=>?_;simp+decide only[qh,qi,qj,qo,ev,qZ,qW,putD,Vz,VA,VB,Ka,VC,VD,Kb,and_true,↓qY,qR,↓XG,Xf,Qz Tryd.underlying36,QR Tryd.underlying36,↓qap,Ug,evO,Ui Tryd.underlying36 qgc,Uh Tryd.underlying36 qgc,WI Tryd.underlying36 qgc,WH Tryd.underlying36 qgc,We Tryd.underlying36 qgc none none rfl rfl,qaL,qaf,Wz,Um,WA,↓qV,qP,hlen,h3];repeat (with_reducible refine And.intro ?_ ?_;· first|trivial|omega|(intro hg;simp only[Ky,JH,Jh,VH,VI,VJ,decide_eq_true_eq,decide_eq_false_iff_not,qU]at hg;omega))
 apply hK;clear hK K;refine Xe ?_;try simp only[QD,Qo]
 refine XT _ (Vg _) (Qs (Qy)) ?_;simp+decide only[qh,qi,qj,qo,ev,qZ,qW,putD,Vz,VA,VB,Ka,VC,VD,Kb,and_true,Xd,hlen,h3];all_goals first|rfl|exact⟨rfl,rfl⟩|(simp+decide only[Ka, *];done)|(trace_state;fail)
theorem qns(wz:World)(h:AHeap)(lc:AM.Loc)(o n:Nat)(c:Cap)(l:List TokC)(hv:IsL wz h 5 (.slice lc o n c) (l.map Zt))(hn:l≠[])(hl:l.length<=1000000):ACall Tryd.prog wz 26 [.slice lc o n c] h (fun r h'=>∃p,GrowV 5 r p (l.map Zt)/\AM.Sep [h,p] h'):=by
 have hn2:=V5.2 hn;have hS0:AM.Sep [h] h:=⟨fun p hp=>by rw[V4.1 hp];exact Vg _,by simp⟩
 refine QW (n:=8) (rs:=[.tmp 2]) Tryd.func26 rfl rfl rfl rfl (Vy rfl) ?_;simp only[QV];refine awp_rseq [0] (by rfl) fun K hK=>?_;simp+decide only[qh,qi,qj,qo,ev,qZ,qW,putD,Vz,VA,VB,Ka,VC,VD,Kb,and_true,↓qV,qP,qN,ne_eq,not_false_eq_true,qO,qJ,VE,setAt,VF,Kj,qC,VG,Kn,Jp,Nat.reduceAdd,qF,qG,qI,qf,qK,qa,qz,qd,qE,qc,qA,qg,qH,qy,allLive,J4,tokV,YA,Zw];repeat (with_reducible refine And.intro ?_ ?_;· first|trivial|omega|(intro hg;simp only[Ky,JH,Jh,VH,VI,VJ,decide_eq_true_eq,decide_eq_false_iff_not,qU]at hg;omega))
 apply hK;clear hK K;refine Qr ?_;refine awp_rseq [0,4] (by rfl) fun K hK=>?_;simp+decide only[qh,qi,qj,qo,ev,qZ,qW,putD,Vz,VA,VB,Ka,VC,VD,Kb,and_true,↓qY,qR,↓Qh,Qa,qbj,cond_false,qN,ne_eq,not_false_eq_true,qO,qJ,VE,setAt,VF,Kj,qC,VG,Kn,Jp,Nat.reduceAdd,qF,qG,qI,qf,qK,qa,qz,qd,qE,qc,qA,qg,qH,qy,allLive,J4,tokV,YA,Zw];repeat (with_reducible refine And.intro ?_ ?_;· first|trivial|omega|(intro hg;simp only[Ky,JH,Jh,VH,VI,VJ,decide_eq_true_eq,decide_eq_false_iff_not,qU]at hg;omega))
 apply hK;clear hK K;refine Qu (b:=_) rfl (fun hb1=>?_) (fun hb1=>?_)
 ·cases hb1
 ·try simp only[decide_eq_true_eq,decide_eq_false_iff_not,Jh,VJ,Ky,VH,JH,VI,VV,VW,reduceCtorEq]at hb1
  refine QE ?_;change Awp _ _ _ _ _ _ _;refine awp_rseq [2] (by rfl) fun K hK=>?_;refine QZ (cs:=[]) (by kernel_rfl) fun k3q0 hk3q0=>?_;try have hf_3q0:h k3q0=none:=by first|assumption|(simp only[V7]at hk3q0;simp only[hk3q0])
  simp+decide only[qh,qi,qj,qo,ev,qZ,qW,putD,Vz,VA,VB,Ka,VC,VD,Kb,and_true,↓qY,qR,qN,ne_eq,not_false_eq_true,qO,qJ,VE,setAt,VF,Kj,qC,VG,Kn,Jp,Nat.reduceAdd,qF,qG,qI,qf,qK,qa,qz,qd,qE,qc,qA,qg,qH,qy,allLive,J4,tokV,YA,Zw];repeat (with_reducible refine And.intro ?_ ?_;· first|trivial|omega|(intro hg;simp only[Ky,JH,Jh,VH,VI,VJ,decide_eq_true_eq,decide_eq_false_iff_not,qU]at hg;omega))
  refine UN (v:= .slice (.own k3q0) 0 0 (.exact 0)) (xs:=[]) (ys:=l.map Zt) (by rfl) (by rfl) Tryd.underlying31 Tryd.underlying31 (fun k e=>by cases e) Ye qnt qjy (by rfl) (by decide) (by rfl) (.mk _ _ _ _ _ rfl (fun x hx=>by cases hx) rfl rfl (KL _)) (by rfl) (hv.mono zqB) (by rw[Jn];omega) (by rw[Jn];simp only[JD];omega) (by rw[Jn];simp only[JD];omega) fun k3q2 hk3q2 hv32=>?_;have hS2:=Sep.lay (hS0.forget (V8 hk3q0)) hk3q2 (⟨([]++l.map Zt).flatten,0⟩:Blk);simp+decide only[qh,qi,qj,qo,ev,qZ,qW,putD,Vz,VA,VB,Ka,VC,VD,Kb,and_true,↓qV,qP,qN,ne_eq,not_false_eq_true,qO,qJ,VE,setAt,VF,Kj,qC,VG,Kn,Jp,Nat.reduceAdd,qF,qG,qI,qf,qK,qa,qz,qd,qE,qc,qA,qg,qH,qy,allLive,J4,tokV,YA,Zw];repeat (with_reducible refine And.intro ?_ ?_;· first|trivial|omega|(intro hg;simp only[Ky,JH,Jh,VH,VI,VJ,decide_eq_true_eq,decide_eq_false_iff_not,qU]at hg;omega))
  apply hK;clear hK K;refine Xe ?_;try simp only[QD,Qo]
  refine XD (Qs (Qy)) ?_;simp+decide only[qh,qi,qj,qo,ev,qZ,qW,putD,Vz,VA,VB,Ka,VC,VD,Kb,and_true,Xd,qN,ne_eq,not_false_eq_true,qO,qJ,VE,setAt,VF,Kj,qC,VG,Kn,Jp,Nat.reduceAdd,qF,qG,qI,qf,qK,qa,qz,qd,qE,qc,qA,qg,qH,qy,allLive,J4,tokV,YA,Zw];have e0:(([]:List (List AVal))++l.map Zt).flatten=(l.map Zt).flatten:=by simp
  rw[e0]at hS2;refine⟨_,?_,one k3q2 ⟨(l.map Zt).flatten,0⟩,GrowV.new (by simp) (.inr rfl) qmI ?_ rfl,hS2⟩
  ·rw[e0];exact Vg _
  exact(YF.2 fun x hx=>by obtain⟨t,_,rfl⟩:=JI.1 hx;rfl)
theorem qpa(wz:World)(h:AHeap)(v:AVal)(l:List TokC)(hv:IsL wz h 5 v (l.map Zt))(hn:l≠[])(hl:l.length<=1000000):ACall Tryd.prog wz 26 [v] h (fun r h'=>∃p,GrowV 5 r p (l.map Zt)/\AM.Sep [h,p] h'):=by
 cases v<;>first
  |exact qns wz h _ _ _ _ l hv hn hl
  |(exfalso;obtain⟨lc,o,c,e⟩:=Yr hv (V5.2 hn);cases e)
abbrev OpQ:=List TokC×AVal
def opC(q:OpQ):List AVal:=[q.2]
def qrZ(wz:World)(l:List TokC)(h:AHeap):AVal->AHeap->Prop:=fun r h'=>AM.Sub h h'/\∃(qs:List OpQ) (rv:AVal),(Uj Xa l).1=qs.map (·.1)/\r= .tuple [Zo rv, .agg [.int .i64 (Uj Xa l).2.e, .int .i64 (Uj Xa l).2.line, .int .i64 (Uj Xa l).2.col]]/\IsL wz h' 1 rv (qs.map opC)/\∀q∈qs,∃u,q.2=Zo u/\IsL wz h' 5 u (q.1.map Zt)
structure OpsG where
 v:AVal
 l:List TokC
 f:Nat
 qs:List OpQ
 rv:AVal
 rp:AHeap
 B:AHeap
 H:AHeap
set_option maxHeartbeats 8000000 in
theorem qhm(wz:World)(ha:Asp wz)(h:AHeap)(v:AVal)(l:List TokC)(hv:IsL wz h 5 v (l.map Zt))(hl:l.length<=1000000):ACall Tryd.prog wz 9 [v] h (qrZ wz l h):=by
 have hlv:=hv.live;obtain⟨E,hE⟩:∃E,E=Uj Xa l:=⟨_,rfl⟩
 have hR:E=ZJ Xa l.length l []:=hE;unfold qrZ;rw[<-hE];refine QW (n:=46) (rs:=[.tmp 2, .cell 3 28]) Tryd.func9 rfl rfl rfl rfl (Vy rfl) ?_;simp only[QV];refine awp_rseq [0,3] (by rfl) fun K hK=>?_;simp+decide only[qh,qi,qj,qo,ev,qZ,qW,putD,Vz,VA,VB,Ka,VC,VD,Kb,and_true,↓qV,qP,qN,ne_eq,not_false_eq_true,qO,qJ,VE,setAt,VF,Kj,qC,VG,Kn,Jp,Nat.reduceAdd,qF,qG,qI,qf,qK,qa,qz,qd,qE,qc,qA,qg,qH,qy,allLive,J4,tokV,YA,hlv];repeat (with_reducible refine And.intro ?_ ?_;· first|trivial|omega|(intro hg;simp only[Ky,JH,Jh,VH,VI,VJ,decide_eq_true_eq,decide_eq_false_iff_not,qU]at hg;omega))
 refine XP qgw (cs:=[.int .i64 0, .int .i64 0, .int .i64 0]) (by rfl) fun k0q1 hk0q1=>?_;try have hf_0q1:h k0q1=none:=by first|assumption|(simp only[V7]at hk0q1;simp only[hk0q1])
 simp+decide only[qh,qi,qj,qo,ev,qZ,qW,putD,Vz,VA,VB,Ka,VC,VD,Kb,and_true,qN,ne_eq,not_false_eq_true,qO,qJ,VE,setAt,VF,Kj,qC,VG,Kn,Jp,Nat.reduceAdd,qF,qG,qI,qf,qK,qa,qz,qd,qE,qc,qA,qg,qH,qy,allLive,J4,tokV,YA,hlv];repeat (with_reducible refine And.intro ?_ ?_;· first|trivial|omega|(intro hg;simp only[Ky,JH,Jh,VH,VI,VJ,decide_eq_true_eq,decide_eq_false_iff_not,qU]at hg;omega))
 apply hK;clear hK K;have hS0:=(Sep.lay (ps:=[h]) ⟨fun p hp=>by rw[V4.1 hp];exact Vg _,by simp⟩ hk0q1 YA).emp;simp only[Kh,Jd]at hS0;have hS1:AM.Sep [one k0q1 YA,h,emp] (h.set k0q1 YA):=hS0.perm (List.Perm.swap _ _ _);refine awp_rseq [0,3,4] (by rfl) fun K hK=>?_;simp+decide only[qh,qi,qj,qo,ev,qZ,qW,putD,Vz,VA,VB,Ka,VC,VD,Kb,and_true,↓qV,qP,qN,ne_eq,not_false_eq_true,qO,qJ,VE,setAt,VF,Kj,qC,VG,Kn,Jp,Nat.reduceAdd,qF,qG,qI,qf,qK,qa,qz,qd,qE,qc,qA,qg,qH,qy,allLive,J4,tokV,YA,hlv];repeat (with_reducible refine And.intro ?_ ?_;· first|trivial|omega|(intro hg;simp only[Ky,JH,Jh,VH,VI,VJ,decide_eq_true_eq,decide_eq_false_iff_not,qU]at hg;omega))
 apply hK;clear hK K;refine Qr ?_;refine QK ?_;refine XL [0,3,4] (fun g:OpsG=>[(0,g.v),(3, .ptr (.own k0q1) 0),(4,g.rv)]) (fun g:OpsG=>g.H) (fun g:OpsG=>AM.Sep [one k0q1 YA,g.B,g.rp] g.H/\Sub h g.B/\IsL wz h 5 g.v (g.l.map Zt)/\g.l.length<=g.f/\GrowV 1 g.rv g.rp (g.qs.map opC)/\E=ZJ Xa g.f g.l (g.qs.map (·.1))/\(∀q∈g.qs,∃u,q.2=Zo u/\IsL wz g.B 5 u (q.1.map Zt))/\g.qs.length+g.l.length<=l.length) (fun g:OpsG=>g.l.length) ⟨v,l,l.length,[], .nilSlice,emp,h,h.set k0q1 YA⟩ (by rfl) (Vg _) ⟨hS1,Vg _,hv,KL _, .nil,hR,(fun q hq=>by cases hq),by simp⟩ ?_;rintro⟨v,l1,f,qs,rv,rp,B,H⟩ ⟨hS,hB,hv,hf,hrow,hg,hqs,hlen⟩;simp only at hS hB hv hf hrow hg hqs hlen|-
 have hs_H:Sub h H:=hB.trans (hS.in_ (i:=1) rfl);have eb_0q1:H k0q1=some YA:=hS.at_ (i:=0) rfl;have hlv:=hv.live;have nv:=YU hv;have hrl:=hrow.live;refine Qr ?_;refine awp_rseq [0,3,4,9] (by rfl) fun K hK=>?_;simp+decide only[qh,qi,qj,qo,ev,qZ,qW,putD,Vz,VA,VB,Ka,VC,VD,Kb,and_true,↓qY,qR,↓XG,Xf,Qz Tryd.underlying31,QR Tryd.underlying31,↓Qh,Qa,Qm,cond_false,Qg,Uu,qN,ne_eq,not_false_eq_true,qM wz eb_0q1,qO,qJ,VE,setAt,VF,Kj,qC,VG,Kn,Jp,Nat.reduceAdd,qF,qG,qI,qf,qK,qa,qz,qd,qE,qc,qA,qg,qH,qy,allLive,J4,tokV,YA,hlv,nv,hrl];repeat (with_reducible refine And.intro ?_ ?_;· first|trivial|omega|(intro hg;simp only[Ky,JH,Jh,VH,VI,VJ,decide_eq_true_eq,decide_eq_false_iff_not,qU]at hg;omega))
 apply hK;clear hK K;refine Qu (b:=_) rfl (fun hb1=>?_) (fun hb1=>?_)
 ·try simp only[decide_eq_true_eq,decide_eq_false_iff_not,Jh,VJ,Ky,VH,JH,VI,VV,VW,reduceCtorEq]at hb1
  have hl1:0<l1.length:=by omega
  obtain⟨lc,o,c,hve⟩:=Yr hv hl1;obtain⟨f,rfl⟩:∃f',f=f'+1:=⟨f-1,by omega⟩
  have hne:l1≠[]:=fun e=>by rw[e]at hl1;cases hl1
  have hst:ZJ Xa (f+1) l1 (qs.map (·.1))=match ZG Xa l1 with
   |none=>([],⟨4,(l1.getD 0 noT).line,(l1.getD 0 noT).col⟩)
   |some n=>ZJ Xa f (l1.drop n) (qs.map (·.1)++[l1.take n]):=by rw[ZJ,if_neg hne]<;>cases ZG Xa l1<;>rfl
  rw[hst]at hg;refine QE ?_;change Awp _ _ _ _ _ _ _;refine QK ?_;refine awp_rseq [0,3,4,5,6] (by rfl) fun K hK=>?_;simp+decide only[qh,qi,qj,qo,ev,qZ,qW,putD,Vz,VA,VB,Ka,VC,VD,Kb,and_true,↓qY,qR,qN,ne_eq,not_false_eq_true,qM wz eb_0q1,qO,qJ,VE,setAt,VF,Kj,qC,VG,Kn,Jp,Nat.reduceAdd,qF,qG,qI,qf,qK,qa,qz,qd,qE,qc,qA,qg,qH,qy,allLive,J4,tokV,YA,hlv,nv,hrl];repeat (with_reducible refine And.intro ?_ ?_;· first|trivial|omega|(intro hg;simp only[Ky,JH,Jh,VH,VI,VJ,decide_eq_true_eq,decide_eq_false_iff_not,qU]at hg;omega))
  refine QT (by rfl) (by rfl) (qir wz ha _ v l1 (hv.mono hs_H) (by omega)) fun x3q1 h3q1 hx3q1=>?_;obtain⟨rfl,hs3⟩:=hx3q1;rw[qjY];have hs_h3q1:Sub h h3q1:=Bq zqC hs3;have hr_h3q1:Sub H h3q1:=Bq zqC hs3;have eb_0q1:=hs3 k0q1 _ zqA;simp+decide only[qh,qi,qj,qo,ev,qZ,qW,putD,Vz,VA,VB,Ka,VC,VD,Kb,and_true,↓qY,qR,↓XW,XK,Zd,KX,JD,VG,Kn,↓qV,qP,qN,ne_eq,not_false_eq_true,qM wz eb_0q1,qO,qJ,VE,setAt,VF,Kj,qC,VG,Kn,Jp,Nat.reduceAdd,qF,qG,qI,qf,qK,qa,qz,qd,qE,qc,qA,qg,qH,qy,allLive,J4,tokV,YA,hlv,nv,hrl];repeat (with_reducible refine And.intro ?_ ?_;· first|trivial|omega|(intro hg;simp only[Ky,JH,Jh,VH,VI,VJ,decide_eq_true_eq,decide_eq_false_iff_not,qU]at hg;omega))
  apply hK;clear hK K;refine Qr ?_;refine awp_rseq [0,3,4,5,26] (by rfl) fun K hK=>?_;simp+decide only[qh,qi,qj,qo,ev,qZ,qW,putD,Vz,VA,VB,Ka,VC,VD,Kb,and_true,↓qY,qR,↓Qh,Qa,Qm,cond_false,Qg,qby,↓Zy,agP,XH,gv,Qw,QJ,QI,QC,Qk,Qi,ZC,implies_true,VK,decide_true,decide_false,VL,VM,Qc,Qb,forall_const,false_implies,Qj,Qe,J4,VN,VO,VP,VQ,VS,VT,VU,Xp,Xr,Xo,↓XY,Zh,Zg,Zj,Zi,Zv,↓XR,Xw,Xb,QM,QL,QG,XC,XB,XA,Xz,Xl,Xy,↓qej,Xf,Qz Tryd.underlying31,QR Tryd.underlying31,qee,qef,QB,Uu,qN,ne_eq,not_false_eq_true,qM wz eb_0q1,qO,qJ,VE,setAt,VF,Kj,qC,VG,Kn,Jp,Nat.reduceAdd,qF,qG,qI,qf,qK,qa,qz,qd,qE,qc,qA,qg,qH,qy,allLive,J4,tokV,YA,hlv,nv,hrl];repeat (with_reducible refine And.intro ?_ ?_;· first|trivial|omega|(intro hg;simp only[Ky,JH,Jh,VH,VI,VJ,decide_eq_true_eq,decide_eq_false_iff_not,qU]at hg;omega))
  apply hK;clear hK K;refine Qu (b:=_) rfl (fun hb2=>?_) (fun hb2=>?_)
  ·try simp only[decide_eq_true_eq,decide_eq_false_iff_not,Jh,VJ,Ky,VH,JH,VI,VV,VW,reduceCtorEq]at hb2
   have ho:ZG Xa l1=none:=by
    cases ho:ZG Xa l1 with
    |none=>rfl
    |some n=>
     exfalso;obtain⟨n1,n2⟩:=qfJ ho;simp[ho]at hb2;omega
   rw[ho]at hg;have hg:E=([],⟨4,(l1.getD 0 noT).line,(l1.getD 0 noT).col⟩):=hg;have hv3:=hv.mono (hs_H.trans hs3);rw[hve]at hv3;obtain⟨e0,e1,e2,e3,e4⟩:=Ut hv3 hl1;simp only[K7,K6]at e0 e1 e2 e3 e4;refine qdP 6 [2,3] mixed (by kernel_rfl) (by rfl) (by rfl) fun K hK=>?_;simp+decide only[qh,qi,qj,qo,ev,qZ,qW,putD,Vz,VA,VB,Ka,VC,VD,Kb,and_true,↓qY,qR,↓QU,QN,Ql Tryd.underlying31 Ye,↓Qn,Qd,qlw,↓Qv,Xm qta qpD,↓qar,YL,↓Yf,qfz,evP,Ke,Vh,WC,ZH,YN,qaH,Yk,Ur,YO,↓qV,qP,qN,ne_eq,not_false_eq_true,qM wz eb_0q1,qO,qJ,VE,setAt,VF,Kj,qC,VG,Kn,Jp,Nat.reduceAdd,qF,qG,qI,qf,qK,qa,qz,qd,qE,qc,qA,qg,qH,qy,allLive,J4,tokV,YA,hlv,nv,hrl,hve,e2,e3,Bt,K7,K6];repeat (with_reducible refine And.intro ?_ ?_;· first|trivial|omega|(intro hg;simp only[Ky,JH,Jh,VH,VI,VJ,decide_eq_true_eq,decide_eq_false_iff_not,qU]at hg;omega))
   refine QO (by rfl) (by rfl) zqA qaP (by rfl) (by rfl) zqD (Jq _) (by rfl) ?_;simp only[Bi,setAt,VE,VF,Kj,Jp,Nat.reduceAdd];simp+decide only[qh,qi,qj,qo,ev,qZ,qW,putD,Vz,VA,VB,Ka,VC,VD,Kb,and_true,qN,ne_eq,not_false_eq_true,qM wz eb_0q1,qO,qJ,VE,setAt,VF,Kj,qC,VG,Kn,Jp,Nat.reduceAdd,qF,qG,qI,qf,qK,qa,qz,qd,qE,qc,qA,qg,qH,qy,allLive,J4,tokV,YA,hlv,nv,hrl,hve,e2,e3,Bt,K7,K6];repeat (with_reducible refine And.intro ?_ ?_;· first|trivial|omega|(intro hg;simp only[Ky,JH,Jh,VH,VI,VJ,decide_eq_true_eq,decide_eq_false_iff_not,qU]at hg;omega))
   apply hK;clear hK K;refine Xe ?_;try simp only[QD,Qo]
   refine XT h zqC (?_) ?_
   ·simp+decide only[WG,WO,YB,qh,ev,VA,Ka,and_true,Kb,Vf,WO,YB,Xm qfC qaP,qcu,qC,VG,Kn,Jp,Nat.reduceAdd,setAt,VF,Kj,VE,qF,qG,qI,qf,qK,qa,qz,qd,qE,qc,qA,qg,qH,qy,allLive,J4,VO,qJ,qN,ne_eq,not_false_eq_true,qM wz eb_0q1,qO,qJ,VE,setAt,VF,Kj,qC,VG,Kn,Jp,Nat.reduceAdd,qF,qG,qI,qf,qK,qa,qz,qd,qE,qc,qA,qg,qH,qy,allLive,J4,tokV,YA,hlv,nv,hrl]
   simp+decide only[qh,qi,qj,qo,ev,qZ,qW,putD,Vz,VA,VB,Ka,VC,VD,Kb,and_true,qct,WO,YB,Xm qfC qaP,qcu,qC,VG,Kn,Jp,Nat.reduceAdd,setAt,VF,Kj,VE,qF,qG,qI,qf,qK,qa,qz,qd,qE,qc,qA,qg,qH,qy,allLive,J4,VO,qJ,qN,ne_eq,not_false_eq_true,qM wz eb_0q1,qO,qJ,VE,setAt,VF,Kj,qC,VG,Kn,Jp,Nat.reduceAdd,qF,qG,qI,qf,qK,qa,qz,qd,qE,qc,qA,qg,qH,qy,allLive,J4,tokV,YA,hlv,nv,hrl];rw[hg];exact⟨Vg _,[], .nilSlice,rfl,rfl, .nil,fun q hq=>by cases hq⟩
  ·try simp only[decide_eq_true_eq,decide_eq_false_iff_not,Jh,VJ,Ky,VH,JH,VI,VV,VW,reduceCtorEq]at hb2
   obtain⟨n,ho⟩:∃n,ZG Xa l1=some n:=by
    cases ho:ZG Xa l1 with
    |none=>exfalso;simp[ho]at hb2
    |some n=>exact⟨n,rfl⟩
   rw[ho]at hg;obtain⟨n1,n2⟩:=qfJ ho;have hnv:((Option.getD (ZG Xa l1) 0:Nat):Int)=n:=by rw[ho];rfl
   have h6:=hv.slice (P:=Tryd.prog) Tryd.underlying31 Ye none (some (.int .i64 n)) (l:=0) (r:=n) rfl rfl (by omega) (by omega) (by rw[Jn];omega);have h7:=hv.slice (P:=Tryd.prog) Tryd.underlying31 Ye (some (.int .i64 n)) none (l:=n) (r:=(l1.map Zt).length) rfl rfl (by omega) (by rw[Jn];omega) (by omega);have hv6:=hv.sub (i:=0) (j:=n) (Jq _) (by rw[Jn];omega);have hv7:=hv.sub (i:=n) (j:=l1.length) n2 (by rw[Jn];omega);rw[Nat.sub_zero,Vk,<-List.map_take]at hv6;rw[<-List.map_drop,List.take_of_length_le (by rw[Jn,K5];omega)]at hv7;have i0:Int.toNat 0=0:=rfl;have il:Int.toNat ((l1.map Zt).length:Int)=l1.length:=by rw[Jn];rfl
   refine QE ?_;change Awp _ _ _ _ _ _ _;have hS3:=hS.forget hs3;refine awp_rseq [0,3,4,5] (by rfl) fun K hK=>?_;simp+decide only[qh,qi,qj,qo,ev,qZ,qW,putD,Vz,VA,VB,Ka,VC,VD,Kb,and_true,↓qY,qR,↓qap,Ug,evO,Ui Tryd.underlying31 Ye,Uh Tryd.underlying31 Ye,WI Tryd.underlying31 Ye,WH Tryd.underlying31 Ye,We Tryd.underlying31 Ye none none rfl rfl,qaL,qaf,Wz,Um,WA,qN,ne_eq,not_false_eq_true,qM wz eb_0q1,qO,qJ,VE,setAt,VF,Kj,qC,VG,Kn,Jp,Nat.reduceAdd,qF,qG,qI,qf,qK,qa,qz,qd,qE,qc,qA,qg,qH,qy,allLive,J4,tokV,YA,hlv,nv,hrl,hnv,h6,h7,i0,il,VX];repeat (with_reducible refine And.intro ?_ ?_;· first|trivial|omega|(intro hg;simp only[Ky,JH,Jh,VH,VI,VJ,decide_eq_true_eq,decide_eq_false_iff_not,qU]at hg;omega))
   refine QT (by rfl) (by rfl) (qpa wz _ (qgD 5 v 0 n) (l1.take n) (hv6.mono (hs_H.trans hs3)) (fun e=>by rw[<-List.length_eq_zero_iff,K4]at e;omega) (by rw[K4];omega)) fun x6q4 h6q4 hx6q4=>?_;obtain⟨pc,hrowC,hSC⟩:=hx6q4;have hs6:Sub h3q1 h6q4:=hSC.in_ (i:=0) rfl;have hS6:AM.Sep [one k0q1 YA,B,rp,pc] h6q4:=Sep.nest hS3 hSC;have hcl:=(hrowC.isL (wz:=wz) (hS6.in_ (i:=3) rfl)).clip.live;have hs_h6q4:Sub h h6q4:=Bq zqC hs6;have hr_h6q4:Sub h3q1 h6q4:=Bq zqC hs6;have eb_0q1:=hs6 k0q1 _ zqA;refine Xk (V:=Zo x6q4) (by rfl) (by rfl) (qeO wz _ x6q4 _ (hrowC.isL (hS6.in_ (i:=3) rfl))) ?_;refine QZ (cs:=[Zo x6q4]) (by rcases hrowC with⟨e,_⟩|⟨k,c,e,_⟩<;>rw[e]<;>rfl) fun k6q6 hk6q6=>?_;have hn_6q6:h6q4 k6q6=none:=by first|assumption|(simp only[V7]at hk6q6;simp only[hk6q6])
   have hf_6q6:h k6q6=none:=Bh hs_h6q4 hn_6q6;have ne_6q6_0q1:k6q6≠k0q1:=BF hn_6q6 eb_0q1;refine Uo (es:=1) (v:=rv) (p:=rp) (xs:=qs.map opC) (ys:=[opC (l1.take n,Zo x6q4)]) (i:=2) (by rfl) (by rfl) Tryd.underlying36 Tryd.underlying36 (fun k e=>by cases e) qgc by31 ze31 (by rfl) (by decide) (by rfl) hrow rfl (hS6.forget (V8 hk6q6)) (by rfl) (IsL.own (Vf _ _ _) (fun x hx=>by rw[V4.1 hx];rfl) (by rfl) (by simp[opC,AM.allLive,hcl]) (.exact 1) (KL _)) (qpT hrowC) (by simp) (by simp only[Jn,JF];omega) (by simp only[Jn,JF];omega) fun rv2 rp2 h8 hrow2 _ hS8=>?_;have hrl2:=hrow2.live;simp only[Kj,VF]at hS8;have hS9:AM.Sep [one k0q1 YA,qaa [B,pc],rp2] h8:=by
    have q1:AM.Sep ([B,pc]++[one k0q1 YA,rp2]) h8:=hS8.perm ((List.Perm.swap _ _ _).trans (.cons _ ((List.Perm.cons _ (List.Perm.swap _ _ _)).trans (List.Perm.swap _ _ _))));exact(Sep.fold q1).perm (List.Perm.swap _ _ _)
   have hBd:Sub B (qaa [B,pc]):=ZE ((hS8.sub (qs:=[B,pc]) (by simp)).2) _ (by simp);have hpd:Sub pc (qaa [B,pc]):=ZE ((hS8.sub (qs:=[B,pc]) (by simp)).2) _ (by simp);simp+decide only[qh,qi,qj,qo,ev,qZ,qW,putD,Vz,VA,VB,Ka,VC,VD,Kb,and_true,↓qV,qP,qN,ne_eq,not_false_eq_true,ne_6q6_0q1,ne_6q6_0q1.symm,qM wz eb_0q1,qO,qJ,VE,setAt,VF,Kj,qC,VG,Kn,Jp,Nat.reduceAdd,qF,qG,qI,qf,qK,qa,qz,qd,qE,qc,qA,qg,qH,qy,allLive,J4,tokV,YA,hlv,nv,hrl,hnv,h6,h7,i0,il,VX,hcl];repeat (with_reducible refine And.intro ?_ ?_;· first|trivial|omega|(intro hg;simp only[Ky,JH,Jh,VH,VI,VJ,decide_eq_true_eq,decide_eq_false_iff_not,qU]at hg;omega))
   apply hK;clear hK K;refine Zf [0,3,4] (by rfl) ?_;simp+decide only[qh,qi,qj,qo,ev,qZ,qW,putD,Vz,VA,VB,Ka,VC,VD,Kb,and_true,↓qY,qR,↓qap,Ug,evO,Ui Tryd.underlying31 Ye,Uh Tryd.underlying31 Ye,WI Tryd.underlying31 Ye,WH Tryd.underlying31 Ye,We Tryd.underlying31 Ye none none rfl rfl,qaL,qaf,Wz,Um,WA,↓qV,qP,qN,ne_eq,not_false_eq_true,ne_6q6_0q1,ne_6q6_0q1.symm,qM wz eb_0q1,qO,qJ,VE,setAt,VF,Kj,qC,VG,Kn,Jp,Nat.reduceAdd,qF,qG,qI,qf,qK,qa,qz,qd,qE,qc,qA,qg,qH,qy,allLive,J4,tokV,YA,hlv,nv,hrl,hnv,h6,h7,i0,il,VX,hrl2];repeat (with_reducible refine And.intro ?_ ?_;· first|trivial|omega|(intro hg;simp only[Ky,JH,Jh,VH,VI,VJ,decide_eq_true_eq,decide_eq_false_iff_not,qU]at hg;omega))
   try simp only[QH,Qt]
   refine⟨⟨qgD 5 v n l1.length,l1.drop n,f,qs++[(l1.take n,Zo x6q4)],rv2,rp2,qaa [B,pc],h8⟩,by first|rfl|(rw[hve];rfl),Vg _,⟨hS9,hB.trans hBd,hv7,by simp only[K5];omega,by rw[VZ];exact hrow2,by simp only;rw[hg,VZ];rfl,fun q hq=>?_,by simp only[Jb,K5,JF];omega⟩,by simp only[K5];omega⟩;rcases JS.1 hq with hq|hq
   ·obtain⟨u,a,b⟩:=hqs q hq
    exact⟨u,a,b.mono hBd⟩
   ·rw[V4.1 hq]
    exact⟨x6q4,rfl,hrowC.isL hpd⟩
 ·try simp only[decide_eq_true_eq,decide_eq_false_iff_not,Jh,VJ,Ky,VH,JH,VI,VV,VW,reduceCtorEq]at hb1
  have hl0:l1=[]:=Kg (by omega);have hg0:E=(qs.map (·.1),okF):=by rw[hg,hl0];cases f<;>simp[ZJ]
  refine XJ ?_;change Awp _ _ _ _ _ _ _;refine awp_rseq [2,3] (by rfl) fun K hK=>?_;simp+decide only[qh,qi,qj,qo,ev,qZ,qW,putD,Vz,VA,VB,Ka,VC,VD,Kb,and_true,↓qY,qR,qN,ne_eq,not_false_eq_true,qM wz eb_0q1,qO,qJ,VE,setAt,VF,Kj,qC,VG,Kn,Jp,Nat.reduceAdd,qF,qG,qI,qf,qK,qa,qz,qd,qE,qc,qA,qg,qH,qy,allLive,J4,tokV,YA,hlv,nv,hrl];repeat (with_reducible refine And.intro ?_ ?_;· first|trivial|omega|(intro hg;simp only[Ky,JH,Jh,VH,VI,VJ,decide_eq_true_eq,decide_eq_false_iff_not,qU]at hg;omega))
  refine Xk (V:=Zo rv) (by rfl) (by rfl) (qpf wz _ rv _ (hrow.isL (hS.in_ (i:=2) rfl))) ?_;simp+decide only[qh,qi,qj,qo,ev,qZ,qW,putD,Vz,VA,VB,Ka,VC,VD,Kb,and_true,↓qar,YL,↓Yf,qlG,evP,Ke,Vh,WC,ZH,YN,qaH,Yk,Ur,YO,↓qV,qP,qN,ne_eq,not_false_eq_true,qM wz eb_0q1,qO,qJ,VE,setAt,VF,Kj,qC,VG,Kn,Jp,Nat.reduceAdd,qF,qG,qI,qf,qK,qa,qz,qd,qE,qc,qA,qg,qH,qy,allLive,J4,tokV,YA,hlv,nv,hrl];repeat (with_reducible refine And.intro ?_ ?_;· first|trivial|omega|(intro hg;simp only[Ky,JH,Jh,VH,VI,VJ,decide_eq_true_eq,decide_eq_false_iff_not,qU]at hg;omega))
  refine QO (by rfl) (by rfl) zqA qaP (by rfl) (by rfl) zqD (Jq _) (by rfl) ?_;simp only[Bi,setAt,VE,VF,Kj,Jp,Nat.reduceAdd];simp+decide only[qh,qi,qj,qo,ev,qZ,qW,putD,Vz,VA,VB,Ka,VC,VD,Kb,and_true,qN,ne_eq,not_false_eq_true,qM wz eb_0q1,qO,qJ,VE,setAt,VF,Kj,qC,VG,Kn,Jp,Nat.reduceAdd,qF,qG,qI,qf,qK,qa,qz,qd,qE,qc,qA,qg,qH,qy,allLive,J4,tokV,YA,hlv,nv,hrl];repeat (with_reducible refine And.intro ?_ ?_;· first|trivial|omega|(intro hg;simp only[Ky,JH,Jh,VH,VI,VJ,decide_eq_true_eq,decide_eq_false_iff_not,qU]at hg;omega))
  apply hK;clear hK K;refine Xe ?_;try simp only[QD,Qo]
  refine XD (?_) ?_
  ·simp+decide only[WG,WO,YB,qh,ev,VA,Ka,and_true,Kb,Vf,WO,YB,Xm qfC qaP,qcu,qC,VG,Kn,Jp,Nat.reduceAdd,setAt,VF,Kj,VE,qF,qG,qI,qf,qK,qa,qz,qd,qE,qc,qA,qg,qH,qy,allLive,J4,VO,qJ,qN,ne_eq,not_false_eq_true,qM wz eb_0q1,qO,qJ,VE,setAt,VF,Kj,qC,VG,Kn,Jp,Nat.reduceAdd,qF,qG,qI,qf,qK,qa,qz,qd,qE,qc,qA,qg,qH,qy,allLive,J4,tokV,YA,hlv,nv,hrl]
  simp+decide only[qh,qi,qj,qo,ev,qZ,qW,putD,Vz,VA,VB,Ka,VC,VD,Kb,and_true,qct,WO,YB,Xm qfC qaP,qcu,qC,VG,Kn,Jp,Nat.reduceAdd,setAt,VF,Kj,VE,qF,qG,qI,qf,qK,qa,qz,qd,qE,qc,qA,qg,qH,qy,allLive,J4,VO,qJ,qN,ne_eq,not_false_eq_true,qM wz eb_0q1,qO,qJ,VE,setAt,VF,Kj,qC,VG,Kn,Jp,Nat.reduceAdd,qF,qG,qI,qf,qK,qa,qz,qd,qE,qc,qA,qg,qH,qy,allLive,J4,tokV,YA,hlv,nv,hrl];have hS8:=hS.put (i:=0) rfl YA;rw[hg0];exact⟨_,Vg _,Bq hB (hS8.in_ (i:=1) rfl),qs,rv,rfl,rfl,hrow.isL (hS8.in_ (i:=2) rfl),fun q hq=>by obtain⟨u,a,b⟩:=hqs q hq;exact⟨u,a,b.mono (hS8.in_ (i:=1) rfl)⟩⟩
end Go.Proofs.YtgiadjbiimkbiaaDoor
namespace Go.Stm
open Go.Col (Str)
open Go.Tok
end Go.Stm
namespace Go.Proofs.YtgiadjbiimkbiaaDoor
open Go.AM
open Go.Proofs
open Go.Col (Str FaultC okF)
open Go.Tok (TokC)
open Go.Stm
open Go.RowKit (Below)
set_option maxRecDepth 100000
structure SaG where
 j:Nat
 H:AHeap
end Go.Proofs.YtgiadjbiimkbiaaDoor
namespace Go.Stm
open Go.Col (Str FaultC okF)
open Go.Tok
set_option maxRecDepth 100000
def opT:List Str:=[[65],
 [66,32,79,70,32,67],
 [49],
 [34,81,34],
 [84,32,40,32,49,32,41],
 [84,32,40,32,65,32,66,32,43,32,49,32,41],
 [88,32,40,32,50,32,58,32,51,32,41],
 [66,32,73,78,32,67,32,79,70,32,68,32,40,32,49,32,41,32,40,32,65,32,58,32,41],
 [83,80,65,67,69,83]]
def opW(k:Nat):List Str:=Lib.fields (opT.getD k [])
theorem qiN{k j:Nat}(hk:k<9)(hj:j<10)(p q:Nat)(R:List TokC):ZG Xa (Ze p (opW k)++qav q ((opW j++[[41]]).getD 0 [])::R)=some (opW k).length:=by
 have hk':k=0\/k=1\/k=2\/k=3\/k=4\/k=5\/k=6\/k=7\/k=8:=by omega
 have hj':j=0\/j=1\/j=2\/j=3\/j=4\/j=5\/j=6\/j=7\/j=8\/j=9:=by omega
 rcases hk' with rfl|rfl|rfl|rfl|rfl|rfl|rfl|rfl|rfl;all_goals rcases hj' with rfl|rfl|rfl|rfl|rfl|rfl|rfl|rfl|rfl|rfl
 all_goals (show _=_;kernel_rfl)
theorem qpV{k:Nat}(hk:k<9)(p:Nat):ZG Xa (Ze p (opW k))=some (opW k).length:=by
 have hk':k=0\/k=1\/k=2\/k=3\/k=4\/k=5\/k=6\/k=7\/k=8:=by omega
 rcases hk' with rfl|rfl|rfl|rfl|rfl|rfl|rfl|rfl|rfl;all_goals (show _=_;kernel_rfl)
theorem qpU(p:Nat)(R:List TokC):ZG Xa (qav p [41]::R)=none:=by kernel_rfl
theorem qiO{k:Nat}(hk:k<9):0<(opW k).length:=by
 have hk':k=0\/k=1\/k=2\/k=3\/k=4\/k=5\/k=6\/k=7\/k=8:=by omega
 rcases hk' with rfl|rfl|rfl|rfl|rfl|rfl|rfl|rfl|rfl;all_goals decide+kernel
def WY(ks:List Nat):List Str:=(ks.map opW).flatten
def qcZ:Nat->List Nat->List (List TokC)
 |_,[]=>[]
 |p,k::ks=>Ze p (opW k)::qcZ (p+(opW k).length) ks
theorem qgO:∀(ks:List Nat) (p:Nat),(qcZ p ks).length=ks.length
 |[],_=>rfl
 |k::ks,p=>by rw[qcZ,KX,KX,qgO ks]
theorem qjZ{k:Nat}(hk:k<9)(X:List Str):∃Y,opW k++X=(opW k++[[41]]).getD 0 []::Y:=by
 have:=qiO hk;cases e:opW k with
 |nil=>rw[e]at this;cases this
 |cons w ws=>exact⟨ws++X,rfl⟩
theorem qjV(k:Nat)(ks:List Nat)(X:List Str)(p:Nat):Ze p (WY (k::ks)++X)=Ze p (opW k)++Ze (p+(opW k).length) (WY ks++X):=by
 rw[show WY (k::ks)=opW k++WY ks from rfl,K9,qfi]
theorem qet(k:Nat)(p:Nat)(R:List TokC):(Ze p (opW k)++R).drop (opW k).length=R/\(Ze p (opW k)++R).take (opW k).length=Ze p (opW k):=by
 have:=Uk (opW k) p;constructor
 ·rw[<-this,List.drop_left]
 ·rw[<-this,List.take_left]
theorem qmi:∀(ks:List Nat) (_:∀k∈ks,k<9) (p:Nat) (acc:List (List TokC)) (f:Nat),(Ze p (WY ks)).length<=f->ZJ Xa f (Ze p (WY ks)) acc=(acc++qcZ p ks,okF)
 |[],_,p,acc,f,_=>by cases f<;>simp[WY,Ze,ZJ,qcZ]
 |k::ks,hk,p,acc,f,hf=>by
  have hk0:=hk k Je;have hks:∀k∈ks,k<9:=fun k h=>hk k (Jf _ h);have e:=qjV k ks [] p;rw[JE,JE]at e;have hpos:=qiO hk0;have hl:=Uk (opW k) p;rw[e]at hf|-
  rw[Jb,hl]at hf;cases f with
  |zero=>omega
  |succ f=>
   have hne:Ze p (opW k)++Ze (p+(opW k).length) (WY ks)≠[]:=fun z=>by
    have:=congrArg Ej z;rw[Jb,hl,JD]at this;omega
   have ho:ZG Xa (Ze p (opW k)++Ze (p+(opW k).length) (WY ks))=some (opW k).length:=by
    cases ks with
    |nil=>rw[show WY []=[]from rfl,Ze,JE];exact qpV hk0 p
    |cons j js=>
     obtain⟨Y,hY⟩:=qjZ (hks j Je) (WY js);rw[show WY (j::js)=opW j++WY js from rfl,hY,Ze];exact qiN hk0 (El (hks j Je)) p _ _
   rw[ZJ,if_neg hne,ho];simp only;rw[(qet k p _).1,(qet k p _).2,qmi ks hks _ _ f (by omega),K9];rfl
theorem qmj:∀(ks:List Nat) (_:∀k∈ks,k<9) (p:Nat) (acc:List (List TokC)) (f:Nat),(Ze p (WY ks++[[41],[65]])).length<=f->ZJ Xa f (Ze p (WY ks++[[41],[65]])) acc=([],⟨4,((p+(WY ks).length+1:Nat):Int),8⟩)
 |[],_,p,acc,f,hf=>by
  cases f with
  |zero=>simp[WY,Ze]at hf
  |succ f=>
   rw[show WY []=[]from rfl,Jd,Ze,ZJ,if_neg (by simp),qpU];rfl
 |k::ks,hk,p,acc,f,hf=>by
  have hk0:=hk k Je;have hks:∀k∈ks,k<9:=fun k h=>hk k (Jf _ h);have e:=qjV k ks [[41],[65]] p;have hpos:=qiO hk0;have hl:=Uk (opW k) p;rw[e]at hf|-
  rw[Jb,hl]at hf;cases f with
  |zero=>omega
  |succ f=>
   have hne:Ze p (opW k)++Ze (p+(opW k).length) (WY ks++[[41],[65]])≠[]:=fun z=>by
    have:=congrArg Ej z;rw[Jb,hl,JD]at this;omega
   have ho:ZG Xa (Ze p (opW k)++Ze (p+(opW k).length) (WY ks++[[41],[65]]))=some (opW k).length:=by
    cases ks with
    |nil=>
     rw[show WY []=[]from rfl,Jd,Ze];have:=qiN hk0 (by omega:9<10) p (p+(opW k).length) (Ze (p+(opW k).length+1) [[65]]);exact this
    |cons j js=>
     obtain⟨Y,hY⟩:=qjZ (hks j Je) (WY js++[[41],[65]]);rw[show WY (j::js)=opW j++WY js from rfl,K9,hY,Ze];exact qiN hk0 (El (hks j Je)) p _ _
   rw[ZJ,if_neg hne,ho];simp only;rw[(qet k p _).1,(qet k p _).2,qmj ks hks _ _ f (by omega)];rw[show WY (k::ks)=opW k++WY ks from rfl,Jb,show p+(opW k).length+(WY ks).length+1=p+((opW k).length+(WY ks).length)+1 by omega]
theorem qnh(i j:Nat)(w:Str):Wv (qav i w)=Wv (qav j w):=by
 rw[qav,qav];by_cases a:w.getD 0 0=34
 ·rw[if_pos a,if_pos a];rfl
 ·rw[if_neg a,if_neg a]
  by_cases b:48<=w.getD 0 0/\w.getD 0 0<=57
  ·rw[if_pos b,if_pos b];rfl
  ·rw[if_neg b,if_neg b]
   by_cases c:w=[46]
   ·rw[if_pos c,if_pos c];rfl
   ·rw[if_neg c,if_neg c]
    split<;>rfl
theorem qgU:∀(ws:List Str) (i j:Nat),(Ze i ws).map Wv=(Ze j ws).map Wv
 |[],_,_=>rfl
 |w::ws,i,j=>by rw[Ze,Ze,Ke,Ke,qnh i j,qgU ws (i+1) (j+1)]
theorem qif:∀(ks:List Nat) (p i:Nat),i<ks.length->∃q,(qcZ p ks).getD i []=Ze q (opW (ks.getD i 0))
 |[],_,i,h=>by cases h
 |k::ks,p,0,_=>⟨p,rfl⟩
 |k::ks,p,i+1,h=>by
  obtain⟨q,e⟩:=qif ks (p+(opW k).length) i (Nat.lt_of_succ_lt_succ h);exact⟨q,e⟩
theorem qfo(a b:Str):Lib.fields (a++32::b)=Lib.fields a++Lib.fields b:=by
 have go:∀(a cur:Str),Lib.fieldsGo cur (a++32::b)=Lib.fieldsGo cur a++Lib.fieldsGo [] b:=by
  intro a;induction a with
  |nil=>
   intro cur;have h32:Lib.isSp 32=true:=by decide
   simp only[Jd,Lib.fieldsGo,h32,if_true];split<;>simp
  |cons c a ih=>
   intro cur;simp only[Kh,Lib.fieldsGo];split
   ·split
    ·exact ih []
    ·rw[ih []];simp
   ·exact ih _
 exact go a []
def Uy:List Nat->Str
 |[]=>[]
 |k::ks=>32::opT.getD k []++Uy ks
theorem qjW:∀(a b:List Nat),Uy (a++b)=Uy a++Uy b
 |[],b=>rfl
 |k::a,b=>by rw[Kh,Uy,Uy,qjW a b];simp
theorem qfT:∀(ks:List Nat) (a X:Str),(X=[]\/∃Y,X=32::Y)->Lib.fields (a++(Uy ks++X))=Lib.fields a++(WY ks++Lib.fields X)
 |[],a,X,hX=>by
  rw[show WY []=[]from rfl,Jd,show Uy []=[]from rfl,Jd];rcases hX with rfl|⟨Y,rfl⟩
  ·rw[JE,show Lib.fields []=[]from rfl,JE]
  ·rw[qfo]
   have:Lib.fields (32::Y)=Lib.fields Y:=by have:=qfo [] Y;rw[Jd]at this;rw[this];rfl
   rw[this]
 |k::ks,a,X,hX=>by
  rw[Uy,K9,Kh,qfo,qfT ks (opT.getD k []) X hX];rw[show WY (k::ks)=opW k++WY ks from rfl,K9];rfl
theorem qhh(ks:List Nat)(X:Str)(hX:X=[]\/∃Y,X=32::Y):Lib.fields (Uy ks++X)=WY ks++Lib.fields X:=by
 have:=qfT ks [] X hX;rw[Jd]at this;rw[this];rfl
end Go.Stm
namespace Go.Stm
open Go.Col (Str FaultC okF)
open Go.Tok
open Go.Proofs.YtgiadjbiimkbiaaDoor (asciiB)
def qgf(l:List UInt8):List Nat:=l.map fun b=>b.toNat%9
theorem qpS{l:List UInt8}:∀k∈qgf l,k<9:=fun k hk=>by
 obtain⟨b,_,rfl⟩:=JI.1 hk;omega
theorem qnd{l:List UInt8}{i:Nat}(hi:i<l.length):Uy (qgf (l.take (i+1)))=Uy (qgf (l.take i))++(32::opT.getD ((l.getD i 0).toNat%9) []):=by
 rw[List.take_add_one,JB hi,qgf,VZ,qjW];simp[qgf,Uy,Ko,hi]
theorem qsm:(opT.all fun s=>asciiB s && decide (s.length<=30))=true:=by decide
theorem qgP(k:Nat):asciiB (opT.getD k [])=true/\(opT.getD k []).length<=30:=by
 by_cases h:k<opT.length
 ·rw[Ko,JB h]
  have:=Jz.1 qsm _ (Vr h);rw[Ky,decide_eq_true_eq]at this;exact this
 ·rw[Ko,Kr (by omega)]
  exact⟨rfl,Jq _⟩
theorem qgN:∀(ks:List Nat),(Uy ks).length<=31*ks.length
 |[]=>KL _
 |k::ks=>by
  have:=qgN ks;have:=(qgP k).2;rw[Uy,Jb,KX,KX];omega
theorem qcB:∀(ks:List Nat),asciiB (Uy ks)=true
 |[]=>rfl
 |k::ks=>by
  rw[Uy];exact qiy (by have:=(qgP k).1;unfold asciiB at*;rw[List.all_cons,this];rfl) (qcB ks)
theorem qie(ks:List Nat):Za (Uy ks)=Ze 0 (WY ks):=by
 have:=qhh ks [] (.inl rfl);rw[JE]at this;rw[Za,this,show Lib.fields []=[]from rfl,JE]
theorem qld(ks:List Nat):Za (Uy ks++[32,41,32,65])=Ze 0 (WY ks++[[41],[65]]):=by
 rw[Za,qhh ks [32,41,32,65] (.inr ⟨_,rfl⟩)];rfl
theorem qol{ks:List Nat}(hk:∀k∈ks,k<9):Uj Xa (Za (Uy ks))=(qcZ 0 ks,okF):=by
 unfold Uj;rw[qie,qmi ks hk 0 [] _ (KL _),Jd]
theorem qnc{ks:List Nat}(hk:∀k∈ks,k<9):Uj Xa (Za (Uy ks++[32,41,32,65]))=([],⟨4,((Za (Uy ks)).length+1:Nat),8⟩):=by
 unfold Uj;rw[qld,qmj ks hk 0 [] _ (KL _),qie,Uk,Jp]
def opJ(k:Nat):Str:=Lib.join ((Za (opT.getD k [])).map Wv) [32]
theorem qpW:((List.range 9).all fun k=>decide ((opJ k).length<=1000))=true:=by decide+kernel
theorem qom(k q:Nat):Lib.join ((Ze q (opW k)).map Wv) [32]=opJ k:=by rw[qgU (opW k) q 0];rfl
end Go.Stm
namespace Go.Proofs.YtgiadjbiimkbiaaDoor
open Go.AM
open Go.Proofs
open Go.Col (Str FaultC okF)
open Go.Tok (TokC)
open Go.Stm
open Go.RowKit (Below)
set_option maxRecDepth 100000
def u8C(b:UInt8):List AVal:=[.int .u8 b.toNat]
theorem qnK{wz:World}{h:AHeap}{lc:AM.Loc}{o n:Nat}{c:Cap}{l:List UInt8}(hv:IsL wz h 1 (.slice lc o n c) (l.map u8C)){i:Nat}(hi:i<l.length):rd wz h lc (o+i)= .int .u8 (l.getD i 0).toNat:=by
 have:=hv.at0 (i:=i) (by rw[Jn];exact hi) (by decide);rw[V6]at this;rw[this,getD_map (0:UInt8) hi];rfl
theorem qsl{wz:World}{h:AHeap}{lc:AM.Loc}{o n:Nat}{c:Cap}{qs:List OpQ}(hv:IsL wz h 1 (.slice lc o n c) (qs.map opC)){i:Nat}(hi:i<qs.length):rd wz h lc (o+i)=(qs.getD i ([], .nilSlice)).2:=by
 have:=hv.at0 (i:=i) (by rw[Jn];exact hi) (by decide);rw[V6]at this;rw[this,getD_map (([], .nilSlice):OpQ) hi];rfl
theorem qnV{s:Str}(hs:s.length<=30)(q:Nat):Short (Ze q (Lib.fields s))/\(Ze q (Lib.fields s)).length<=31:=
 ⟨qdc _ _ fun w hw=>Vb (qam w hw) (by omega),by rw[Uk];exact Vb (UV s) (by omega)⟩
theorem qkr(wz:World)(h:AHeap)(v:AVal)(l:List TokC)(hv:IsL wz h 5 v (l.map Zt))(hl:l.length<=1000000)(hsh:Short l):
 ACall Tryd.prog wz 11 [v] h (fun r h'=>IsStrs wz h' r (l.map Wv)/\AM.Sub h h'):=
 (qjj wz h v l hv hl hsh).mono fun r h' ⟨p,a,_,b⟩=>⟨a.isL (b.in_ (i:=1) rfl),b.in_ (i:=0) rfl⟩
set_option maxHeartbeats 16000000 in
theorem l_StatementsOperands(wz:World)(hm:MaxL wz)(ha:Asp wz)(h:AHeap)(y:AVal)(l:List UInt8)(hv:IsL wz h 1 y (l.map u8C)):
 ACall Tryd.prog wz 4 [y] h (fun x _=>x= .bool true):=by
 have hlv:=hv.live;have nv:∀H:AHeap,YG Tryd.prog H 35 y=⟨True, .int .i64 l.length⟩:=fun H=>by have:=hv.len Tryd.underlying35 H;rwa [Jn]at this
 obtain⟨ks,hks⟩:∃ks,ks=qgf l:=⟨_,rfl⟩
 have hkl:ks.length=l.length:=by rw[hks,qgf,Jn]
 have hk9:∀k∈ks,k<9:=by rw[hks];exact qpS
 obtain⟨T,hT⟩:∃T,T=opT:=⟨_,rfl⟩
 have hTl:T.length=9:=by rw[hT];rfl
 refine QW (n:=109) (rs:=[.tmp 2]) Tryd.func4 rfl rfl rfl rfl (Vy rfl) ?_;simp only[QV];refine awp_rseq [0] (by rfl) fun K hK=>?_;simp+decide only[qh,qi,qj,qo,ev,qZ,qW,putD,Vz,VA,VB,Ka,VC,VD,Kb,and_true,↓qV,qP,decide_true,decide_false,VL,VM,Qc,Qb,forall_const,false_implies,Qj,Qe,J4,VN,VO,VP,VQ,VS,VT,VU,QA,cond_true,cond_false,qN,ne_eq,not_false_eq_true,qO,qJ,VE,setAt,VF,Kj,qC,VG,Kn,Jp,Nat.reduceAdd,qF,qG,qI,qf,qK,qa,qz,qd,qE,qc,qA,qg,qH,qy,allLive,J4,tokV,posV,faultV,hlv,nv];repeat (with_reducible refine And.intro ?_ ?_;· first|trivial|omega|(intro hg;simp only[Ky,JH,Jh,VH,VI,VJ,decide_eq_true_eq,decide_eq_false_iff_not,qU]at hg;omega))
 apply hK;clear hK K;refine Qr ?_;refine awp_rseq [0,13] (by rfl) fun K hK=>?_;simp+decide only[qh,qi,qj,qo,ev,qZ,qW,putD,Vz,VA,VB,Ka,VC,VD,Kb,and_true,↓qY,qR,↓XG,Xf,Qz Tryd.underlying35,QR Tryd.underlying35,↓Qh,Qa,Qm,cond_false,Qg,Uu,decide_true,decide_false,VL,VM,Qc,Qb,forall_const,false_implies,Qj,Qe,J4,VN,VO,VP,VQ,VS,VT,VU,QA,cond_true,cond_false,qN,ne_eq,not_false_eq_true,qO,qJ,VE,setAt,VF,Kj,qC,VG,Kn,Jp,Nat.reduceAdd,qF,qG,qI,qf,qK,qa,qz,qd,qE,qc,qA,qg,qH,qy,allLive,J4,tokV,posV,faultV,hlv,nv];repeat (with_reducible refine And.intro ?_ ?_;· first|trivial|omega|(intro hg;simp only[Ky,JH,Jh,VH,VI,VJ,decide_eq_true_eq,decide_eq_false_iff_not,qU]at hg;omega))
 apply hK;clear hK K;refine Qu (b:=_) rfl (fun hb1=>?_) (fun hb1=>?_)
 ·try simp only[decide_eq_true_eq,decide_eq_false_iff_not,Jh,VJ,Ky,VH,JH,VI,VV,VW,reduceCtorEq]at hb1
  refine awp_rseq [2] (by rfl) fun K hK=>?_;refine QT (by rfl) (by rfl) (qis wz hm ha _) fun x2q0 h2q0 hx2q0=>?_;obtain⟨rfl,hs2⟩:=hx2q0;have hs_h2q0:Sub h h2q0:=Bq zqC hs2;have hr_h2q0:=hs_h2q0;simp+decide only[qh,qi,qj,qo,ev,qZ,qW,putD,Vz,VA,VB,Ka,VC,VD,Kb,and_true,↓qV,qP,decide_true,decide_false,VL,VM,Qc,Qb,forall_const,false_implies,Qj,Qe,J4,VN,VO,VP,VQ,VS,VT,VU,QA,cond_true,cond_false,qN,ne_eq,not_false_eq_true,qO,qJ,VE,setAt,VF,Kj,qC,VG,Kn,Jp,Nat.reduceAdd,qF,qG,qI,qf,qK,qa,qz,qd,qE,qc,qA,qg,qH,qy,allLive,J4,tokV,posV,faultV,hlv,nv];repeat (with_reducible refine And.intro ?_ ?_;· first|trivial|omega|(intro hg;simp only[Ky,JH,Jh,VH,VI,VJ,decide_eq_true_eq,decide_eq_false_iff_not,qU]at hg;omega))
  apply hK;clear hK K;refine Xe ?_;try simp only[QD,Qo]
  refine XT h zqC (Qs (Qy)) ?_;simp+decide only[qh,qi,qj,qo,ev,qZ,qW,putD,Vz,VA,VB,Ka,VC,VD,Kb,and_true,Xd,decide_true,decide_false,VL,VM,Qc,Qb,forall_const,false_implies,Qj,Qe,J4,VN,VO,VP,VQ,VS,VT,VU,QA,cond_true,cond_false,qN,ne_eq,not_false_eq_true,qO,qJ,VE,setAt,VF,Kj,qC,VG,Kn,Jp,Nat.reduceAdd,qF,qG,qI,qf,qK,qa,qz,qd,qE,qc,qA,qg,qH,qy,allLive,J4,tokV,posV,faultV,hlv,nv];all_goals first|rfl|exact⟨rfl,rfl⟩|(simp+decide only[Ka, *];done)|(trace_state;fail)
 ·try simp only[decide_eq_true_eq,decide_eq_false_iff_not,Jh,VJ,Ky,VH,JH,VI,VV,VW,reduceCtorEq]at hb1
  have hl20:l.length<=20:=by omega
  refine QE ?_;change Awp _ _ _ _ _ _ _;refine Qr ?_;refine qlN (cs:=T.map AVal.str) (by kernel_rfl) (by rw[hT];kernel_rfl) fun k3q0 hk3q0=>?_;simp only[QH];refine Awp.keep [0,3] ?_;simp+decide only[ev,putD,Vz,VA,VB,Ka,VC,VD];refine Awp.forget (h':=h.set k3q0 ⟨T.map AVal.str,0⟩) (Vg _) ?_;obtain⟨B,hB⟩:∃B,B=h.set k3q0 ⟨T.map AVal.str,0⟩:=⟨_,rfl⟩
  rw[<-hB];have hs_B:AM.Sub h B:=by rw[hB];exact V8 hk3q0
  have eb_3q0:B k3q0=some ⟨T.map AVal.str,0⟩:=by rw[hB];exact Vf _ _ _
  have lT:=qaJ (qcp (wz:=wz) eb_3q0);rw[hTl]at lT;refine awp_rseq [0,3,4] (by rfl) fun K hK=>?_;simp+decide only[qh,qi,qj,qo,ev,qZ,qW,putD,Vz,VA,VB,Ka,VC,VD,Kb,and_true,↓qV,qP,decide_true,decide_false,VL,VM,Qc,Qb,forall_const,false_implies,Qj,Qe,J4,VN,VO,VP,VQ,VS,VT,VU,QA,cond_true,cond_false,qN,ne_eq,not_false_eq_true,qM wz eb_3q0,qO,qJ,VE,setAt,VF,Kj,qC,VG,Kn,Jp,Nat.reduceAdd,qF,qG,qI,qf,qK,qa,qz,qd,qE,qc,qA,qg,qH,qy,allLive,J4,tokV,posV,faultV,hlv,nv];repeat (with_reducible refine And.intro ?_ ?_;· first|trivial|omega|(intro hg;simp only[Ky,JH,Jh,VH,VI,VJ,decide_eq_true_eq,decide_eq_false_iff_not,qU]at hg;omega))
  apply hK;clear hK K;refine Qr ?_;refine awp_rseq [0,3,4,5] (by rfl) fun K hK=>?_;simp+decide only[qh,qi,qj,qo,ev,qZ,qW,putD,Vz,VA,VB,Ka,VC,VD,Kb,and_true,↓qV,qP,decide_true,decide_false,VL,VM,Qc,Qb,forall_const,false_implies,Qj,Qe,J4,VN,VO,VP,VQ,VS,VT,VU,QA,cond_true,cond_false,qN,ne_eq,not_false_eq_true,qM wz eb_3q0,qO,qJ,VE,setAt,VF,Kj,qC,VG,Kn,Jp,Nat.reduceAdd,qF,qG,qI,qf,qK,qa,qz,qd,qE,qc,qA,qg,qH,qy,allLive,J4,tokV,posV,faultV,hlv,nv];repeat (with_reducible refine And.intro ?_ ?_;· first|trivial|omega|(intro hg;simp only[Ky,JH,Jh,VH,VI,VJ,decide_eq_true_eq,decide_eq_false_iff_not,qU]at hg;omega))
  apply hK;clear hK K;refine QK ?_;refine XL [0,3,4,5] (fun i:Nat=>[(0,y),(3, .slice (.own k3q0) 0 9 (.exact 9)),(4, .str (Uy (qgf (l.take i)))),(5, .int .i64 i)]) (fun i:Nat=>B) (fun i:Nat=>i<=l.length) (fun i:Nat=>l.length-i) 0 (by rfl) (Vg _) (Jq _) ?_;intro i hi;have hgi:=qgN (qgf (l.take i));rw[qgf,Jn,K4,<-qgf]at hgi;refine Qr ?_;refine awp_rseq [0,3,4,5,19] (by rfl) fun K hK=>?_;simp+decide only[qh,qi,qj,qo,ev,qZ,qW,putD,Vz,VA,VB,Ka,VC,VD,Kb,and_true,↓qY,qR,↓XG,Xf,Qz Tryd.underlying35,QR Tryd.underlying35,↓Qh,Qa,QB,cond_false,Qg,Zv,decide_true,decide_false,VL,VM,Qc,Qb,forall_const,false_implies,Qj,Qe,J4,VN,VO,VP,VQ,VS,VT,VU,QA,cond_true,cond_false,qN,ne_eq,not_false_eq_true,qM wz eb_3q0,qO,qJ,VE,setAt,VF,Kj,qC,VG,Kn,Jp,Nat.reduceAdd,qF,qG,qI,qf,qK,qa,qz,qd,qE,qc,qA,qg,qH,qy,allLive,J4,tokV,posV,faultV,hlv,nv];repeat (with_reducible refine And.intro ?_ ?_;· first|trivial|omega|(intro hg;simp only[Ky,JH,Jh,VH,VI,VJ,decide_eq_true_eq,decide_eq_false_iff_not,qU]at hg;omega))
  apply hK;clear hK K;refine Qu (b:=_) rfl (fun hb2=>?_) (fun hb2=>?_)
  ·try simp only[decide_eq_true_eq,decide_eq_false_iff_not,Jh,VJ,Ky,VH,JH,VI,VV,VW,reduceCtorEq]at hb2
   have hi1:i<l.length:=by omega
   obtain⟨lc,o,c,hve⟩:=hv.open (fun e=>by rw[Vu]at e;rw[e]at hi1;cases hi1);have hv2:=hv.mono hs_B;rw[hve]at hv2;have e0:=qnK hv2 hi1;obtain⟨b,hb⟩:∃b,b=l.getD i 0:=⟨_,rfl⟩
   have hst:=qnd hi1;rw[<-hb]at e0 hst;have hb8:b.toNat<256:=b.toNat_lt;have hwb:IntKind.i64.wrap (b.toNat:Int)=(b.toNat:Int):=wrap_i64 (by omega) (by omega);have hrb:Int.tmod (b.toNat:Int) ((9:Nat):Int)=((b.toNat%9:Nat):Int):=by rw[Em (by omega)];exact(En b.toNat 9).symm
   have hwr:IntKind.i64.wrap ((b.toNat%9:Nat):Int)=((b.toNat%9:Nat):Int):=wrap_i64 (by omega) (by omega);have es:=qcP (wz:=wz) eb_3q0 (i:=b.toNat%9) (by omega);rw[qM wz eb_3q0]at es;obtain⟨s,hs⟩:∃s,s=T.getD (b.toNat%9) []:=⟨_,rfl⟩
   rw[<-hs]at es;rw[hT]at hs;rw[<-hs]at hst;have ho30:=(qgP (b.toNat%9)).2;rw[<-hs]at ho30;have hwi:IntKind.i64.wrap ((i:Int)+1)=((i+1:Nat):Int):=by rw[wrap_i64 (by omega) (by omega)];omega
   refine QE ?_;change Awp _ _ _ _ _ _ _;refine Qr ?_;refine QK ?_;refine Zf [0,3,4,5] (by rfl) ?_;simp+decide only[qh,qi,qj,qo,ev,qZ,qW,putD,Vz,VA,VB,Ka,VC,VD,Kb,and_true,↓qY,qR,↓Qh,Qa,XE,cond_false,Xu,qcz,↓QU,QN,Ql Tryd.underlying35 sz5,↓Qv,Qf ag5,↓qei _ _ _ (qly Tryd.underlying5 Tryd.underlying3),qbK,qfe Tryd.underlying5 Tryd.underlying3,↓XG,Xf,Qz Tryd.underlying22,QR Tryd.underlying22,QB,Qg,qoh,decide_true,decide_false,VL,VM,Qc,Qb,forall_const,false_implies,Qj,Qe,J4,VN,VO,VP,VQ,VS,VT,VU,QA,cond_true,cond_false,qN,ne_eq,not_false_eq_true,qM wz eb_3q0,qO,qJ,VE,setAt,VF,Kj,qC,VG,Kn,Jp,Nat.reduceAdd,qF,qG,qI,qf,qK,qa,qz,qd,qE,qc,qA,qg,qH,qy,allLive,J4,tokV,posV,faultV,hlv,nv,hve,e0,hwb,hrb,hwr,lT,es,VX,V6,Jp,Jb,KX,JD,Jn];try simp(disch:=omega)only[wrap_i64,wrap_u8]
   try simp+decide only[qh,qi,qj,qo,ev,qZ,qW,putD,Vz,VA,VB,Ka,VC,VD,Kb,and_true,↓QU,QN,Ql Tryd.underlying22 sz9,↓Qv,Qf ag9,↓Qh,Qa,QB,cond_false,Xu,qcz,↓qV,qP,decide_true,decide_false,VL,VM,Qc,Qb,forall_const,false_implies,Qj,Qe,J4,VN,VO,VP,VQ,VS,VT,VU,QA,cond_true,cond_false,qN,ne_eq,not_false_eq_true,qM wz eb_3q0,qO,qJ,VE,setAt,VF,Kj,qC,VG,Kn,Jp,Nat.reduceAdd,qF,qG,qI,qf,qK,qa,qz,qd,qE,qc,qA,qg,qH,qy,allLive,J4,tokV,posV,faultV,hlv,nv,hve,e0,hwb,hrb,hwr,lT,es,VX,V6,Jp,Jb,KX,JD,Jn]
   repeat (with_reducible refine And.intro ?_ ?_;· first|trivial|omega|(intro hg;simp only[Ky,JH,Jh,VH,VI,VJ,decide_eq_true_eq,decide_eq_false_iff_not,qU]at hg;omega))
   change Awp _ _ _ _ _ _ _;refine Zf [0,3,4,5] (by rfl) ?_;simp+decide only[qh,qi,qj,qo,ev,qZ,qW,putD,Vz,VA,VB,Ka,VC,VD,Kb,and_true,↓qY,qR,↓Qh,Qa,Qm,cond_false,Qg,XM,↓qV,qP,decide_true,decide_false,VL,VM,Qc,Qb,forall_const,false_implies,Qj,Qe,J4,VN,VO,VP,VQ,VS,VT,VU,QA,cond_true,cond_false,qN,ne_eq,not_false_eq_true,qM wz eb_3q0,qO,qJ,VE,setAt,VF,Kj,qC,VG,Kn,Jp,Nat.reduceAdd,qF,qG,qI,qf,qK,qa,qz,qd,qE,qc,qA,qg,qH,qy,allLive,J4,tokV,posV,faultV,hlv,nv,hwi];try simp(disch:=omega)only[wrap_i64,wrap_u8]
   repeat (with_reducible refine And.intro ?_ ?_;· first|trivial|omega|(intro hg;simp only[Ky,JH,Jh,VH,VI,VJ,decide_eq_true_eq,decide_eq_false_iff_not,qU]at hg;omega))
   try simp only[QH,Qt]
   exact⟨i+1,by rw[hst];first|rfl|(simp only[K9,Kh,Jd];rfl)|(rw[hve];simp only[K9,Kh,Jd];rfl),Vg _,by omega,by omega⟩
  ·try simp only[decide_eq_true_eq,decide_eq_false_iff_not,Jh,VJ,Ky,VH,JH,VI,VV,VW,reduceCtorEq]at hb2
   have hin:i=l.length:=by omega
   rw[hin,List.take_length,<-hks]at hgi|-
   have hgl:=qgN ks;refine XJ ?_;change Awp _ _ _ _ _ _ _;refine awp_rseq [0,3,4,6,7] (by rfl) fun K hK=>?_;simp+decide only[qh,qi,qj,qo,ev,qZ,qW,putD,Vz,VA,VB,Ka,VC,VD,Kb,and_true,↓qY,qR,decide_true,decide_false,VL,VM,Qc,Qb,forall_const,false_implies,Qj,Qe,J4,VN,VO,VP,VQ,VS,VT,VU,QA,cond_true,cond_false,qN,ne_eq,not_false_eq_true,qM wz eb_3q0,qO,qJ,VE,setAt,VF,Kj,qC,VG,Kn,Jp,Nat.reduceAdd,qF,qG,qI,qf,qK,qa,qz,qd,qE,qc,qA,qg,qH,qy,allLive,J4,tokV,posV,faultV,hlv,nv];repeat (with_reducible refine And.intro ?_ ?_;· first|trivial|omega|(intro hg;simp only[Ky,JH,Jh,VH,VI,VJ,decide_eq_true_eq,decide_eq_false_iff_not,qU]at hg;omega))
   refine QT (by rfl) (by rfl) (WS wz hm ha _ (Uy ks) (by omega) (qcB ks)) fun x9q1 h9q1 hx9q1=>?_;obtain⟨ht9,hs9⟩:=hx9q1;have hs_h9q1:Sub h h9q1:=Bq zqC hs9;have hr_h9q1:Sub B h9q1:=Bq zqC hs9;have eb_3q0:=hs9 k3q0 _ zqA;refine QT (by rfl) (by rfl) (qhm wz ha _ x9q1 (Za (Uy ks)) ht9 (YK (by omega))) fun x9q2 h9q2 hx9q2=>?_;obtain⟨hsO,qs,rv,hq1,e9,hrow,hqs⟩:=hx9q2;rw[qol hk9]at hq1 e9;have hq1:qcZ 0 ks=qs.map (·.1):=hq1;subst e9;have hql:qs.length=l.length:=by
    have:=congrArg Ej hq1;rw[Jn,qgO]at this;omega
   have ngot:∀H:AHeap,YG Tryd.prog H 36 (Zo rv)=⟨True, .int .i64 l.length⟩:=fun H=>by have:=hrow.clip.len Tryd.underlying36 H;rwa [Jn,hql]at this
   have cgot:=hrow.cap (P:=Tryd.prog) Tryd.underlying36;rw[Jn,hql]at cgot;have hgv:=hrow.clip.live;have hs_h9q2:Sub h h9q2:=Bq zqC hsO;have hr_h9q2:Sub h9q1 h9q2:=Bq zqC hsO;have eb_3q0:=hsO k3q0 _ zqA;simp+decide only[qh,qi,qj,qo,ev,qZ,qW,putD,Vz,VA,VB,Ka,VC,VD,Kb,and_true,↓qY,qR,↓XW,XK,Zd,KX,JD,VG,Kn,decide_true,decide_false,VL,VM,Qc,Qb,forall_const,false_implies,Qj,Qe,J4,VN,VO,VP,VQ,VS,VT,VU,QA,cond_true,cond_false,qN,ne_eq,not_false_eq_true,qM wz eb_3q0,qO,qJ,VE,setAt,VF,Kj,qC,VG,Kn,Jp,Nat.reduceAdd,qF,qG,qI,qf,qK,qa,qz,qd,qE,qc,qA,qg,qH,qy,allLive,J4,tokV,posV,faultV,hlv,nv,hgv];repeat (with_reducible refine And.intro ?_ ?_;· first|trivial|omega|(intro hg;simp only[Ky,JH,Jh,VH,VI,VJ,decide_eq_true_eq,decide_eq_false_iff_not,qU]at hg;omega))
   refine XP qgw (cs:=[.int .i64 0, .int .i64 0, .int .i64 0]) (by rfl) fun k9q6 hk9q6=>?_;have hn_9q6:h9q2 k9q6=none:=by first|assumption|(simp only[V7]at hk9q6;simp only[hk9q6])
   have hf_9q6:h k9q6=none:=Bh hs_h9q2 hn_9q6;have ne_9q6_3q0:k9q6≠k3q0:=BF hn_9q6 eb_3q0;simp+decide only[qh,qi,qj,qo,ev,qZ,qW,putD,Vz,VA,VB,Ka,VC,VD,Kb,and_true,↓qV,qP,decide_true,decide_false,VL,VM,Qc,Qb,forall_const,false_implies,Qj,Qe,J4,VN,VO,VP,VQ,VS,VT,VU,QA,cond_true,cond_false,qN,ne_eq,not_false_eq_true,ne_9q6_3q0,ne_9q6_3q0.symm,qM wz eb_3q0,qO,qJ,VE,setAt,VF,Kj,qC,VG,Kn,Jp,Nat.reduceAdd,qF,qG,qI,qf,qK,qa,qz,qd,qE,qc,qA,qg,qH,qy,allLive,J4,tokV,posV,faultV,hlv,nv,hgv];repeat (with_reducible refine And.intro ?_ ?_;· first|trivial|omega|(intro hg;simp only[Ky,JH,Jh,VH,VI,VJ,decide_eq_true_eq,decide_eq_false_iff_not,qU]at hg;omega))
   refine QO (by rfl) (by rfl) zqA qaP (by rfl) (by rfl) zqD (Jq _) (by rfl) ?_;simp only[Bi,setAt,VE,VF,Kj,Jp,Nat.reduceAdd];simp+decide only[qh,qi,qj,qo,ev,qZ,qW,putD,Vz,VA,VB,Ka,VC,VD,Kb,and_true,decide_true,decide_false,VL,VM,Qc,Qb,forall_const,false_implies,Qj,Qe,J4,VN,VO,VP,VQ,VS,VT,VU,QA,cond_true,cond_false,qN,ne_eq,not_false_eq_true,ne_9q6_3q0,ne_9q6_3q0.symm,qM wz eb_3q0,qO,qJ,VE,setAt,VF,Kj,qC,VG,Kn,Jp,Nat.reduceAdd,qF,qG,qI,qf,qK,qa,qz,qd,qE,qc,qA,qg,qH,qy,allLive,J4,tokV,posV,faultV,hlv,nv,hgv];repeat (with_reducible refine And.intro ?_ ?_;· first|trivial|omega|(intro hg;simp only[Ky,JH,Jh,VH,VI,VJ,decide_eq_true_eq,decide_eq_false_iff_not,qU]at hg;omega))
   apply hK;clear hK K;refine Qr ?_;refine awp_rseq [0,3,4,6,58] (by rfl) fun K hK=>?_;simp+decide only[qh,qi,qj,qo,ev,qZ,qW,putD,Vz,VA,VB,Ka,VC,VD,Kb,and_true,↓Qv,QN,Xm qfC qaP,↓qar,YL,↓Yf,qlG,evP,Ke,Vh,WC,ZH,YN,qaH,Yk,Ur,YO,↓Qh,Qa,QB,cond_false,qff,ne28,↓qY,qR,↓Zy,agP,XH,gv,Qw,QJ,QI,QC,Qk,Qi,ZC,implies_true,VK,decide_true,decide_false,VL,VM,Qc,Qb,forall_const,false_implies,Qj,Qe,J4,VN,VO,VP,VQ,VS,VT,VU,Xp,Xr,Xo,↓qej,Xf,Qz Tryd.underlying36,QR Tryd.underlying36,qee,qef,Qz Tryd.underlying35,QR Tryd.underlying35,↓XY,Zh,Zg,Zj,Zi,Qg,qby,↓XR,Xw,Xb,QM,QL,QG,XC,XB,XA,Xz,Xl,Xy,↓qsW,qpJ,qlc Tryd.underlying36,qok Tryd.underlying36,qsL,qsM,decide_true,decide_false,VL,VM,Qc,Qb,forall_const,false_implies,Qj,Qe,J4,VN,VO,VP,VQ,VS,VT,VU,QA,cond_true,cond_false,qN,ne_eq,not_false_eq_true,ne_9q6_3q0,ne_9q6_3q0.symm,qM wz eb_3q0,qO,qJ,VE,setAt,VF,Kj,qC,VG,Kn,Jp,Nat.reduceAdd,qF,qG,qI,qf,qK,qa,qz,qd,qE,qc,qA,qg,qH,qy,allLive,J4,tokV,posV,faultV,hlv,nv,ngot,cgot,hgv];repeat (with_reducible refine And.intro ?_ ?_;· first|trivial|omega|(intro hg;simp only[Ky,JH,Jh,VH,VI,VJ,decide_eq_true_eq,decide_eq_false_iff_not,qU]at hg;omega))
   apply hK;clear hK K;refine Qu (b:=_) rfl (fun hb3=>?_) (fun hb3=>?_)
   ·first|(cases hb3;done)|(simp at hb3;done)
   ·try simp only[decide_eq_true_eq,decide_eq_false_iff_not,Jh,VJ,Ky,VH,JH,VI,VV,VW,reduceCtorEq]at hb3
    refine QE ?_;change Awp _ _ _ _ _ _ _;refine Qr ?_;refine awp_rseq [0,3,4,6,8] (by rfl) fun K hK=>?_;simp+decide only[qh,qi,qj,qo,ev,qZ,qW,putD,Vz,VA,VB,Ka,VC,VD,Kb,and_true,↓qV,qP,decide_true,decide_false,VL,VM,Qc,Qb,forall_const,false_implies,Qj,Qe,J4,VN,VO,VP,VQ,VS,VT,VU,QA,cond_true,cond_false,qN,ne_eq,not_false_eq_true,ne_9q6_3q0,ne_9q6_3q0.symm,qM wz eb_3q0,qO,qJ,VE,setAt,VF,Kj,qC,VG,Kn,Jp,Nat.reduceAdd,qF,qG,qI,qf,qK,qa,qz,qd,qE,qc,qA,qg,qH,qy,allLive,J4,tokV,posV,faultV,hlv,nv];repeat (with_reducible refine And.intro ?_ ?_;· first|trivial|omega|(intro hg;simp only[Ky,JH,Jh,VH,VI,VJ,decide_eq_true_eq,decide_eq_false_iff_not,qU]at hg;omega))
    apply hK;clear hK K;refine QK ?_;refine XL [0,3,4,6,8] (fun g:SaG=>[(0,y),(3, .slice (.own k3q0) 0 9 (.exact 9)),(4, .str (Uy ks)),(6,Zo rv),(8, .int .i64 g.j)]) (fun g:SaG=>g.H) (fun g:SaG=>AM.Sub h9q2 g.H/\g.j<=l.length) (fun g:SaG=>l.length-g.j) ⟨0,_⟩ (by rfl) (Vg _) ⟨(by repeat (first|exact Vg _|assumption|refine Bq ?_ (V8 (by assumption))|refine Bq ?_ (by assumption))),Jq _⟩ ?_;rintro⟨j,H⟩ ⟨hs_H9,hj⟩;simp only at hs_H9 hj|-
    have hs_H:AM.Sub h H:=hs_h9q2.trans hs_H9;have eb_3q0:H k3q0=some ⟨T.map AVal.str,0⟩:=hs_H9 _ _ eb_3q0;refine Qr ?_;refine awp_rseq [0,3,4,6,8,62] (by rfl) fun K hK=>?_;simp+decide only[qh,qi,qj,qo,ev,qZ,qW,putD,Vz,VA,VB,Ka,VC,VD,Kb,and_true,↓qY,qR,↓XG,Xf,Qz Tryd.underlying35,QR Tryd.underlying35,↓Qh,Qa,QB,cond_false,Qg,Zv,decide_true,decide_false,VL,VM,Qc,Qb,forall_const,false_implies,Qj,Qe,J4,VN,VO,VP,VQ,VS,VT,VU,QA,cond_true,cond_false,qN,ne_eq,not_false_eq_true,qM wz eb_3q0,qO,qJ,VE,setAt,VF,Kj,qC,VG,Kn,Jp,Nat.reduceAdd,qF,qG,qI,qf,qK,qa,qz,qd,qE,qc,qA,qg,qH,qy,allLive,J4,tokV,posV,faultV,hlv,nv,nv,hlv];repeat (with_reducible refine And.intro ?_ ?_;· first|trivial|omega|(intro hg;simp only[Ky,JH,Jh,VH,VI,VJ,decide_eq_true_eq,decide_eq_false_iff_not,qU]at hg;omega))
    apply hK;clear hK K;refine Qu (b:=_) rfl (fun hb4=>?_) (fun hb4=>?_)
    ·try simp only[decide_eq_true_eq,decide_eq_false_iff_not,Jh,VJ,Ky,VH,JH,VI,VV,VW,reduceCtorEq]at hb4
     have hj1:j<l.length:=by omega
     obtain⟨lc,o,c,hve⟩:=hv.open (fun e=>by rw[Vu]at e;rw[e]at hj1;cases hj1);have hv2:=hv.mono hs_H;rw[hve]at hv2;have e0:=qnK hv2 hj1;obtain⟨b,hb⟩:∃b,b=l.getD j 0:=⟨_,rfl⟩
     rw[<-hb]at e0;have hb8:b.toNat<256:=b.toNat_lt;obtain⟨k,hk⟩:∃k,k=b.toNat%9:=⟨_,rfl⟩
     have hk':k<9:=by omega
     have hkj:ks.getD j 0=k:=by rw[hks,qgf,Ko,Vv,JB hj1,hk,hb];simp[Ko,hj1]
     have hwb:IntKind.i64.wrap (b.toNat:Int)=(b.toNat:Int):=wrap_i64 (by omega) (by omega);have hrb:Int.tmod (b.toNat:Int) ((9:Nat):Int)=(k:Int):=by rw[Em (by omega),hk];exact(En b.toNat 9).symm
     have hwr:IntKind.i64.wrap (k:Int)=(k:Int):=wrap_i64 (by omega) (by omega);have es:=qcP (wz:=wz) eb_3q0 (i:=k) (by omega);rw[qM wz eb_3q0]at es;obtain⟨s,hs⟩:∃s,s=T.getD k []:=⟨_,rfl⟩
     rw[<-hs]at es;rw[hT]at hs;obtain⟨hsa,hs30⟩:=qgP k;rw[<-hs]at hsa hs30;obtain⟨lg,og,cg,hge⟩:=hrow.clip.open (fun e=>by have:=congrArg Ej e;rw[Jn,JD,hql]at this;omega);have hg2:=hrow.clip.mono hs_H9;rw[hge]at hg2;have g0:=qsl hg2 (i:=j) (by omega);obtain⟨q,hq⟩:∃q,q=qs.getD j ([], .nilSlice):=⟨_,rfl⟩
     rw[<-hq]at g0;have hqm:q∈qs:=by rw[hq,Ko,JB (by omega)];exact Vr _
     obtain⟨p,hp⟩:=qif ks 0 j (by omega);rw[hkj]at hp;have hq2:q.1=Ze p (opW k):=by
      have hjq:j<qs.length:=by omega
      rw[<-hp,hq1,hq,Ko,Ko,Vv,JB hjq];rfl
     obtain⟨u,hu1,hu2⟩:=hqs q hqm;have hu3:=(hu2.mono hs_H9).clip;rw[<-hu1,hq2]at hu3;have hul:=hu3.live;obtain⟨hsh1,hsl1⟩:=qnV (qgP k).2 p;have hsl1:(Ze p (opW k)).length<=31:=hsl1;have hJ:=of_decide_eq_true (Jz.1 qpW k (JA.2 hk'));have hj4:(0<=(j:Int)/\(j:Int)<(l.length:Int))=True:=eq_true ⟨by omega,by omega⟩;have hwj:IntKind.i64.wrap ((j:Int)+1)=((j+1:Nat):Int):=by rw[wrap_i64 (by omega) (by omega)];omega
     have hqj:(0<=(j:Int)/\(j:Int)<(qs.length:Int))=True:=eq_true ⟨by omega,by omega⟩;have lT2:=lT;refine QE ?_;change Awp _ _ _ _ _ _ _;refine Qr ?_;refine QK ?_;refine qht [0,1,2,3,6,7,8,9,10,11,12,13,14,15,16,4,5,17,18,19,20] [0,0,0,0,2,2,2,2,2,2,2,2,2,2,2,0,0,0,0,0,0] [none,none,none,none,none,none,none,none,none,none,none,none,none,none,none,none,some 15,some 16,some 17,some 18,some 19] 21 (H) [0,3,4,6,8,85] mixed (by kernel_rfl) (by rfl) (Vg _) fun K hK=>?_;simp only[Wu,Vt,Eo,Kz,KM];simp+decide only[qh,qi,qj,qo,ev,qZ,qW,putD,Vz,VA,VB,Ka,VC,VD,Kb,and_true,Yj,Yi,ZM,Yw,Yz,↓qY,qR,↓QU,QN,Ql Tryd.underlying36 qgc,↓Qv,Qf qbV,Ql Tryd.underlying35 sz5,Qf ag5,↓qei _ _ _ (qly Tryd.underlying5 Tryd.underlying3),qbK,qfe Tryd.underlying5 Tryd.underlying3,↓XG,Xf,Qz Tryd.underlying22,QR Tryd.underlying22,↓Qh,Qa,QB,cond_false,Qg,qoh,decide_true,decide_false,VL,VM,Qc,Qb,forall_const,false_implies,Qj,Qe,J4,VN,VO,VP,VQ,VS,VT,VU,QA,cond_true,cond_false,qN,ne_eq,not_false_eq_true,qM wz eb_3q0,qO,qJ,VE,setAt,VF,Kj,qC,VG,Kn,Jp,Nat.reduceAdd,qF,qG,qI,qf,qK,qa,qz,qd,qE,qc,qA,qg,qH,qy,allLive,J4,tokV,posV,faultV,hlv,nv,hve,hge,e0,g0,hul,hwb,hrb,hwr,lT,es,hj4,hqj,VX,V6,Jp,Jn];try simp(disch:=omega)only[wrap_i64,wrap_u8]
     try simp+decide only[qh,qi,qj,qo,ev,qZ,qW,putD,Vz,VA,VB,Ka,VC,VD,Kb,and_true,Yj,Yi,ZM,Yw,Yz,↓QU,QN,Ql Tryd.underlying22 sz9,↓Qv,Qf ag9,decide_true,decide_false,VL,VM,Qc,Qb,forall_const,false_implies,Qj,Qe,J4,VN,VO,VP,VQ,VS,VT,VU,QA,cond_true,cond_false,qN,ne_eq,not_false_eq_true,qM wz eb_3q0,qO,qJ,VE,setAt,VF,Kj,qC,VG,Kn,Jp,Nat.reduceAdd,qF,qG,qI,qf,qK,qa,qz,qd,qE,qc,qA,qg,qH,qy,allLive,J4,tokV,posV,faultV,hlv,nv,hve,hge,e0,g0,hul,hwb,hrb,hwr,lT,es,hj4,hqj,VX,V6,Jp,Jn]
     repeat (with_reducible refine And.intro ?_ ?_;· first|trivial|omega|(intro hg;simp only[Ky,JH,Jh,VH,VI,VJ,decide_eq_true_eq,decide_eq_false_iff_not,qU]at hg;omega))
     refine QT (by rfl) (by rfl) (qkr wz _ q.2 (Ze p (opW k)) hu3 (by omega) hsh1) fun x15q4 h15q4 hx15q4=>?_;obtain⟨hst4,hsT4⟩:=hx15q4;have hs_h15q4:Sub h h15q4:=Bq zqC hsT4;have hr_h15q4:Sub H h15q4:=Bq zqC hsT4;have eb_3q0:=hsT4 k3q0 _ zqA;rw[qh];refine And.intro (by first|exact Vg _|assumption|exact V8 (by assumption)) ?_;simp+decide only[qh,qi,qj,qo,ev,qZ,qW,putD,Vz,VA,VB,Ka,VC,VD,Kb,and_true,Yj,Yi,ZM,Yw,Yz,decide_true,decide_false,VL,VM,Qc,Qb,forall_const,false_implies,Qj,Qe,J4,VN,VO,VP,VQ,VS,VT,VU,QA,cond_true,cond_false,qN,ne_eq,not_false_eq_true,qM wz eb_3q0,qO,qJ,VE,setAt,VF,Kj,qC,VG,Kn,Jp,Nat.reduceAdd,qF,qG,qI,qf,qK,qa,qz,qd,qE,qc,qA,qg,qH,qy,allLive,J4,tokV,posV,faultV,hlv,nv,hve,hge,e0,g0,hul,hwb,hrb,hwr,lT,es,hj4,hqj,VX,V6,Jp,Jn];repeat (with_reducible refine And.intro ?_ ?_;· first|trivial|omega|(intro hg;simp only[Ky,JH,Jh,VH,VI,VJ,decide_eq_true_eq,decide_eq_false_iff_not,qU]at hg;omega))
     refine Xk (V:= .str (opJ k)) (by rfl) (by rfl) (by rw[<-qom k p];exact qdj wz _ _ ((Ze p (opW k)).map Wv) [32] hst4 (by rw[Jn];omega) (by rw[qom];omega)) ?_;rw[qh];refine And.intro (by first|exact Vg _|assumption|exact V8 (by assumption)) ?_;simp+decide only[qh,qi,qj,qo,ev,qZ,qW,putD,Vz,VA,VB,Ka,VC,VD,Kb,and_true,Yj,Yi,ZM,Yw,Yz,decide_true,decide_false,VL,VM,Qc,Qb,forall_const,false_implies,Qj,Qe,J4,VN,VO,VP,VQ,VS,VT,VU,QA,cond_true,cond_false,qN,ne_eq,not_false_eq_true,qM wz eb_3q0,qO,qJ,VE,setAt,VF,Kj,qC,VG,Kn,Jp,Nat.reduceAdd,qF,qG,qI,qf,qK,qa,qz,qd,qE,qc,qA,qg,qH,qy,allLive,J4,tokV,posV,faultV,hlv,nv,hve,hge,e0,g0,hul,hwb,hrb,hwr,lT,es,hj4,hqj,VX,V6,Jp,Jn];repeat (with_reducible refine And.intro ?_ ?_;· first|trivial|omega|(intro hg;simp only[Ky,JH,Jh,VH,VI,VJ,decide_eq_true_eq,decide_eq_false_iff_not,qU]at hg;omega))
     refine QT (by rfl) (by rfl) (WS wz hm ha _ s (by omega) hsa) fun x15q17 h15q17 hx15q17=>?_;obtain⟨ht17,hs17⟩:=hx15q17;have hs_h15q17:Sub h h15q17:=Bq zqC hs17;have hr_h15q17:Sub h15q4 h15q17:=Bq zqC hs17;have eb_3q0:=hs17 k3q0 _ zqA;rw[qh];refine And.intro (by first|exact Vg _|assumption|exact V8 (by assumption)) ?_;simp+decide only[qh,qi,qj,qo,ev,qZ,qW,putD,Vz,VA,VB,Ka,VC,VD,Kb,and_true,Yj,Yi,ZM,Yw,Yz,decide_true,decide_false,VL,VM,Qc,Qb,forall_const,false_implies,Qj,Qe,J4,VN,VO,VP,VQ,VS,VT,VU,QA,cond_true,cond_false,qN,ne_eq,not_false_eq_true,qM wz eb_3q0,qO,qJ,VE,setAt,VF,Kj,qC,VG,Kn,Jp,Nat.reduceAdd,qF,qG,qI,qf,qK,qa,qz,qd,qE,qc,qA,qg,qH,qy,allLive,J4,tokV,posV,faultV,hlv,nv,hve,hge,e0,g0,hul,hwb,hrb,hwr,lT,es,hj4,hqj,VX,V6,Jp,Jn];repeat (with_reducible refine And.intro ?_ ?_;· first|trivial|omega|(intro hg;simp only[Ky,JH,Jh,VH,VI,VJ,decide_eq_true_eq,decide_eq_false_iff_not,qU]at hg;omega))
     refine QT (by rfl) (by rfl) (qkr wz _ x15q17 (Za s) ht17 (YK (by omega)) (Ws (by omega))) fun x15q18 h15q18 hx15q18=>?_;obtain⟨hst18,hsT18⟩:=hx15q18;have hs_h15q18:Sub h h15q18:=Bq zqC hsT18;have hr_h15q18:Sub h15q17 h15q18:=Bq zqC hsT18;have eb_3q0:=hsT18 k3q0 _ zqA;rw[qh];refine And.intro (by first|exact Vg _|assumption|exact V8 (by assumption)) ?_;simp+decide only[qh,qi,qj,qo,ev,qZ,qW,putD,Vz,VA,VB,Ka,VC,VD,Kb,and_true,Yj,Yi,ZM,Yw,Yz,decide_true,decide_false,VL,VM,Qc,Qb,forall_const,false_implies,Qj,Qe,J4,VN,VO,VP,VQ,VS,VT,VU,QA,cond_true,cond_false,qN,ne_eq,not_false_eq_true,qM wz eb_3q0,qO,qJ,VE,setAt,VF,Kj,qC,VG,Kn,Jp,Nat.reduceAdd,qF,qG,qI,qf,qK,qa,qz,qd,qE,qc,qA,qg,qH,qy,allLive,J4,tokV,posV,faultV,hlv,nv,hve,hge,e0,g0,hul,hwb,hrb,hwr,lT,es,hj4,hqj,VX,V6,Jp,Jn];repeat (with_reducible refine And.intro ?_ ?_;· first|trivial|omega|(intro hg;simp only[Ky,JH,Jh,VH,VI,VJ,decide_eq_true_eq,decide_eq_false_iff_not,qU]at hg;omega))
     refine Xk (V:= .str (opJ k)) (by rfl) (by rfl) (by rw[show opJ k=Lib.join ((Za s).map Wv) [32] by rw[hs];rfl];exact qdj wz _ _ ((Za s).map Wv) [32] hst18 (by rw[Jn];exact Vb (YK (by omega)) (by decide)) (by rw[<-show opJ k=Lib.join ((Za s).map Wv) [32] by rw[hs];rfl];omega)) ?_;rw[qh];refine And.intro (by first|exact Vg _|assumption|exact V8 (by assumption)) ?_;simp+decide only[qh,qi,qj,qo,ev,qZ,qW,putD,Vz,VA,VB,Ka,VC,VD,Kb,and_true,Yj,Yi,ZM,Yw,Yz,↓Qh,Qa,QB,cond_false,Xu,qbw,decide_true,decide_false,VL,VM,Qc,Qb,forall_const,false_implies,Qj,Qe,J4,VN,VO,VP,VQ,VS,VT,VU,QA,cond_true,cond_false,qN,ne_eq,not_false_eq_true,qM wz eb_3q0,qO,qJ,VE,setAt,VF,Kj,qC,VG,Kn,Jp,Nat.reduceAdd,qF,qG,qI,qf,qK,qa,qz,qd,qE,qc,qA,qg,qH,qy,allLive,J4,tokV,posV,faultV,hlv,nv,hve,hge,e0,g0,hul,hwb,hrb,hwr,lT,es,hj4,hqj,VX,V6,Jp,Jn];repeat (with_reducible refine And.intro ?_ ?_;· first|trivial|omega|(intro hg;simp only[Ky,JH,Jh,VH,VI,VJ,decide_eq_true_eq,decide_eq_false_iff_not,qU]at hg;omega))
     apply hK;clear hK K;refine Qu (b:=_) rfl (fun hb5=>?_) (fun hb5=>?_)
     ·first|(cases hb5;done)|(simp at hb5;done)
     ·try simp only[decide_eq_true_eq,decide_eq_false_iff_not,Jh,VJ,Ky,VH,JH,VI,VV,VW,reduceCtorEq]at hb5
      refine QE ?_;change Awp _ _ _ _ _ _ _;refine Zf [0,3,4,6,8] (by rfl) ?_;simp+decide only[qh,qi,qj,qo,ev,qZ,qW,putD,Vz,VA,VB,Ka,VC,VD,Kb,and_true,↓qY,qR,↓Qh,Qa,Qm,cond_false,Qg,XM,↓qV,qP,decide_true,decide_false,VL,VM,Qc,Qb,forall_const,false_implies,Qj,Qe,J4,VN,VO,VP,VQ,VS,VT,VU,QA,cond_true,cond_false,qN,ne_eq,not_false_eq_true,qM wz eb_3q0,qO,qJ,VE,setAt,VF,Kj,qC,VG,Kn,Jp,Nat.reduceAdd,qF,qG,qI,qf,qK,qa,qz,qd,qE,qc,qA,qg,qH,qy,allLive,J4,tokV,posV,faultV,hlv,nv,hwj];try simp(disch:=omega)only[wrap_i64,wrap_u8]
      repeat (with_reducible refine And.intro ?_ ?_;· first|trivial|omega|(intro hg;simp only[Ky,JH,Jh,VH,VI,VJ,decide_eq_true_eq,decide_eq_false_iff_not,qU]at hg;omega))
      try simp only[QH,Qt]
      exact⟨⟨j+1,_⟩,by first|rfl|(rw[hve,hge];simp only[Jn];rfl),Vg _,⟨(by repeat (first|exact Vg _|assumption|refine Bq ?_ (V8 (by assumption))|refine Bq ?_ (by assumption))),hj1⟩,by simp only;omega⟩
    ·try simp only[decide_eq_true_eq,decide_eq_false_iff_not,Jh,VJ,Ky,VH,JH,VI,VV,VW,reduceCtorEq]at hb4
     have hT9:(Za (Uy ks)).length<=1000:=by rw[qfM];exact Vb (UV _) (by omega)
     refine XJ ?_;change Awp _ _ _ _ _ _ _;refine awp_rseq [4,9,10] (by rfl) fun K hK=>?_;simp+decide only[qh,qi,qj,qo,ev,qZ,qW,putD,Vz,VA,VB,Ka,VC,VD,Kb,and_true,↓qY,qR,↓Qh,Qa,XE,cond_false,Xu,qcz,decide_true,decide_false,VL,VM,Qc,Qb,forall_const,false_implies,Qj,Qe,J4,VN,VO,VP,VQ,VS,VT,VU,QA,cond_true,cond_false,qN,ne_eq,not_false_eq_true,qM wz eb_3q0,qO,qJ,VE,setAt,VF,Kj,qC,VG,Kn,Jp,Nat.reduceAdd,qF,qG,qI,qf,qK,qa,qz,qd,qE,qc,qA,qg,qH,qy,allLive,J4,tokV,posV,faultV,hlv,nv,KX,JD,Jb];repeat (with_reducible refine And.intro ?_ ?_;· first|trivial|omega|(intro hg;simp only[Ky,JH,Jh,VH,VI,VJ,decide_eq_true_eq,decide_eq_false_iff_not,qU]at hg;omega))
     refine QT (by rfl) (by rfl) (WS wz hm ha _ (Uy ks++[32,41,32,65]) (by rw[Jb];simp only[KX,JD];omega) (qiy (qcB ks) (by decide))) fun x17q2 h17q2 hx17q2=>?_;obtain⟨ht17,hs17⟩:=hx17q2;have hs_h17q2:Sub h h17q2:=Bq zqC hs17;have hr_h17q2:Sub H h17q2:=Bq zqC hs17;have eb_3q0:=hs17 k3q0 _ zqA;refine QT (by rfl) (by rfl) (qhm wz ha _ x17q2 (Za (Uy ks++[32,41,32,65])) ht17 (YK (by rw[Jb];simp only[KX,JD];omega))) fun x17q3 h17q3 hx17q3=>?_;obtain⟨hsO2,qs2,rv2,hq2,e17,hrow2,hqs2⟩:=hx17q3;rw[qnc hk9]at hq2 e17;subst e17;have hq20:qs2=[]:=by cases qs2 with
      |nil=>rfl
      |cons _ _=>cases hq2
     subst hq20;have ngot2:∀H:AHeap,YG Tryd.prog H 36 (Zo rv2)=⟨True, .int .i64 0⟩:=fun H=>hrow2.clip.len Tryd.underlying36 H;have hgv2:=hrow2.clip.live;have hs_h17q3:Sub h h17q3:=Bq zqC hsO2;have hr_h17q3:Sub h17q2 h17q3:=Bq zqC hsO2;have eb_3q0:=hsO2 k3q0 _ zqA;simp+decide only[qh,qi,qj,qo,ev,qZ,qW,putD,Vz,VA,VB,Ka,VC,VD,Kb,and_true,↓qY,qR,↓XW,XK,Zd,KX,JD,VG,Kn,decide_true,decide_false,VL,VM,Qc,Qb,forall_const,false_implies,Qj,Qe,J4,VN,VO,VP,VQ,VS,VT,VU,QA,cond_true,cond_false,qN,ne_eq,not_false_eq_true,qM wz eb_3q0,qO,qJ,VE,setAt,VF,Kj,qC,VG,Kn,Jp,Nat.reduceAdd,qF,qG,qI,qf,qK,qa,qz,qd,qE,qc,qA,qg,qH,qy,allLive,J4,tokV,posV,faultV,hlv,nv,KX,JD,Jb,hgv2];repeat (with_reducible refine And.intro ?_ ?_;· first|trivial|omega|(intro hg;simp only[Ky,JH,Jh,VH,VI,VJ,decide_eq_true_eq,decide_eq_false_iff_not,qU]at hg;omega))
     refine XP qgw (cs:=[.int .i64 0, .int .i64 0, .int .i64 0]) (by rfl) fun k17q7 hk17q7=>?_;have hn_17q7:h17q3 k17q7=none:=by first|assumption|(simp only[V7]at hk17q7;simp only[hk17q7])
     have hf_17q7:h k17q7=none:=Bh hs_h17q3 hn_17q7;have ne_17q7_3q0:k17q7≠k3q0:=BF hn_17q7 eb_3q0;simp+decide only[qh,qi,qj,qo,ev,qZ,qW,putD,Vz,VA,VB,Ka,VC,VD,Kb,and_true,↓qV,qP,decide_true,decide_false,VL,VM,Qc,Qb,forall_const,false_implies,Qj,Qe,J4,VN,VO,VP,VQ,VS,VT,VU,QA,cond_true,cond_false,qN,ne_eq,not_false_eq_true,ne_17q7_3q0,ne_17q7_3q0.symm,qM wz eb_3q0,qO,qJ,VE,setAt,VF,Kj,qC,VG,Kn,Jp,Nat.reduceAdd,qF,qG,qI,qf,qK,qa,qz,qd,qE,qc,qA,qg,qH,qy,allLive,J4,tokV,posV,faultV,hlv,nv,KX,JD,Jb,hgv2];repeat (with_reducible refine And.intro ?_ ?_;· first|trivial|omega|(intro hg;simp only[Ky,JH,Jh,VH,VI,VJ,decide_eq_true_eq,decide_eq_false_iff_not,qU]at hg;omega))
     refine QO (by rfl) (by rfl) zqA qaP (by rfl) (by rfl) zqD (Jq _) (by rfl) ?_;simp only[Bi,setAt,VE,VF,Kj,Jp,Nat.reduceAdd];simp+decide only[qh,qi,qj,qo,ev,qZ,qW,putD,Vz,VA,VB,Ka,VC,VD,Kb,and_true,decide_true,decide_false,VL,VM,Qc,Qb,forall_const,false_implies,Qj,Qe,J4,VN,VO,VP,VQ,VS,VT,VU,QA,cond_true,cond_false,qN,ne_eq,not_false_eq_true,ne_17q7_3q0,ne_17q7_3q0.symm,qM wz eb_3q0,qO,qJ,VE,setAt,VF,Kj,qC,VG,Kn,Jp,Nat.reduceAdd,qF,qG,qI,qf,qK,qa,qz,qd,qE,qc,qA,qg,qH,qy,allLive,J4,tokV,posV,faultV,hlv,nv,KX,JD,Jb,hgv2];repeat (with_reducible refine And.intro ?_ ?_;· first|trivial|omega|(intro hg;simp only[Ky,JH,Jh,VH,VI,VJ,decide_eq_true_eq,decide_eq_false_iff_not,qU]at hg;omega))
     apply hK;clear hK K;obtain⟨ln,hln⟩:∃ln,ln=(((Za (Uy ks)).length+1:Nat):Int):=⟨_,rfl⟩
     have hlw:IntKind.i64.wrap (((Za (Uy ks)).length:Int)+1)=ln:=by rw[hln,wrap_i64 (by omega) (by omega)];omega
     rw[<-hln];refine qht [0,1,2,3,4,5,6,7,8,9,10,11,12,13,14,15,16] [0,0,0,0,2,0,0,0,0,0,0,0,0,0,0,0,0] [none,none,none,none,none,none,none,some 6,some 7,some 8,some 9,some 10,some 11,some 12,some 13,some 14,some 15] 17 ((h17q3.set k17q7 ⟨[.int .i64 4, .int .i64 ln, .int .i64 8],0⟩)) [2] mixed (by kernel_rfl) (by rfl) (Vg _) fun K hK=>?_;simp only[Wu,Vt,Eo,Kz,KM];simp+decide only[qh,qi,qj,qo,ev,qZ,qW,putD,Vz,VA,VB,Ka,VC,VD,Kb,and_true,Yj,Yi,ZM,Yw,Yz,↓qY,qR,↓XG,Xf,Qz Tryd.underlying36,QR Tryd.underlying36,↓Qh,Qa,Qm,cond_false,Qg,Yu,↓ZK,QN,Zz,WM,Ya,ZZ,ZY,ZW,ZV,ZU,agP,XH,gv,Qw,QJ,QI,QC,Qk,Qi,ZC,implies_true,VK,decide_true,decide_false,VL,VM,Qc,Qb,forall_const,false_implies,Qj,Qe,J4,VN,VO,VP,VQ,VS,VT,VU,Xm qfC qaP,ZR,ZT,Xp,Xr,Xo,↓Zy,decide_true,decide_false,VL,VM,Qc,Qb,forall_const,false_implies,Qj,Qe,J4,VN,VO,VP,VQ,VS,VT,VU,QA,cond_true,cond_false,qN,ne_eq,not_false_eq_true,ne_17q7_3q0,ne_17q7_3q0.symm,qM wz eb_3q0,qO,qJ,VE,setAt,VF,Kj,qC,VG,Kn,Jp,Nat.reduceAdd,qF,qG,qI,qf,qK,qa,qz,qd,qE,qc,qA,qg,qH,qy,allLive,J4,tokV,posV,faultV,hlv,nv,ngot2,hgv2];repeat (with_reducible refine And.intro ?_ ?_;· first|trivial|omega|(intro hg;simp only[Ky,JH,Jh,VH,VI,VJ,decide_eq_true_eq,decide_eq_false_iff_not,qU]at hg;omega))
     refine Yc (by rfl) ?_;refine QT (by rfl) (by rfl) (WS wz hm ha _ (Uy ks) (by omega) (qcB ks)) fun x18q6 h18q6 hx18q6=>?_;obtain⟨ht18,hs18⟩:=hx18q6;have n18:=YU ht18;have hl18:=ht18.live;have hs_h18q6:Sub h h18q6:=Bq zqC hs18;have hr_h18q6:Sub h17q3 h18q6:=Bq zqC hs18;have eb_17q7:=hs18 k17q7 _ zqA;have eb_3q0:=hs18 k3q0 _ zqA;rw[qh];refine And.intro (by first|exact Vg _|assumption|exact V8 (by assumption)) ?_;simp+decide only[qh,qi,qj,qo,ev,qZ,qW,putD,Vz,VA,VB,Ka,VC,VD,Kb,and_true,Yj,Yi,ZM,Yw,Yz,↓qej,Xf,agP,XH,gv,Qw,QJ,QI,QC,Qk,Qi,ZC,implies_true,VK,decide_true,decide_false,VL,VM,Qc,Qb,forall_const,false_implies,Qj,Qe,J4,VN,VO,VP,VQ,VS,VT,VU,Qz Tryd.underlying31,QR Tryd.underlying31,qee,qef,Xp,Xr,Xo,↓XY,Qa,Qm,cond_false,Zh,Zg,Zj,Zi,Qg,XM,↓qpl,YL,↓Yf,qfA,evP,Ke,Vh,WC,ZH,YN,qaH,Yk,Ur,YO,qfz,QB,qff,eq28,↓XR,Xw,Xb,QM,QL,QG,XC,XB,XA,Xz,Xl,Xy,↓qY,qR,decide_true,decide_false,VL,VM,Qc,Qb,forall_const,false_implies,Qj,Qe,J4,VN,VO,VP,VQ,VS,VT,VU,QA,cond_true,cond_false,qN,ne_eq,not_false_eq_true,qM wz eb_3q0,qM wz eb_17q7,ne_17q7_3q0,ne_17q7_3q0.symm,qO,qJ,VE,setAt,VF,Kj,qC,VG,Kn,Jp,Nat.reduceAdd,qF,qG,qI,qf,qK,qa,qz,qd,qE,qc,qA,qg,qH,qy,allLive,J4,tokV,posV,faultV,hlv,nv,ngot2,hgv2,n18,hl18,hlw];try simp(disch:=omega)only[wrap_i64,wrap_u8]
     repeat (with_reducible refine And.intro ?_ ?_;· first|trivial|omega|(intro hg;simp only[Ky,JH,Jh,VH,VI,VJ,decide_eq_true_eq,decide_eq_false_iff_not,qU]at hg;omega))
     refine Yc (by rfl) ?_;refine QT (by rfl) (by rfl) (qis wz hm ha _) fun x18q14 h18q14 hx18q14=>?_;obtain⟨rfl,hs18b⟩:=hx18q14;have hs_h18q14:Sub h h18q14:=Bq zqC hs18b;have hr_h18q14:Sub h18q6 h18q14:=Bq zqC hs18b;have eb_3q0:=hs18b k3q0 _ zqA;have eb_17q7:=hs18b k17q7 _ zqA;rw[qh];refine And.intro (by first|exact Vg _|assumption|exact V8 (by assumption)) ?_;simp+decide only[qh,qi,qj,qo,ev,qZ,qW,putD,Vz,VA,VB,Ka,VC,VD,Kb,and_true,Yj,Yi,ZM,Yw,Yz,↓XR,Xw,Xb,QM,QL,QG,XC,XB,XA,Xz,Xl,Xy,↓qV,qP,decide_true,decide_false,VL,VM,Qc,Qb,forall_const,false_implies,Qj,Qe,J4,VN,VO,VP,VQ,VS,VT,VU,QA,cond_true,cond_false,qN,ne_eq,not_false_eq_true,qM wz eb_3q0,qM wz eb_17q7,ne_17q7_3q0,ne_17q7_3q0.symm,qO,qJ,VE,setAt,VF,Kj,qC,VG,Kn,Jp,Nat.reduceAdd,qF,qG,qI,qf,qK,qa,qz,qd,qE,qc,qA,qg,qH,qy,allLive,J4,tokV,posV,faultV,hlv,nv,ngot2,hgv2,n18,hl18,hlw];repeat (with_reducible refine And.intro ?_ ?_;· first|trivial|omega|(intro hg;simp only[Ky,JH,Jh,VH,VI,VJ,decide_eq_true_eq,decide_eq_false_iff_not,qU]at hg;omega))
     apply hK;clear hK K;refine Xe ?_;try simp only[QD,Qo]
     refine XT h zqC (Qs (Qy)) ?_;simp+decide only[qh,qi,qj,qo,ev,qZ,qW,putD,Vz,VA,VB,Ka,VC,VD,Kb,and_true,Xd,decide_true,decide_false,VL,VM,Qc,Qb,forall_const,false_implies,Qj,Qe,J4,VN,VO,VP,VQ,VS,VT,VU,QA,cond_true,cond_false,qN,ne_eq,not_false_eq_true,qM wz eb_3q0,qM wz eb_17q7,ne_17q7_3q0,ne_17q7_3q0.symm,qO,qJ,VE,setAt,VF,Kj,qC,VG,Kn,Jp,Nat.reduceAdd,qF,qG,qI,qf,qK,qa,qz,qd,qE,qc,qA,qg,qH,qy,allLive,J4,tokV,posV,faultV,hlv,nv];all_goals first|rfl|exact⟨rfl,rfl⟩|(simp+decide only[Ka, *];done)|(trace_state;fail)
end Go.Proofs.YtgiadjbiimkbiaaDoor
namespace Go.Proofs.YtgiadjbiimkbiaaDoor
open Go.AM
open Go.ChangeShapes Go.WideShapes Go.ChangeAt Go.RowKit
set_option maxRecDepth 100000
section
variable {H:Type} {enc:TypeId×Value->H} {W:World} {base:Nat} {v:Value} {x:DataW H×List MemPlace}
end
theorem returns_and_shaped{H:Type}{enc:TypeId×Value->H}{a:Assume}{C:Checked}{os:Os}{f:FuncId}{fn:Func}{s:ChangeSpec}{conds:List PathCond}{apart fresh handsOn again:Bool}{X:World->Array Value->Prop}
 (hX:∀(w w':World) (args:Array Value),w.heap=w'.heap->X w args->X w' args)
 (own:ownKnob C.prog.godebug=none) (started:os.Started) (noInit:C.prog.inits.idxOf? f=none) (hfn:C.prog.funcs[f]?=some fn)
 (witness:∃(w:World) (tape:Tape) (i:Input),w.os=os/\(w.forCall tape i).Shaped C.prog/\i.vars=[]/\Input.okWide C.prog (w.forCall tape i) .any w.heap.size f i/\
   ((s.pre enc C.prog fn conds apart (w.forCall tape i).memory i.args/\X (w.forCall tape i).memory i.args)/\sizedMet enc C.prog fn (OpenSpec.ofChange s) apart (w.forCall tape i).memory i.args)/\a.holds C.prog (lone (Frame.enter C.prog f i.args .normal) [] (w.forCall tape i)))
 (contract:∀(W:World) (base:Nat) (args:Array Value) (ds gs:List (DataW H)) (before:List MemPlace),W.ShapedOpen C.prog->
   (∀(j:Nat) t v,fn.params[j]?=some t->args[j]?=some v->Value.okWide C.prog W .any base t v)->
   DataW.Whole enc C.prog fn.params.toList s.vars apart W args.toList ds gs before->
   conds.all (PathCond.test C.prog ⟨fn.params.toList,ds,s.plain.varTypes C.prog,gs⟩)=true->
   (DataW.weightsEach C.prog (fn.params.toList++s.plain.varTypes C.prog) (ds++gs)).all (· <=reachBytes)=true->X W args->
   a.holds C.prog (lone (Frame.enter C.prog f args .normal) [] W)->
   Calls C.prog f args W fun e W'=>∃v,e= .returned v/\s.post enc C.prog fn apart fresh handsOn again W args v W'):
 ReturnsInHanded a C os f .any (fun w args=>(s.pre enc C.prog fn conds apart w args/\X w args)/\sizedMet enc C.prog fn (OpenSpec.ofChange s) apart w args) (s.post enc C.prog fn apart fresh handsOn again):=by
 refine returnsInHanded_of_calls own started noInit witness ?_;intro w tape i _ hsh _ hok hpre hholds;obtain⟨_,_,_,fn',hfn',_,_,_,_,hval⟩:=hok;have e:fn'=fn:=Option.some.inj (hfn'.symm.trans hfn);subst e;obtain⟨⟨⟨ds,gs,before,hw,hc⟩,hx⟩,hz⟩:=hpre;have hw':=DataW.Whole.of_heap (w':=w.forCall tape i) (by rfl) hw;refine(contract (w.forCall tape i) w.heap.size i.args ds gs before hsh hval hw' hc (hz.weights hw) (hX _ _ _ (by rfl) hx) hholds).mono fun e W' ⟨v,he,hp⟩=>?_;subst he;exact ChangeSpec.post_blind hp
theorem maxl_of{W:World}(h:W.ShapedOpen Tryd.prog):MaxL W:=
 cell_of_shapedOpen_int (t:=3) (zero:= #[.int .i64 0]) h (of_decide_eq_true (by kernel_rfl)) (by kernel_rfl) rfl (by kernel_rfl) (by kernel_rfl) Tryd.underlying3
theorem asp_of{W:World}{rest:List (String×DataW Unit)}(h:laidMet Tryd.prog (("strings.asciiSpace",Rows.laid_strings_asciiSpace)::rest) W):Asp W:=
 Lib.tabIs_of_head (g:=0) (by kernel_rfl) (by kernel_rfl) (show Tryd.prog.underlying 84=_ from Tryd.underlying84) Tryd.underlying5 (by kernel_rfl) (by kernel_rfl) h
end Go.Proofs.YtgiadjbiimkbiaaDoor
namespace Go.AM
open Go.ChangeShapes Go.WideShapes Go.ChangeAt Go.RowKit
section
variable {P:Program} {H:Type} {enc:TypeId×Value->H} {W:World} {α:Type}
structure RowOf(P:Program)(enc:TypeId×Value->H)(W:World)(e:TypeId)(es:Nat)(el:α->List Value)(inv:α->Prop):Prop where
 size:P.cellsOf e=es
 pos:0<es
 len:∀x,(el x).length=es
 live:∀x,inv x->allLive ((el x).map qW)=true
 cell:∀(n:Nat) (cs:List Value) (y:DataW H×List MemPlace),DataW.trod enc P W 0 (fun _=>true) true n e cs=some y->∃x,cs=el x/\inv x
theorem qhY{el:α->List Value}{inv:α->Prop}{es:Nat}{a:Addr}:∀(len:Nat),(∀i,i<len->∃x:α,inv x/\∀j,j<es->W.cell? (a.add (i*es+j))=(el x)[j]?)->
 ∃l:List α,l.length=len/\(∀x∈l,inv x)/\∀i (hi:i<l.length),∀j,j<es->W.cell? (a.add (i*es+j))=(el l[i])[j]?
 |0,_=>⟨[],rfl,by simp,fun i hi=>by simp at hi⟩
 |n+1,h=>by
  obtain⟨l,h1,h2,h3⟩:=qhY n fun i hi=>h i (by omega);obtain⟨x,hx,hc⟩:=h n (by omega);refine⟨l++[x],by simp[h1],?_,fun i hi j hj=>?_⟩
  ·intro y hy
   rcases JS.1 hy with hy|hy
   ·exact h2 y hy
   ·rw[V4.1 hy];exact hx
  ·by_cases hin:i<l.length
   ·rw[List.getElem_append_left hin]
    exact h3 i hin j hj
   ·have e:i=n:=by simp at hi;omega
    subst e;have:(l++[x])[i]=x:=by rw[List.getElem_append_right (by omega)];simp
    rw[this];exact hc j hj
theorem qgW{el:α->List Value}{inv:α->Prop}{es:Nat}(hes:0<es)(hlen:∀x,(el x).length=es)(hlive:∀x,inv x->allLive ((el x).map qW)=true){b o cap:Nat}{l:List α}(hi:∀x∈l,inv x)(hcap:l.length<=cap)
 (hc:∀i (hi:i<l.length),∀j,j<es->W.cell? ((⟨b,o,none⟩:Addr).add (i*es+j))=(el l[i])[j]?):
 IsL W (fun _=>none) es (.slice (.base b) o l.length (.exact cap)) (l.map fun x=>(el x).map qW):=by
 have hw:∀x∈l.map (fun x=>(el x).map qW),x.length=es:=by
  intro x hx;obtain⟨y,_,rfl⟩:=JI.1 hx;rw[Jn,hlen]
 refine .mk _ _ _ _ _ (by rw[Jn]) hw ?_ (YF.2 fun x hx=>by obtain⟨y,hy,rfl⟩:=JI.1 hx;exact hlive y (hi y hy)) hcap;apply List.ext_getElem?;intro q;by_cases hq:q<l.length*es
 ·rw[UY _ _ _ _ _ _ hq]
  have hm:q%es<es:=Nat.mod_lt _ hes;have hd:q / es<l.length:=Nat.div_lt_of_lt_mul (by rw[Ep];exact hq);have hqe:q=q / es*es+q%es:=by rw[Ep];exact(Nat.div_add_mod q es).symm
  have hcell:=hc (q / es) hd (q%es) hm;rw[<-hqe]at hcell;have ea:(⟨b,o,none⟩:Addr).add q=⟨b,o+q,none⟩:=by by_cases e:q=0<;>simp[Addr.add,e]
  rw[ea,JB (by rw[hlen];exact hm)]at hcell;have h2:=qfR hw (i:=q / es) (j:=q%es) (by rw[Jn];exact hd) hm;rw[<-hqe]at h2;rw[h2,List.getD_eq_getElem?_getD,Vv,JB hd,KI,Option.getD_some,Vv,JB (by rw[hlen];exact hm),KI];have hlt:b<W.heap.size:=qeM hcell;simp only[AM.rd,hlt,if_true,hcell]
 ·rw[Kr (by rw[Ub];omega),Kr (by rw[Zm hw,Jn];omega)]
theorem qmG{e t:TypeId}{es:Nat}{el:α->List Value}{inv:α->Prop}(R:RowOf P enc W e es el inv)(ht:P.underlying t=some (.slice e)){n:Nat}{cs:List Value}{y:DataW H×List MemPlace}(h:DataW.trod enc P W 0 (fun _=>true) true n t cs=some y):
 ∃(v:Value) (l:List α),cs=[v]/\IsL W (fun _=>none) es (qW v) (l.map fun x=>(el x).map qW)/\l.length<=9223372036854775807/\∀x∈l,inv x:=by
 rcases DataW.trod_slice ht h with⟨hcs,_⟩|⟨a,len,cap,elems,rest,n',_,hcs,_,_,hlc,hcm,hel,hcell,hspare,_⟩
 ·exact⟨_,[],hcs, .nil,by simp,by simp⟩
 ·have hlen:len<=9223372036854775807:=Vb hlc hcm
  have one:∀(m i:Nat) (q:Option (DataW H×List MemPlace)),(W.cells? 0 (a.add (i*P.cellsOf e)) (P.cellsOf e)).bind (DataW.trod enc P W 0 (fun _=>true) true m e)=q->q.isSome=true->∃x:α,inv x/\∀j,j<es->W.cell? (a.add (i*es+j))=(el x)[j]?:=by
   intro m i q hq hs;cases q with
   |none=>cases hs
   |some z=>
    rw[Option.bind_eq_some_iff]at hq;obtain⟨cs',hcs',hy⟩:=hq;obtain⟨x,rfl,hx⟩:=R.cell _ _ _ hy;rw[R.size]at hcs';refine⟨x,hx,fun j hj=>?_⟩;have:=(World.cells?_some hcs').2.2 j hj;rw[<-this];congr 1;obtain⟨ab,ao,asp⟩:=a;by_cases e1:i*es=0<;>by_cases e2:j=0<;>simp[Addr.add,e1,e2,Nat.add_assoc]
  obtain⟨l,l1,l2,l3⟩:=qhY (W:=W) (el:=el) (inv:=inv) (es:=es) (a:=a) len fun i hi=>one n' i _ (hcell i hi) (by rw[JB (by omega)];rfl);have spot:∀(x:α),(∀j,j<es->W.cell? (a.add (0*es+j))=(el x)[j]?)->a.spot=none:=by
   intro x hx;have h0:=hx 0 R.pos;rw[JB (by rw[R.len];exact R.pos)]at h0;have:=World.cell?_spot h0
   rwa [Addr.add,if_pos (by rw[K7])]at this
  refine⟨.slice (some a) len cap,l,hcs,?_,by omega,l2⟩;subst l1;obtain⟨ab,ao,asp⟩:=a;by_cases hc0:cap=0
  ·have hl0:l=[]:=Kg (by omega)
   subst hl0;subst hc0;cases asp with
   |none=>exact qgW (l:=([]:List α)) (inv:=inv) R.pos R.len R.live (fun x hx=>by cases hx) (KL _) fun i hi=>absurd hi (Er i)
   |some s=>exact qgW (l:=([]:List α)) (inv:=inv) R.pos R.len R.live (fun x hx=>by cases hx) (KL _) fun i hi=>absurd hi (Er i)
  ·have hs:asp=none:=by
    by_cases hl0:l.length=0
    ·obtain⟨r1,r2⟩:=hspare rfl
     obtain⟨x,_,hx⟩:=one n' l.length _ (r2 0 (by omega)) (by rw[JB (by omega)];rfl);rw[hl0]at hx;exact spot x hx
    ·exact spot _ (l3 0 (by omega))
   subst hs;exact qgW (inv:=inv) R.pos R.len R.live l2 hlc l3
end
end Go.AM
namespace Go.Proofs.YtgiadjbiimkbiaaDoor
open Go.AM
open Go.ChangeShapes Go.WideShapes Go.ChangeAt Go.RowKit
set_option maxRecDepth 100000
section
variable {H:Type} {enc:TypeId×Value->H} {W:World} {base:Nat} {v:Value} {x:DataW H×List MemPlace}
def qrW(b:UInt8):List Value:=[.int .u8 b.toNat]
theorem qph:RowOf Tryd.prog enc W 5 1 qrW (fun _=>True):=by
 refine⟨by kernel_rfl,by decide,fun _=>rfl,fun _ _=>rfl,fun n cs y h=>?_⟩;obtain⟨a,e0,_,w0⟩:=DataW.trod_int Tryd.underlying5 h;subst e0;obtain⟨a0,a1⟩:=wf_u8 w0;refine⟨KD a.toNat,?_,trivial⟩;unfold qrW;have:((KD a.toNat).toNat:Int)=a:=by
  rw[UInt8.toNat_ofNat',Nat.mod_eq_of_lt (by omega)];omega
 rw[this]
theorem arg_Bs(h:∃fuel,DataW.trod enc Tryd.prog W 0 (fun _=>true) true fuel 35 v.cells.toList=some x)(hv:Value.okWide Tryd.prog W .any base 35 v):
 ∃(l:List UInt8) (y:AVal),VR (fun _=>none) y v/\IsL W (fun _=>none) 1 y (l.map fun b=>[AVal.int .u8 b.toNat]):=by
 obtain⟨fuel,h2⟩:=h;obtain⟨a0,len0,cap0,rfl⟩:=okWide_slice Tryd.underlying35 hv;have h2':DataW.trod enc Tryd.prog W 0 (fun _=>true) true fuel 35 [.slice a0 len0 cap0]=some x:=h2;obtain⟨v',l,hcs,hL,hl,_⟩:=qmG qph Tryd.underlying35 h2';simp only[List.cons.injEq,and_true]at hcs;subst hcs;exact⟨l,_,qgu _ _,hL⟩
end
end Go.Proofs.YtgiadjbiimkbiaaDoor
