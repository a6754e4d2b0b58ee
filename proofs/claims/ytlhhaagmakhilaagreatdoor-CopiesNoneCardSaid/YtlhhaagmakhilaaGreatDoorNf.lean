/-
  Texts of this proof, joined: CtI, CtJ, CtK, LwR, LwS, LwX, LwL.
  Conditions: none.
-/
import Derived.Test.YtlhhaagmakhilaaGreatDoorNe
import Derived.Test.YtlhhaagmakhilaaGreatDoorProg
import Derived.Test.YtlhhaagmakhilaaGreatDoorNb
import Derived.WalkKit
import Derived.ProofKit
import Derived.OpenShut
import Derived.ShutString
import Derived.ChangeOld
import Derived.Below
import Derived.Deep.Strs
import Derived.Handed
import Derived.HandedShaped
import Derived.Shelf.Vars
import Derived.Test.YtlhhaagmakhilaaGreatDoorRows
import Derived.Lib.LaidTab
import Derived.MakeChecks
import Derived.Test.YtlhhaagmakhilaaGreatDoorNd
set_option linter.unusedSimpArgs false
set_option linter.unnecessarySimpa false
set_option linter.unusedVariables false
namespace Go.Proofs.YtlhhaagmakhilaaGreatDoor
open Go.AM
open Go.Proofs
open Go.Col (Str FaultC okF sp)
open Go.Tok
open Go.Cop
open Go.RowKit (Below)
set_option maxRecDepth 100000
theorem UC{l:List UInt8}:∀x∈l.map Uf,x.length=1:=fun x hx=>by obtain⟨y,_,rfl⟩:=List.mem_map.1 hx;rfl
theorem kinC_scal(l:List UInt8):QC ((l.map Uf).flatten)=true:=Yo.2 fun x hx=>by obtain⟨y,_,rfl⟩:=List.mem_map.1 hx;rfl
theorem lisQC_wide{l:List LisQ}:∀x∈l.map lisQC,x.length=1:=fun x hx=>by obtain⟨y,_,rfl⟩:=List.mem_map.1 hx;rfl
theorem u8_mod(k:Nat)(hk:0<k/\k<256)(c:UInt8):Int.tmod (c.toNat:Int) (k:Nat)=((c%UInt8.ofNat k).toNat:Int):=by
 rw[Int.tmod_eq_emod_of_nonneg (by omega),UInt8.toNat_mod,UInt8.toNat_ofNat',Nat.mod_eq_of_lt hk.2];exact(Int.natCast_emod _ _).symm
theorem u8_rem200(c:UInt8):Int.tmod (c.toNat:Int) 200=((c%200).toNat:Int):=u8_mod 200 (by decide) c
theorem u8_rem160(c:UInt8):Int.tmod (c.toNat:Int) 160=((c%160).toNat:Int):=u8_mod 160 (by decide) c
def qaN(n:UInt8)(x:List UInt8):List UInt8:=x.map (· %n)
theorem modB_step(n:UInt8){x:List UInt8}{i:Nat}(hi:i<x.length):qaN n (x.take (i+1))=qaN n (x.take i)++[x.getD i 0%n]:=by
 unfold qaN;rw[List.take_add_one,List.getElem?_eq_getElem hi,List.map_append];simp[List.getD,hi]
theorem modB_lt{n:UInt8}(hn:0<n.toNat)(x:List UInt8):∀b∈qaN n x,b.toNat<n.toNat:=by
 intro b hb;obtain⟨c,-,rfl⟩:=List.mem_map.1 hb;rw[UInt8.toNat_mod];exact Nat.mod_lt _ hn
structure BsG where
 i:Nat
 b:Option Buf
structure BsOk(H:AHeap)(n:UInt8)(x:List UInt8)(s:BsG):Prop where
 i:s.i<=x.length
 ok:bufOk H 1 s.b
 eq:Yu s.b=((qaN n (x.take s.i)).map Uf).flatten
structure RwG where
 i:Nat
 B:AHeap
 b:Option Buf
 qs:List LisQ
structure RwOk(wz:World)(h:AHeap)(m:List (List UInt8))(s:RwG):Prop where
 i:s.i<=m.length
 sub:Sub h s.B
 ok:bufOk s.B 1 s.b
 eq:Yu s.b=(s.qs.map lisQC).flatten
 ms:s.qs.map (·.1)=(m.take s.i).map (qaN 200)
 rows:∀q∈s.qs,IsL wz s.B 1 q.2 (q.1.map Uf)
 six:∀y∈m.take s.i,y.length<=6
set_option maxHeartbeats 2000000 in
theorem l_None24(wz:World)(hm:MaxL wz)(h H:AHeap)(hs_H:Sub h H)(v bv:AVal)(x:List UInt8)(m:List (List UInt8))(hx:IsL wz H 1 v (x.map Uf))(hxl:x.length<=30)(hms:IsLs wz H bv m)(hml:m.length<=5)(hm6:∀y∈m,y.length<=6)(hm2:∀y∈m,∀b∈y,b.toNat<200):
 Awp Tryz.prog wz 168 (WP 9 (qcu Tryz.f5)) (qcB Tryz.prog wz [.tmp 4] (fun r h'=>r= .bool true/\h'=h)) [(0,v),(11,bv)] (H):=by
 have hlv:=hx.live;have hbv:bv.live=true:=by obtain⟨qs,-,h1,-⟩:=hms;exact h1.live
 have hlen:=hx.len Tryz.underlying23;rw[List.length_map]at hlen;change Awp _ _ _ (Code.seq _ _) _ _ _;refine awp_rseq [0,11,15] (by rfl) fun K hK=>?_;simp+decide only[qa,ev,qH,qF,putD,Slots.put,Slots.keep,if_true,if_false,true_and,↓qd,qb];apply hK;clear hK K;refine qK ?_;refine awp_rseq [0,11,15,16] (by rfl) fun K hK=>?_;simp+decide only[qa,ev,qH,qF,putD,Slots.put,Slots.keep,if_true,if_false,true_and,↓qd,qb];apply hK;clear hK K;refine Ql ?_;refine Xv [0,11,15,16] (fun s:BsG=>[(0,v),(11,bv),(15,QA 1 s.b),(16, .int .i64 s.i)]) (fun s:BsG=>QG H s.b) (fun s:BsG=>BsOk H 200 x s) (fun s:BsG=>x.length-s.i) ⟨0,none⟩ (by rfl) (Sub.refl _) ⟨Nat.zero_le _,trivial,rfl⟩ ?_;rintro⟨i,b⟩ ⟨g1,g2,g3⟩;simp only at g1 g2 g3|-
 have hbl:=QV 1 b;refine qK ?_;refine awp_rseq [0,11,15,16,108] (by rfl) fun K hK=>?_;simp+decide only[qa,ev,putD,Slots.put,Slots.get,Slots.keep,if_true,if_false,true_and,↓qh,qc,↓Xo,QD,↓qA,ql,qR,cond_false,qo,XP,hlen];apply hK;clear hK K;refine qJ (b:=_) rfl (fun hb1=>?_) (fun hb1=>?_)
 ·try simp only[decide_eq_true_eq]at hb1
  have hi:i<x.length:=by omega
  obtain⟨lc,o,c,rfl⟩:=kin_open hx (by omega);have he:=kin_at (hx.mono (Sub.buf g2)) hi;rw[Nat.mul_one]at he;refine qP ?_;change Awp _ _ _ _ _ _ _;refine qK ?_;refine Ql ?_;refine XA [0,11,15,16] (by rfl) ?_;simp+decide only[ev,qH,qF,putD,Slots.put,Slots.get,if_true,if_false,true_and,↓qh,qc,↓QB,qY,Qb Tryz.underlying23 sz5,↓qG,qy ag5,↓qA,ql,qB,cond_false,qo,qdZ,qi,he,u8_rem200,Int.toNat_natCast,Nat.mul_one];repeat (with_reducible refine And.intro ?_ ?_;· first|trivial|omega|(intro hg;simp only[Bool.and_eq_true,Bool.or_eq_true,Bool.not_eq_true',Bool.and_eq_false_iff,Bool.or_eq_false_iff,Bool.not_eq_false',decide_eq_true_eq,decide_eq_false_iff_not,XV]at hg;omega))
  refine Qm (cs:=Uf (x.getD i 0%200)) (by kernel_rfl) fun k28q6 hk28q6=>?_;try have hf_28q6:h k28q6=none:=by first|assumption|(simp only[AHeap.set_none]at hk28q6;simp only[hk28q6])
  refine Xu (es:=1) (zs:=(qaN 200 (x.take i)).map Uf) (xs:=[x.getD i 0%200].map Uf) (hZ:=H) (b:=b) (by rfl) (by rfl) Tryz.underlying23 Tryz.underlying23 (fun k e=>by cases e) sz5 by5 ze5 (by rfl) (by decide) (by rfl) g2 g3 UC (Sub.set (by assumption)) (by rfl) (IsL.own (AHeap.set_same _ _ _) UC (by rfl) (by rfl) (.exact 1) (Nat.le_refl _)) (kinC_scal _) (by simp[qaN];omega) (by simp[qaN];omega) fun b2 h28 o1 o2 o3=>?_;simp+decide only[qa,ev,putD,Slots.put,Slots.get,Slots.keep,if_true,if_false,true_and,↓qd,qb];change Awp _ _ _ _ _ _ _;refine XA [0,11,15,16] (by rfl) ?_;simp+decide only[qa,ev,qH,qF,putD,Slots.put,Slots.get,Slots.keep,if_true,if_false,true_and,↓qh,qc,↓qA,ql,qB,cond_false,qo,QY,↓qd,qb];try simp(disch:=omega)only[wrap_i64]
  try simp only[Qg]
  exact⟨⟨i+1,b2⟩,rfl,o3,⟨hi,o1,by simp only;rw[o2,modB_step 200 hi,List.map_append]⟩,by simp only;omega⟩
 ·try simp only[decide_eq_false_iff_not]at hb1
  refine Xy ?_;change Awp _ _ _ _ _ _ _;have hix:x.take i=x:=List.take_of_length_le (by omega);rw[hix]at g3;have hS:Sub H (QG H b):=Sub.buf g2;refine Awp.keep [11,15] ?_;exact l_None29 wz hm h (QG H b) (hs_H.trans hS) (QA 1 b) bv (qaN 200 x) m (IsL.buf g2 (by decide) g3 UC (Sub.refl _)) (by simpa[qaN]using hxl) (modB_lt (by decide) x) (hms.mono hS) hml hm6 hm2
end Go.Proofs.YtlhhaagmakhilaaGreatDoor
namespace Go.Proofs.YtlhhaagmakhilaaGreatDoor
open Go.AM
open Go.Proofs
open Go.Col (Str FaultC okF sp)
open Go.Tok
open Go.Cop
open Go.RowKit (Below)
set_option maxRecDepth 100000
theorem lis_getD{qs:List LisQ}{i:Nat}(hi:i<qs.length):(qs.map (·.1)).getD i []=(qs.getD i badL).1:=by
 rw[List.getD,List.getElem?_map,List.getElem?_eq_getElem hi,List.getD,List.getElem?_eq_getElem hi];rfl
set_option maxHeartbeats 2000000 in
theorem l_None12(wz:World)(hm:MaxL wz)(h:AHeap)(v w:AVal)(x:List UInt8)(m:List (List UInt8))(hx:IsL wz h 1 v (x.map Uf))(hxl:x.length<=30)(hms:IsLs wz h w m)(hml:m.length<=5)(hm63:∀y∈m,y.length<=9223372036854775807):
 Awp Tryz.prog wz 168 (WP 7 (qcu Tryz.f5)) (qcB Tryz.prog wz [.tmp 4] (fun r h'=>r= .bool true/\h'=h)) [(0,v),(1,w)] (h):=by
 have hlv:=hx.live;obtain⟨qs,hm0,hq1,hq2⟩:=hms;have hwv:=hq1.live;have hlen:=lis_len hq1;have hqm:qs.length=m.length:=by rw[hm0,List.length_map]
 change Awp _ _ _ (Code.seq _ _) _ _ _;refine awp_rseq [0,1,11] (by rfl) fun K hK=>?_;simp+decide only[qa,ev,qH,qF,putD,Slots.put,Slots.keep,if_true,if_false,true_and,↓qd,qb];apply hK;clear hK K;refine qK ?_;refine awp_rseq [0,1,11,12] (by rfl) fun K hK=>?_;simp+decide only[qa,ev,qH,qF,putD,Slots.put,Slots.keep,if_true,if_false,true_and,↓qd,qb];apply hK;clear hK K;refine Ql ?_;refine Xv [0,1,11,12] (fun s:RwG=>[(0,v),(1,w),(11,QA 1 s.b),(12, .int .i64 s.i)]) (fun s:RwG=>QG s.B s.b) (fun s:RwG=>RwOk wz h m s) (fun s:RwG=>m.length-s.i) ⟨0,h,none,[]⟩ (by rfl) (Sub.refl _) ⟨Nat.zero_le _,Sub.refl _,trivial,rfl,rfl,(fun q hq=>by cases hq),(fun y hy=>by simp at hy)⟩ ?_;rintro⟨i,B,rb,rs⟩ ⟨g1,g2,g3,g4,g5,g6,g7⟩;simp only at g1 g2 g3 g4 g5 g6 g7|-
 have hrl:=QV 1 rb;obtain⟨H1,hH1⟩:∃H1,H1=QG B rb:=⟨_,rfl⟩
 have hs_H1:Sub h H1:=by rw[hH1];exact g2.trans (Sub.buf g3)
 rw[<-hH1];refine qK ?_;refine awp_rseq [0,1,11,12,71] (by rfl) fun K hK=>?_;simp+decide only[qa,ev,putD,Slots.put,Slots.get,Slots.keep,if_true,if_false,true_and,↓qh,qc,↓Xo,QD,↓qA,ql,qR,cond_false,qo,XP,hlen];apply hK;clear hK K;refine qJ (b:=_) rfl (fun hb1=>?_) (fun hb1=>?_)
 ·try simp only[decide_eq_true_eq]at hb1
  have hi:i<qs.length:=by omega
  obtain⟨lc,o,c,rfl⟩:=lis_open hq1 (by omega);have he:=lis_at (hq1.mono hs_H1) hi;obtain⟨y,hy⟩:∃y,y=qs.getD i badL:=⟨_,rfl⟩
  rw[<-hy]at he;have hym:y∈qs:=by rw[hy];exact qaO badL hi
  have hyv:=hq2 y hym;have hyl:=hyv.live;have hyn:=hyv.len Tryz.underlying23;rw[List.length_map]at hyn;have hmy:m.getD i []=y.1:=by rw[hm0,hy];exact lis_getD hi
  have hy63:y.1.length<=9223372036854775807:=hm63 _ (by rw[hm0];exact List.mem_map_of_mem hym);refine qP ?_;change Awp _ _ _ _ _ _ _;refine qK ?_;refine Ql ?_;refine qK ?_;refine awp_rseq [0,1,11,12,79] (by rfl) fun K hK=>?_;simp+decide only[qa,ev,qH,qF,putD,Slots.put,Slots.get,Slots.keep,if_true,if_false,true_and,↓qh,qc,↓QB,qY,Qb Tryz.underlying24 sz23,↓qG,qy ag23,↓Xo,QD,↓qA,ql,qB,cond_false,qo,UV,he,hyl,hyn,Int.toNat_natCast,Nat.mul_one];repeat (with_reducible refine And.intro ?_ ?_;· first|trivial|omega|(intro hg;simp only[Bool.and_eq_true,Bool.or_eq_true,Bool.not_eq_true',Bool.and_eq_false_iff,Bool.or_eq_false_iff,Bool.not_eq_false',decide_eq_true_eq,decide_eq_false_iff_not,XV]at hg;omega))
  apply hK;clear hK K;refine qJ (b:=_) rfl (fun hb2=>?_) (fun hb2=>?_)
  ·try simp only[decide_eq_true_eq]at hb2
   refine awp_rseq [4] (by rfl) fun K hK=>?_;refine qN (V:= .bool true) (by rfl) (by rfl) (qeY wz hm _) ?_;simp+decide only[qa,ev,putD,Slots.put,Slots.get,Slots.keep,if_true,if_false,true_and,↓qd,qb];apply hK;clear hK K;refine qO ?_;try simp only[Qi,Qw]
   refine Qa h zqC (qZ (Qd)) ?_;simp+decide only[Slots.get,if_true,and_true,Qr];all_goals first|rfl|exact⟨rfl,rfl⟩|(simp+decide only[if_true,if_false, *];done)|(trace_state;fail)
  ·try simp only[decide_eq_false_iff_not]at hb2
   have hy6:y.1.length<=6:=by omega
   refine qP ?_;change Awp _ _ _ _ _ _ _;refine awp_rseq [0,1,11,12,13] (by rfl) fun K hK=>?_;simp+decide only[qa,ev,qH,qF,putD,Slots.put,Slots.keep,if_true,if_false,true_and,↓qd,qb];apply hK;clear hK K;refine qK ?_;refine awp_rseq [0,1,11,12,13,14] (by rfl) fun K hK=>?_;simp+decide only[qa,ev,qH,qF,putD,Slots.put,Slots.keep,if_true,if_false,true_and,↓qd,qb];apply hK;clear hK K;refine Ql ?_;refine Xv [0,1,11,12,13,14] (fun s:BsG=>[(0,v),(1, .slice lc o qs.length c),(11,QA 1 rb),(12, .int .i64 i),(13,QA 1 s.b),(14, .int .i64 s.i)]) (fun s:BsG=>QG H1 s.b) (fun s:BsG=>BsOk H1 200 y.1 s) (fun s:BsG=>y.1.length-s.i) ⟨0,none⟩ (by rfl) (Sub.refl _) ⟨Nat.zero_le _,trivial,rfl⟩ ?_;rintro⟨k,b⟩ ⟨k1,k2,k3⟩;simp only at k1 k2 k3|-
   have hbl:=QV 1 b;have heb:rd wz (QG H1 b) lc (o+i)=y.2:=by have:=lis_at (hq1.mono (hs_H1.trans (Sub.buf k2))) hi;rw[<-hy]at this;exact this
   refine qK ?_;refine awp_rseq [0,1,11,12,13,14,87] (by rfl) fun K hK=>?_;simp+decide only[qa,ev,putD,Slots.put,Slots.get,Slots.keep,if_true,if_false,true_and,↓qh,qc,↓QB,qY,Qb Tryz.underlying24 sz23,↓qG,qy ag23,↓Xo,QD,↓qA,ql,qR,cond_false,qo,XP,heb,hyl,hyn,Int.toNat_natCast,Nat.mul_one];repeat (with_reducible refine And.intro ?_ ?_;· first|trivial|omega|(intro hg;simp only[Bool.and_eq_true,Bool.or_eq_true,Bool.not_eq_true',Bool.and_eq_false_iff,Bool.or_eq_false_iff,Bool.not_eq_false',decide_eq_true_eq,decide_eq_false_iff_not,XV]at hg;omega))
   apply hK;clear hK K;refine qJ (b:=_) rfl (fun hb3=>?_) (fun hb3=>?_)
   ·try simp only[decide_eq_true_eq]at hb3
    have hk:k<y.1.length:=by omega
    obtain⟨lc2,o2,c2,hyo⟩:=kin_open hyv (by omega);have hyv2:=hyv;rw[hyo]at hyv2;have he2:=kin_at (hyv2.mono (hs_H1.trans (Sub.buf k2))) hk;rw[Nat.mul_one]at he2;refine qP ?_;change Awp _ _ _ _ _ _ _;refine qK ?_;refine Ql ?_;refine XA [0,1,11,12,13,14] (by rfl) ?_;simp+decide only[ev,qH,qF,putD,Slots.put,Slots.get,if_true,if_false,true_and,↓qh,qc,↓QB,qY,Qb Tryz.underlying24 sz23,↓qG,qy ag23,Qb Tryz.underlying23 sz5,qy ag5,↓qA,ql,qB,cond_false,qo,qdZ,qi,WY,heb,Int.toNat_natCast,Nat.mul_one,hyo,he2,u8_rem200];repeat (with_reducible refine And.intro ?_ ?_;· first|trivial|omega|(intro hg;simp only[Bool.and_eq_true,Bool.or_eq_true,Bool.not_eq_true',Bool.and_eq_false_iff,Bool.or_eq_false_iff,Bool.not_eq_false',decide_eq_true_eq,decide_eq_false_iff_not,XV]at hg;omega))
    refine Qm (cs:=Uf (y.1.getD k 0%200)) (by kernel_rfl) fun k22q9 hk22q9=>?_;try have hf_22q9:h k22q9=none:=by first|assumption|(simp only[AHeap.set_none]at hk22q9;simp only[hk22q9])
    refine Xu (es:=1) (zs:=(qaN 200 (y.1.take k)).map Uf) (xs:=[y.1.getD k 0%200].map Uf) (hZ:=H1) (b:=b) (by rfl) (by rfl) Tryz.underlying23 Tryz.underlying23 (fun k e=>by cases e) sz5 by5 ze5 (by rfl) (by decide) (by rfl) k2 k3 UC (Sub.set (by assumption)) (by rfl) (IsL.own (AHeap.set_same _ _ _) UC (by rfl) (by rfl) (.exact 1) (Nat.le_refl _)) (kinC_scal _) (by simp[qaN];omega) (by simp[qaN];omega) fun b2 h22 o1 o2 o3=>?_;simp+decide only[qa,ev,putD,Slots.put,Slots.get,Slots.keep,if_true,if_false,true_and,↓qd,qb];change Awp _ _ _ _ _ _ _;refine XA [0,1,11,12,13,14] (by rfl) ?_;simp+decide only[qa,ev,qH,qF,putD,Slots.put,Slots.get,Slots.keep,if_true,if_false,true_and,↓qh,qc,↓qA,ql,qB,cond_false,qo,QY,↓qd,qb];try simp(disch:=omega)only[wrap_i64]
    try simp only[Qg]
    exact⟨⟨k+1,b2⟩,rfl,o3,⟨hk,o1,by simp only;rw[o2,modB_step 200 hk,List.map_append]⟩,by simp only;omega⟩
   ·try simp only[decide_eq_false_iff_not]at hb3
    have hky:y.1.take k=y.1:=List.take_of_length_le (by omega);rw[hky]at k3;have hrs:rs.length=i:=by
     have:=congrArg List.length g5;rw[List.length_map,List.length_map,List.length_take]at this;omega
    rw[hH1]at k2;obtain⟨sw1,sw2,sw3⟩:=bufSwap3 g3 k2;refine Xy ?_;change Awp _ _ _ _ _ _ _;refine XA [0,1,11,12] (by rfl) ?_;simp+decide only[ev,putD,Slots.put,Slots.get,if_true,if_false,true_and,↓qh,qc];refine Qm (cs:=[QA 1 b]) (by cases b<;>rfl) fun k23q2 hk23q2=>?_;try have hf_23q2:h k23q2=none:=by first|assumption|(simp only[AHeap.set_none]at hk23q2;simp only[hk23q2])
    refine Xu (es:=1) (zs:=rs.map lisQC) (xs:=[[QA 1 b]]) (hZ:=QG B b) (b:=rb) (by rfl) (by rfl) Tryz.underlying24 Tryz.underlying24 (fun k e=>by cases e) sz23 by23 ze23 (by rfl) (by decide) (by rfl) sw3 g4 lisQC_wide (by rw[<-sw1,<-hH1];exact Sub.set (by assumption)) (by rfl) (IsL.own (AHeap.set_same _ _ _) (by simp) (by rfl) (by simp[AM.allLive,hbl]) (.exact 1) (Nat.le_refl _)) (by simp[QC,YP]) (by simp;omega) (by simp;omega) fun rb2 h23 p1 p2 p3=>?_;simp+decide only[qa,ev,putD,Slots.put,Slots.get,Slots.keep,if_true,if_false,true_and,↓qd,qb];change Awp _ _ _ _ _ _ _;refine XA [0,1,11,12] (by rfl) ?_;simp+decide only[qa,ev,qH,qF,putD,Slots.put,Slots.get,Slots.keep,if_true,if_false,true_and,↓qh,qc,↓qA,ql,qB,cond_false,qo,QY,↓qd,qb];try simp(disch:=omega)only[wrap_i64]
    try simp only[Qg]
    exact⟨⟨i+1,QG B b,rb2,rs++[(qaN 200 y.1,QA 1 b)]⟩,rfl,p3,⟨by simp only;omega,g2.trans (Sub.buf sw2),p1,by rw[p2,List.map_append];rfl,by
     simp only;rw[List.map_append,g5,List.take_add_one,List.getElem?_eq_getElem (by omega),List.map_append,<-hmy,List.getD,List.getElem?_eq_getElem (by omega)];rfl,fun q hq=>by
     rcases List.mem_append.1 hq with z|z
     ·exact(g6 q z).mono (Sub.buf sw2)
     ·rw[List.mem_singleton.1 z]
      exact IsL.buf sw2 (by decide) k3 UC (Sub.refl _),fun z hz=>by
     simp only at hz;rw[List.take_add_one,List.getElem?_eq_getElem (by omega)]at hz;rcases List.mem_append.1 hz with q|q
     ·exact g7 z q
     ·rw[List.getD,List.getElem?_eq_getElem (by omega)]at hmy
      have:z=y.1:=by rw[<-hmy];simpa using q
      rw[this];exact hy6⟩,by simp only;omega⟩
 ·try simp only[decide_eq_false_iff_not]at hb1
  refine Xy ?_;change Awp _ _ _ _ _ _ _;have hix:m.take i=m:=List.take_of_length_le (by omega);rw[hix]at g5 g7;refine Awp.keep [0,11] ?_;exact l_None24 wz hm h H1 hs_H1 v (QA 1 rb) x (m.map (qaN 200)) (hx.mono hs_H1) hxl ⟨rs,g5.symm,by rw[hH1];exact IsL.buf g3 (by decide) g4 lisQC_wide (Sub.refl _),fun q hq=>by rw[hH1];exact(g6 q hq).mono (Sub.buf g3)⟩ (by rw[List.length_map];exact hml) (fun z hz=>by obtain⟨u,hu,rfl⟩:=List.mem_map.1 hz;simpa[qaN]using g7 u hu) (fun z hz=>by obtain⟨u,hu,rfl⟩:=List.mem_map.1 hz;exact modB_lt (by decide) u)
end Go.Proofs.YtlhhaagmakhilaaGreatDoor
namespace Go.Proofs.YtlhhaagmakhilaaGreatDoor
open Go.AM
open Go.Proofs
open Go.Col (Str FaultC okF sp)
open Go.Tok
open Go.Cop
open Go.RowKit (Below)
set_option maxRecDepth 100000
theorem strip_nocopy{l m:List TokC}(h:l.map strip=m)(hm:qal m):qal l:=by
 intro t ht;have:qfD (strip t)=false:=hm _ (by rw[<-h];exact List.mem_map_of_mem ht);exact this
theorem plain_law(x:List UInt8)(mems:List MemC):UR true (lOf (qaN 160 x)) mems= .ok (lOf (qaN 160 x)) ⟨[],0⟩:=by
 refine list_plain (strip_nocopy (lOf_strip _) (raw_plain fun p hp=>?_).2) 8;obtain⟨b,hb,rfl⟩:=List.mem_map.1 hp;exact modB_lt (by decide) x b (List.mem_of_mem_take hb)
set_option maxHeartbeats 4000000 in
theorem l_CopiesNone(wz:World)(hm:MaxL wz)(h:AHeap)(v:AVal)(x:List UInt8)(hx:IsL wz h 1 v (x.map Uf))(hx63:x.length<=9223372036854775807)(w:AVal)(m:List (List UInt8))(hms:IsLs wz h w m)(hm0:m.length<=9223372036854775807)(hm63:∀y∈m,y.length<=9223372036854775807):
 ACall Tryz.prog wz 5 [v,w] h (fun r _=>r= .bool true):=by
 refine ACall.mono (R:=fun r h'=>r= .bool true/\h'=h) ?_ fun r h' hr=>hr.1;have hlv:=hx.live;have hlen:=hx.len Tryz.underlying23;rw[List.length_map]at hlen;have hwv:w.live=true:=by obtain⟨qs,-,h1,-⟩:=hms;exact h1.live
 have hwlen:∀H:AHeap,Ye Tryz.prog H 24 w=⟨True, .int .i64 m.length⟩:=by
  obtain⟨qs,h0,h1,-⟩:=hms;rw[h0,List.length_map];exact lis_len h1
 have hovl:(AVal.bool true).live=true:=rfl;have hnvl:(AVal.bool true).live=true:=rfl;refine qU (n:=168) (rs:=[.tmp 4]) Tryz.func5 rfl rfl rfl rfl (Nat.le_of_ble_eq_true rfl) ?_;simp only[Qe];refine awp_rseq [0,1] (by rfl) fun K hK=>?_;simp+decide only[qa,ev,qH,qF,putD,Slots.put,Slots.keep,if_true,if_false,true_and,↓qd,qb,Nat.zero_add];apply hK;clear hK K;refine qK ?_;refine awp_rseq [0,1,28] (by rfl) fun K hK=>?_;simp+decide only[qa,ev,qH,qF,putD,Slots.put,Slots.get,Slots.keep,if_true,if_false,true_and,↓qh,qc,↓Xo,QD,↓qA,ql,qB,cond_false,qo,UV,↓Xf,agP,Qs,qL,qI,Qf,implies_true,↓qbZ,qfH,qfI,↓Xb,Zc,Zd,↓QT,Qu,Qh,Zh,ZK,hlen,hwlen];apply hK;clear hK K;refine qJ (b:=_) rfl (fun hb1=>?_) (fun hb1=>?_)
 ·try simp only[decide_eq_true_eq,Bool.or_eq_true]at hb1
  refine awp_rseq [4] (by rfl) fun K hK=>?_;refine qN (V:= .bool true) (by rfl) (by rfl) (qeY wz hm _) ?_;simp+decide only[qa,ev,putD,Slots.put,Slots.get,Slots.keep,if_true,if_false,true_and,↓qd,qb];apply hK;clear hK K;refine qO ?_;try simp only[Qi]
  refine Qa h zqC (qZ (Qd)) ?_;simp+decide only[Slots.get,if_true,and_true,Qr];all_goals first|rfl|exact⟨rfl,rfl⟩|(simp+decide only[if_true,if_false, *];done)|(trace_state;fail)
 ·try simp only[decide_eq_false_iff_not,Bool.or_eq_false_iff]at hb1
  have hxl:x.length<=30:=by omega
  have hml:m.length<=5:=by omega
  refine qP ?_;change Awp _ _ _ _ _ _ _;refine awp_rseq [0,1,5] (by rfl) fun K hK=>?_;simp+decide only[qa,ev,qH,qF,putD,Slots.put,Slots.keep,if_true,if_false,true_and,↓qd,qb];apply hK;clear hK K;refine qK ?_;refine awp_rseq [0,1,5,6] (by rfl) fun K hK=>?_;simp+decide only[qa,ev,qH,qF,putD,Slots.put,Slots.keep,if_true,if_false,true_and,↓qd,qb];apply hK;clear hK K;refine Ql ?_;refine Xv [0,1,5,6] (fun s:BsG=>[(0,v),(1,w),(5,QA 1 s.b),(6, .int .i64 s.i)]) (fun s:BsG=>QG h s.b) (fun s:BsG=>BsOk h 160 x s) (fun s:BsG=>x.length-s.i) ⟨0,none⟩ (by rfl) (Sub.refl _) ⟨Nat.zero_le _,trivial,rfl⟩ ?_;rintro⟨i,b⟩ ⟨g1,g2,g3⟩;simp only at g1 g2 g3|-
  have hbl:=QV 1 b;obtain⟨H1,hH1⟩:∃H1,H1=QG h b:=⟨_,rfl⟩
  have hs_H1:Sub h H1:=by rw[hH1];exact Sub.buf g2
  rw[<-hH1];refine qK ?_;refine awp_rseq [0,1,5,6,33] (by rfl) fun K hK=>?_;simp+decide only[qa,ev,putD,Slots.put,Slots.get,Slots.keep,if_true,if_false,true_and,↓qh,qc,↓Xo,QD,↓qA,ql,qR,cond_false,qo,XP,hlen];apply hK;clear hK K;refine qJ (b:=_) rfl (fun hb2=>?_) (fun hb2=>?_)
  ·try simp only[decide_eq_true_eq]at hb2
   have hi:i<x.length:=by omega
   obtain⟨lc,o,c,rfl⟩:=kin_open hx (by omega);have he:=kin_at (hx.mono hs_H1) hi;rw[Nat.mul_one]at he;refine qP ?_;change Awp _ _ _ _ _ _ _;refine qK ?_;refine Ql ?_;refine XA [0,1,5,6] (by rfl) ?_;simp+decide only[ev,qH,qF,putD,Slots.put,Slots.get,if_true,if_false,true_and,↓qh,qc,↓QB,qY,Qb Tryz.underlying23 sz5,↓qG,qy ag5,↓qA,ql,qB,cond_false,qo,qdZ,qi,he,u8_rem160,Int.toNat_natCast,Nat.mul_one];repeat (with_reducible refine And.intro ?_ ?_;· first|trivial|omega|(intro hg;simp only[Bool.and_eq_true,Bool.or_eq_true,Bool.not_eq_true',Bool.and_eq_false_iff,Bool.or_eq_false_iff,Bool.not_eq_false',decide_eq_true_eq,decide_eq_false_iff_not,XV]at hg;omega))
   refine Qm (cs:=Uf (x.getD i 0%160)) (by kernel_rfl) fun k7q6 hk7q6=>?_;have hn_7q6:H1 k7q6=none:=by first|assumption|(simp only[AHeap.set_none]at hk7q6;simp only[hk7q6])
   have hf_7q6:h k7q6=none:=Sub.none hs_H1 hn_7q6;refine Xu (es:=1) (zs:=(qaN 160 (x.take i)).map Uf) (xs:=[x.getD i 0%160].map Uf) (hZ:=h) (b:=b) (by rfl) (by rfl) Tryz.underlying23 Tryz.underlying23 (fun k e=>by cases e) sz5 by5 ze5 (by rfl) (by decide) (by rfl) g2 g3 UC (by rw[<-hH1];exact Sub.set (by assumption)) (by rfl) (IsL.own (AHeap.set_same _ _ _) UC (by rfl) (by rfl) (.exact 1) (Nat.le_refl _)) (kinC_scal _) (by simp[qaN];omega) (by simp[qaN];omega) fun b2 h7 o1 o2 o3=>?_;simp+decide only[qa,ev,putD,Slots.put,Slots.get,Slots.keep,if_true,if_false,true_and,↓qd,qb];change Awp _ _ _ _ _ _ _;refine XA [0,1,5,6] (by rfl) ?_;simp+decide only[qa,ev,qH,qF,putD,Slots.put,Slots.get,Slots.keep,if_true,if_false,true_and,↓qh,qc,↓qA,ql,qB,cond_false,qo,QY,↓qd,qb];try simp(disch:=omega)only[wrap_i64]
   try simp only[Qg]
   exact⟨⟨i+1,b2⟩,rfl,o3,⟨hi,o1,by simp only;rw[o2,modB_step 160 hi,List.map_append]⟩,by simp only;omega⟩
  ·try simp only[decide_eq_false_iff_not]at hb2
   have hix:x.take i=x:=List.take_of_length_le (by omega);rw[hix]at g3;have hplain:IsL wz H1 1 (QA 1 b) ((qaN 160 x).map Uf):=by rw[hH1];exact IsL.buf g2 (by decide) g3 UC (Sub.refl _)
   have hml2:(qaN 160 x).length<=9223372036854775807:=by unfold qaN;rw[List.length_map];exact hx63
   have hmE:=plain_law x (qdm m);generalize qaN 160 x=x1 at hplain hml2 hmE;refine Xy ?_;change Awp _ _ _ _ _ _ _;refine awp_rseq [0,1,7] (by rfl) fun K hK=>?_;simp+decide only[ev,putD,Slots.put,Slots.get,if_true,if_false,true_and,↓qh,qc];refine QN (by rfl) (by rfl) (c_Of04 wz _ (QA 1 b) x1 hplain hml2) fun x8q1 h8q1 hx8q1=>?_;obtain⟨tb,hxe,o1,o2,o3⟩:=hx8q1;subst hxe;have hs1:Sub H1 h8q1:=by rw[o3];exact Sub.buf o1
   have hlist:IsL wz h8q1 5 (QA 5 tb) ((lOf x1).map QK):=by rw[o3];exact IsL.buf o1 (by decide) o2 Xc (Sub.refl _)
   have htl:=QV 5 tb;have hs_h8q1:Sub h h8q1:=Sub.trans zqC hs1;have hr_h8q1:Sub H1 h8q1:=Sub.trans zqC hs1;simp+decide only[qa,ev,putD,Slots.put,Slots.get,Slots.keep,if_true,if_false,true_and,↓qd,qb];apply hK;clear hK K;refine awp_rseq [0,1,7,8,9,10] (by rfl) fun K hK=>?_;simp+decide only[ev,putD,Slots.put,Slots.get,if_true,if_false,true_and,↓qh,qc];refine QN (by rfl) (by rfl) (c_library04 wz _ w m (hms.mono hs_h8q1) (by omega) hm63) fun x9q2 h9q2 hx9q2=>?_;obtain⟨s9,hxe,hh9,hL⟩:=hx9q2;subst hxe;have hA:=AcOk.of hL;rw[<-hh9]at hA;have hs3:=hA.sub;have hmem:IsMems wz h9q2 (QA 2 s9.mb) (qdm m):=hA.mems;have hmbl:=QV 2 s9.mb;have hs_h9q2:Sub h h9q2:=Sub.trans zqC hs3;have hr_h9q2:Sub h8q1 h9q2:=Sub.trans zqC hs3;refine QN (by rfl) (by rfl) (qes wz _ (QA 5 tb) (QA 2 s9.mb) (lOf x1) (qdm m) (hlist.mono hs3) hmem (Nat.le_trans (qeM x1).2 (by decide)) (Nat.le_trans (libE_len m) (by omega)) (libE_small m)) fun x9q3 h9q3 hx9q3=>?_;obtain⟨ov,nv,f,rfl,hs4,hc1,hc2,hcase⟩:=hx9q3;rw[hmE]at hcase;obtain⟨rfl,hov,hnv⟩:f=okF/\IsL wz h9q3 5 ov ((lOf x1).map QK)/\IsL wz h9q3 1 nv (([]:List Str).map namC):=by
    rcases hcase with⟨-,z,-⟩|⟨e,out,st,z,z1,z2,-⟩
    ·cases z
    ·injection z with z3 z4
     subst z3;subst z4;exact⟨e,z1,z2⟩
   have hovl:=hov.live;have hnvl:=hnv.live;have hnl:=nam_len hnv;have hlist3:=hlist.mono (Sub.trans hs3 hs4);have hol:(lOf x1).length<=1099511627776:=Nat.le_trans (qeM x1).2 (by decide);have hs_h9q3:Sub h h9q3:=Sub.trans zqC hs4;have hr_h9q3:Sub h9q2 h9q3:=Sub.trans zqC hs4;simp+decide only[ev,putD,Slots.put,Slots.get,if_true,if_false,true_and,↓qh,qc,↓QW,QH,QS,List.length_cons,List.length_nil,List.getD_cons_zero,List.getD_cons_succ,List.getD_cons_zero,List.getD_cons_succ,Nat.zero_add,Nat.reduceAdd,Qz];refine Qj qbc (cs:=[.int .i64 0, .int .i64 0, .int .i64 0]) (by rfl) fun k9q8 hk9q8=>?_;have hn_9q8:h9q3 k9q8=none:=by first|assumption|(simp only[AHeap.set_none]at hk9q8;simp only[hk9q8])
   have hf_9q8:h k9q8=none:=Sub.none hs_h9q3 hn_9q8;simp+decide only[ev,putD,Slots.put,Slots.get,if_true,if_false,true_and,↓qd,qb];refine qp (by rfl) (by rfl) zqA QI (by rfl) (by rfl) zqD (Nat.zero_le _) (by rfl) ?_;simp only[AHeap.set_set,AVal.cells];simp+decide only[qa,ev,putD,Slots.get,Slots.keep,if_true,if_false,setAt,List.set_cons_zero,List.set_cons_succ,Nat.zero_add,Nat.reduceAdd];apply hK;clear hK K;refine qK ?_;refine awp_rseq [0,1,67] (by rfl) fun K hK=>?_;simp+decide only[ev,qH,qF,putD,Slots.put,Slots.get,if_true,if_false,true_and,↓qG,qY,qg Xt QI,↓Qp,↓qW,ZJ,evP,List.map_nil,↓qA,ql,qR,cond_false,Yc,ne35,↓qh,qc,↓Xf,agP,Qs,qL,qI,Qf,implies_true,decide_true,Bool.not_false,Bool.not_true,Qv,Bool.and_true,↓qbZ,QD,↓Xb,qB,qo,qag,↓QT,Qu,Qh,Xp,QP,qf,List.getD_cons_zero,List.getD_cons_succ,Nat.zero_add,Nat.reduceAdd,qi,allLive,Bool.and_true,hnl,List.length_nil]
   (refine Yv (by rfl) ?_;refine qN (V:= .int .i64 0) (by rfl) (by rfl) (c_equal04 wz _ ov (QA 5 tb) (lOf x1) (hov.mono (Sub.set hn_9q8)) (hlist3.mono (Sub.set hn_9q8)) hol) ?_)
   simp+decide only[qa,ev,qH,qF,putD,Slots.put,Slots.get,Slots.keep,if_true,if_false,true_and,qL,Qf,↓Xb,ql,agP,Qs,qI,implies_true,decide_true,Bool.not_false,Bool.not_true,Qv,Bool.and_true,qB,cond_false,qo,qag,↓QT,Qu,Qh,Xp,Bool.and_true];apply hK;clear hK K;refine qJ (b:=_) rfl (fun hb3=>?_) (fun hb3=>?_)
   ·exact absurd hb3 (by simp)
   ·try simp only at hb3
    refine qP ?_;change Awp _ _ _ _ _ _ _;refine Awp.forget (h':=h) zqB ?_;refine Awp.keep [0,1] ?_;exact l_None12 wz hm h v w x m hx hxl hms hml hm63
end Go.Proofs.YtlhhaagmakhilaaGreatDoor
namespace Go.Proofs.YtlhhaagmakhilaaGreatDoor
open Go.AM
open Go.ChangeShapes Go.WideShapes Go.ChangeAt Go.RowKit
set_option maxRecDepth 100000
section
variable {H:Type} {enc:TypeId×Value->H} {W:World} {base:Nat} {v:Value} {x:DataW H×List MemPlace}
end
theorem returns_and_shaped{H:Type}{enc:TypeId×Value->H}{a:Assume}{C:Checked}{os:Os}{f:FuncId}{fn:Func}{s:ChangeSpec}{conds:List PathCond}{apart fresh handsOn again:Bool}{X:World->Array Value->Prop}
 (hX:∀(w w':World) (args:Array Value),w.heap=w'.heap->X w args->X w' args)
 (own:ownKnob C.prog.godebug=none) (started:os.Started) (noInit:C.prog.inits.idxOf? f=none) (hfn:C.prog.funcs[f]?=some fn)
 (witness:∃(w:World) (tape:Tape) (i:Input),w.os=os/\(w.forCall tape i).Shaped C.prog/\i.vars=[]/\Input.okWide C.prog (w.forCall tape i) .any w.heap.size f i/\
   ((s.pre enc C.prog fn conds apart (w.forCall tape i).memory i.args/\X (w.forCall tape i).memory i.args)/\sizedMet enc C.prog fn (OpenSpec.ofChange s) apart (w.forCall tape i).memory i.args)/\a.holds C.prog (lone (Frame.enter C.prog f i.args .normal) [] (w.forCall tape i)))
 (contract:∀(W:World) (base:Nat) (args:Array Value) (ds gs:List (DataW H)) (before:List MemPlace),W.ShapedOpen C.prog->
   (∀(j:Nat) t v,fn.params[j]?=some t->args[j]?=some v->Value.okWide C.prog W .any base t v)->
   DataW.Whole enc C.prog fn.params.toList s.vars apart W args.toList ds gs before->
   conds.all (PathCond.test C.prog ⟨fn.params.toList,ds,s.plain.varTypes C.prog,gs⟩)=true->
   (DataW.weightsEach C.prog (fn.params.toList++s.plain.varTypes C.prog) (ds++gs)).all (· <=reachBytes)=true->X W args->
   a.holds C.prog (lone (Frame.enter C.prog f args .normal) [] W)->
   Calls C.prog f args W fun e W'=>∃v,e= .returned v/\s.post enc C.prog fn apart fresh handsOn again W args v W'):
 ReturnsInHanded a C os f .any (fun w args=>(s.pre enc C.prog fn conds apart w args/\X w args)/\sizedMet enc C.prog fn (OpenSpec.ofChange s) apart w args) (s.post enc C.prog fn apart fresh handsOn again):=by
 refine returnsInHanded_of_calls own started noInit witness ?_;intro w tape i _ hsh _ hok hpre hholds;obtain⟨_,_,_,fn',hfn',_,_,_,_,hval⟩:=hok;have e:fn'=fn:=Option.some.inj (hfn'.symm.trans hfn);subst e;obtain⟨⟨⟨ds,gs,before,hw,hc⟩,hx⟩,hz⟩:=hpre;have hw':=DataW.Whole.of_heap (w':=w.forCall tape i) (by rfl) hw;refine(contract (w.forCall tape i) w.heap.size i.args ds gs before hsh hval hw' hc (hz.weights hw) (hX _ _ _ (by rfl) hx) hholds).mono fun e W' ⟨v,he,hp⟩=>?_;subst he;exact ChangeSpec.post_blind hp
end Go.Proofs.YtlhhaagmakhilaaGreatDoor
namespace Go.Proofs.YtlhhaagmakhilaaGreatDoor
open Go.AM
open Go.ChangeShapes Go.WideShapes Go.ChangeAt Go.RowKit
set_option maxRecDepth 100000
theorem maxl_of{W:World}(h:W.ShapedOpen Tryz.prog):MaxL W:=
 cell_of_shapedOpen_int (t:=3) (zero:= #[.int .i64 0]) h (of_decide_eq_true (by kernel_rfl)) (by kernel_rfl) rfl (by kernel_rfl) (by kernel_rfl) Tryz.underlying3
end Go.Proofs.YtlhhaagmakhilaaGreatDoor
namespace Go.AM
open Go.ChangeShapes Go.WideShapes Go.ChangeAt Go.RowKit
section
variable {P:Program} {H:Type} {enc:TypeId×Value->H} {W:World} {α:Type}
structure RowOf(P:Program)(enc:TypeId×Value->H)(W:World)(e:TypeId)(es:Nat)(el:α->List Value)(inv:α->Prop):Prop where
 size:P.cellsOf e=es
 pos:0<es
 len:∀x,(el x).length=es
 live:∀x,inv x->allLive ((el x).map qF)=true
 cell:∀(n:Nat) (cs:List Value) (y:DataW H×List MemPlace),DataW.trod enc P W 0 (fun _=>true) true n e cs=some y->∃x,cs=el x/\inv x
theorem rows_list{el:α->List Value}{inv:α->Prop}{es:Nat}{a:Addr}:∀(len:Nat),(∀i,i<len->∃x:α,inv x/\∀j,j<es->W.cell? (a.add (i*es+j))=(el x)[j]?)->
 ∃l:List α,l.length=len/\(∀x∈l,inv x)/\∀i (hi:i<l.length),∀j,j<es->W.cell? (a.add (i*es+j))=(el l[i])[j]?
 |0,_=>⟨[],rfl,by simp,fun i hi=>by simp at hi⟩
 |n+1,h=>by
  obtain⟨l,h1,h2,h3⟩:=rows_list n fun i hi=>h i (by omega);obtain⟨x,hx,hc⟩:=h n (by omega);refine⟨l++[x],by simp[h1],?_,fun i hi j hj=>?_⟩
  ·intro y hy
   rcases List.mem_append.1 hy with hy|hy
   ·exact h2 y hy
   ·rw[List.mem_singleton.1 hy];exact hx
  ·by_cases hin:i<l.length
   ·rw[List.getElem_append_left hin]
    exact h3 i hin j hj
   ·have e:i=n:=by simp at hi;omega
    subst e;have:(l++[x])[i]=x:=by rw[List.getElem_append_right (by omega)];simp
    rw[this];exact hc j hj
theorem isL_rows{el:α->List Value}{inv:α->Prop}{es:Nat}(hes:0<es)(hlen:∀x,(el x).length=es)(hlive:∀x,inv x->allLive ((el x).map qF)=true){b o cap:Nat}{l:List α}(hi:∀x∈l,inv x)(hcap:l.length<=cap)
 (hc:∀i (hi:i<l.length),∀j,j<es->W.cell? ((⟨b,o,none⟩:Addr).add (i*es+j))=(el l[i])[j]?):
 IsL W (fun _=>none) es (.slice (.base b) o l.length (.exact cap)) (l.map fun x=>(el x).map qF):=by
 have hw:∀x∈l.map (fun x=>(el x).map qF),x.length=es:=by
  intro x hx;obtain⟨y,_,rfl⟩:=List.mem_map.1 hx;rw[List.length_map,hlen]
 refine .mk _ _ _ _ _ (by rw[List.length_map]) hw ?_ (ZW.2 fun x hx=>by obtain⟨y,hy,rfl⟩:=List.mem_map.1 hx;exact hlive y (hi y hy)) hcap;apply List.ext_getElem?;intro q;by_cases hq:q<l.length*es
 ·rw[UZ _ _ _ _ _ _ hq]
  have hm:q%es<es:=Nat.mod_lt _ hes;have hd:q / es<l.length:=Nat.div_lt_of_lt_mul (by rw[Nat.mul_comm];exact hq);have hqe:q=q / es*es+q%es:=by rw[Nat.mul_comm];exact(Nat.div_add_mod q es).symm
  have hcell:=hc (q / es) hd (q%es) hm;rw[<-hqe]at hcell;have ea:(⟨b,o,none⟩:Addr).add q=⟨b,o+q,none⟩:=by by_cases e:q=0<;>simp[Addr.add,e]
  rw[ea,List.getElem?_eq_getElem (by rw[hlen];exact hm)]at hcell;have h2:=qem hw (i:=q / es) (j:=q%es) (by rw[List.length_map];exact hd) hm;rw[<-hqe]at h2;rw[h2,List.getD_eq_getElem?_getD,List.getElem?_map,List.getElem?_eq_getElem hd,Option.map_some,Option.getD_some,List.getElem?_map,List.getElem?_eq_getElem (by rw[hlen];exact hm),Option.map_some];have hlt:b<W.heap.size:=cell_lt hcell;simp only[AM.rd,hlt,if_true,hcell]
 ·rw[List.getElem?_eq_none (by rw[Uu];omega),List.getElem?_eq_none (by rw[Xz hw,List.length_map];omega)]
theorem trod_rows{e t:TypeId}{es:Nat}{el:α->List Value}{inv:α->Prop}(R:RowOf P enc W e es el inv)(ht:P.underlying t=some (.slice e)){n:Nat}{cs:List Value}{y:DataW H×List MemPlace}(h:DataW.trod enc P W 0 (fun _=>true) true n t cs=some y):
 ∃(v:Value) (l:List α),cs=[v]/\IsL W (fun _=>none) es (qF v) (l.map fun x=>(el x).map qF)/\l.length<=9223372036854775807/\∀x∈l,inv x:=by
 rcases DataW.trod_slice ht h with⟨hcs,_⟩|⟨a,len,cap,elems,rest,n',_,hcs,_,_,hlc,hcm,hel,hcell,hspare,_⟩
 ·exact⟨_,[],hcs, .nil,by simp,by simp⟩
 ·have hlen:len<=9223372036854775807:=Nat.le_trans hlc hcm
  have one:∀(m i:Nat) (q:Option (DataW H×List MemPlace)),(W.cells? 0 (a.add (i*P.cellsOf e)) (P.cellsOf e)).bind (DataW.trod enc P W 0 (fun _=>true) true m e)=q->q.isSome=true->∃x:α,inv x/\∀j,j<es->W.cell? (a.add (i*es+j))=(el x)[j]?:=by
   intro m i q hq hs;cases q with
   |none=>cases hs
   |some z=>
    rw[Option.bind_eq_some_iff]at hq;obtain⟨cs',hcs',hy⟩:=hq;obtain⟨x,rfl,hx⟩:=R.cell _ _ _ hy;rw[R.size]at hcs';refine⟨x,hx,fun j hj=>?_⟩;have:=(World.cells?_some hcs').2.2 j hj;rw[<-this];congr 1;obtain⟨ab,ao,asp⟩:=a;by_cases e1:i*es=0<;>by_cases e2:j=0<;>simp[Addr.add,e1,e2,Nat.add_assoc]
  obtain⟨l,l1,l2,l3⟩:=rows_list (W:=W) (el:=el) (inv:=inv) (es:=es) (a:=a) len fun i hi=>one n' i _ (hcell i hi) (by rw[List.getElem?_eq_getElem (by omega)];rfl);have spot:∀(x:α),(∀j,j<es->W.cell? (a.add (0*es+j))=(el x)[j]?)->a.spot=none:=by
   intro x hx;have h0:=hx 0 R.pos;rw[List.getElem?_eq_getElem (by rw[R.len];exact R.pos)]at h0;have:=World.cell?_spot h0
   rwa [Addr.add,if_pos (by rw[Nat.zero_mul])]at this
  refine⟨.slice (some a) len cap,l,hcs,?_,by omega,l2⟩;subst l1;obtain⟨ab,ao,asp⟩:=a;by_cases hc0:cap=0
  ·have hl0:l=[]:=List.eq_nil_of_length_eq_zero (by omega)
   subst hl0;subst hc0;cases asp with
   |none=>exact isL_rows (l:=([]:List α)) (inv:=inv) R.pos R.len R.live (fun x hx=>by cases hx) (Nat.le_refl _) fun i hi=>absurd hi (Nat.not_lt_zero i)
   |some s=>exact isL_rows (l:=([]:List α)) (inv:=inv) R.pos R.len R.live (fun x hx=>by cases hx) (Nat.le_refl _) fun i hi=>absurd hi (Nat.not_lt_zero i)
  ·have hs:asp=none:=by
    by_cases hl0:l.length=0
    ·obtain⟨r1,r2⟩:=hspare rfl
     obtain⟨x,_,hx⟩:=one n' l.length _ (r2 0 (by omega)) (by rw[List.getElem?_eq_getElem (by omega)];rfl);rw[hl0]at hx;exact spot x hx
    ·exact spot _ (l3 0 (by omega))
   subst hs;exact isL_rows (inv:=inv) R.pos R.len R.live l2 hlc l3
end
end Go.AM
namespace Go.Proofs.YtlhhaagmakhilaaGreatDoor
open Go.AM
open Go.Cop
open Go.ChangeShapes Go.WideShapes Go.ChangeAt Go.RowKit
set_option maxRecDepth 100000
section
variable {H:Type} {enc:TypeId×Value->H} {W:World} {base:Nat} {v:Value} {x:DataW H×List MemPlace}
def kinV(b:UInt8):List Value:=[.int .u8 b.toNat]
theorem kinV_abs(l:List UInt8):(l.map fun e=>(kinV e).map qF)=l.map Uf:=rfl
theorem kin_row:RowOf Tryz.prog enc W 5 1 kinV (fun _=>True):=by
 refine⟨by kernel_rfl,by decide,fun _=>rfl,fun _ _=>rfl,fun n cs y h=>?_⟩;obtain⟨a,e0,_,w0⟩:=DataW.trod_int Tryz.underlying5 h;subst e0;obtain⟨a0,a1⟩:=wf_u8 w0;refine⟨UInt8.ofNat a.toNat,?_,trivial⟩;unfold kinV;have:((UInt8.ofNat a.toNat).toNat:Int)=a:=by
  rw[UInt8.toNat_ofNat',Nat.mod_eq_of_lt (by omega)];omega
 rw[this]
theorem list_cell{n:Nat}{cs:List Value}{y:DataW H×List MemPlace}(h:DataW.trod enc Tryz.prog W 0 (fun _=>true) true n 23 cs=some y):
 ∃(v:Value) (l:List UInt8),cs=[v]/\IsL W (fun _=>none) 1 (qF v) (l.map Uf)/\l.length<=9223372036854775807:=by
 obtain⟨v',l,hcs,hL,hl,_⟩:=trod_rows kin_row Tryz.underlying23 h;rw[kinV_abs]at hL;exact⟨v',l,hcs,hL,hl⟩
def LisV(W:World)(q:List UInt8×Value):Prop:=IsL W (fun _=>none) 1 (qF q.2) (q.1.map Uf)/\q.1.length<=9223372036854775807
theorem list_row:RowOf Tryz.prog enc W 23 1 (fun q:List UInt8×Value=>[q.2]) (LisV W):=by
 refine⟨by kernel_rfl,by decide,fun _=>rfl,fun q hq=>?_,fun n cs y h=>?_⟩
 ·simp only[List.map_cons,List.map_nil,AM.allLive,hq.1.live,Bool.and_true]
 ·obtain⟨v',l,hcs,hL,hl⟩:=list_cell h
  exact⟨(l,v'),hcs,hL,hl⟩
theorem arg_L(h:∃fuel,DataW.trod enc Tryz.prog W 0 (fun _=>true) true fuel 23 v.cells.toList=some x)(hv:Value.okWide Tryz.prog W .any base 23 v):
 ∃(l:List UInt8) (y:AVal),VR (fun _=>none) y v/\IsL W (fun _=>none) 1 y (l.map Uf)/\l.length<=9223372036854775807:=by
 obtain⟨fuel,h2⟩:=h;obtain⟨a0,len0,cap0,rfl⟩:=okWide_slice Tryz.underlying23 hv;have h2':DataW.trod enc Tryz.prog W 0 (fun _=>true) true fuel 23 [.slice a0 len0 cap0]=some x:=h2;obtain⟨v',l,hcs,hL,hl⟩:=list_cell h2';simp only[List.cons.injEq,and_true]at hcs;subst hcs;exact⟨l,_,VR_absS _ _,hL,hl⟩
theorem arg_Ls(h:∃fuel,DataW.trod enc Tryz.prog W 0 (fun _=>true) true fuel 24 v.cells.toList=some x)(hv:Value.okWide Tryz.prog W .any base 24 v):
 ∃(m:List (List UInt8)) (y:AVal),VR (fun _=>none) y v/\IsLs W (fun _=>none) y m/\m.length<=9223372036854775807/\∀z∈m,z.length<=9223372036854775807:=by
 obtain⟨fuel,h2⟩:=h;obtain⟨a0,len0,cap0,rfl⟩:=okWide_slice Tryz.underlying24 hv;have h2':DataW.trod enc Tryz.prog W 0 (fun _=>true) true fuel 24 [.slice a0 len0 cap0]=some x:=h2;obtain⟨v',l,hcs,hL,hl,hi⟩:=trod_rows list_row Tryz.underlying24 h2';simp only[List.cons.injEq,and_true]at hcs;subst hcs;refine⟨l.map (·.1),_,VR_absS _ _,⟨l.map fun q=>(q.1,qF q.2),?_,?_,?_⟩,by rw[List.length_map];exact hl,?_⟩
 ·rw[List.map_map];rfl
 ·rw[List.map_map];exact hL
 ·intro q hq
  obtain⟨z,hz,rfl⟩:=List.mem_map.1 hq;exact(hi z hz).1
 ·intro z hz
  obtain⟨q,hq,rfl⟩:=List.mem_map.1 hz;exact(hi q hq).2
end
end Go.Proofs.YtlhhaagmakhilaaGreatDoor
