/-
  Texts of this proof, joined: CoD, TkF, TkG, TkH, TkI, TkJ, LbA, LbB, TkK, TkL, CoE, TkM, TkN, CoF, CoG, CoH, CoI.
  Conditions: none.
-/
import Derived.Test.YtlhhaagmakhilaaGreatDoorVb
import Derived.Lib.SlicesS
import Derived.Lib.IndexLaws
import Derived.Shelf.Strings.SlTrimAscii
set_option linter.unusedSimpArgs false
set_option linter.unnecessarySimpa false
set_option linter.unusedVariables false
open Nat renaming le_of_ble_eq_true->VL,le_trans->V5,le_refl->KJ,zero_add->Jr,zero_le->Js,add_zero->K6
open Go.AM.Slots renaming put->VM,keep->VN,get->VO
open Go.AM.Sub renaming refl->Vl,set->Vg,set_both->V9,none->Bg,bldH->Bz,trans_set->V3,buf->BH
open List renaming length_reverse->V4,getD_cons_zero->VX,getD_cons_succ->Km,set_cons_zero->VW,set_cons_succ->Ki,map_cons->Kc,map_nil->Vj,take_succ_cons->Kh,take_zero->V6,drop_succ_cons->VB,drop_zero->KP,map_append->Ba,length_append->Jb,append_nil->Be,map_eq_nil_iff->VU,length_map->Jo,eq_nil_of_length_eq_zero->Ke,getD->Kn,take_of_length_le->Jq,mem_map->JG,contains_iff_mem->JW,getElem?_eq_none->Kq,getElem?_eq_getElem->Jz,length_cons->KX,length_nil->J8,length_take->K4,mem_cons->KW,not_mem_nil->Bj,dropWhile_cons->Bl,all_cons->KD,all_reverse->Bn,length_drop->K5,drop_eq_getElem_cons->J4,take_append_drop->Bo,find?_append->Bp,find?_cons->Br,take_add_one->VJ,isPrefixOf_iff_prefix->Vv,mem_append->JI,mem_singleton->BD,set_append_right->VG
open Bool renaming and_eq_true->Kw,or_eq_true->JV,not_eq_true'->Ji,and_eq_false_iff->VP,or_eq_false_iff->VQ,not_eq_false'->VS,and_true->JS,eq_iff_iff->Kz,true_and->Vf
open Go.AM.AVal renaming cells->VV,okIn->Bb
open Go.AM.AHeap renaming set_same->Vd,set_ne->Vb,set_set->Vh,set_none->V7,set->Bd,ne_some->Bh,set_comm->Vi
open Go.AM.IsL renaming own->V8,buf->BF
open Option renaming isSome_some->JJ,none_or->Bq,map_eq_some_iff->Kb,map_some->KH,getD_some->VK
open Go.Proofs.Tryz renaming slices_Contains_string_empty->Bf
open Int renaming toNat_natCast->Vq,add_sub_assoc->Bi
open Go.AM.Bld renaming head->Bt,slice_live->Bu,slice_nil->Bv,bytes_nil->Bw,slice_some->BA,bytes_some->BB,slice_cells->BC
open Go.AM.Awp renaming forget->BG
namespace Go.Proofs.YtlhhaagmakhilaaGreatDoor
open Go.AM
open Go.Proofs
open Go.Col
set_option maxRecDepth 100000
def qiE(r:RowC):AVal:= .agg [.int .i64 r.line, .bool r.more, .str r.text, .int .i64 r.col]
theorem qrk(s:Str):quotes s<=s.length:=List.countP_le_length
theorem c_open(wz:World)(h:AHeap)(s:Str)(hl:s.length<=4611686018427387904):ACall Tryz.prog wz 101 [.str s] h (fun v h'=>v= .bool (qch s)/\h'=h):=by
 have hq:=qrk s;refine qP (n:=7) (rs:=[.tmp 2]) Tryz.func101 rfl rfl rfl rfl (VL rfl) ?_;simp only[Qd];refine awp_rseq [0] (by rfl) fun K hK=>?_;simp+decide only[qa,ev,qH,qF,putD,VM,VN,Ka,true_and,↓qd,qb];apply hK;clear hK K;refine awp_rseq [2] (by rfl) fun K hK=>?_;simp+decide only[ev,putD,VM,VO,Ka,true_and,↓qh,qc];refine qM (V:= .int .i64 (quotes s)) (by rfl) (by rfl) (c_count wz _ s 34) ?_;simp+decide only[qa,ev,qH,qF,putD,VM,VO,VN,Ka,true_and,↓qA,ql,qC,cond_false,qp,qiR,XH,↓qd,qb];apply hK;clear hK K;refine qN ?_;refine qW _ (Vl _) (qR (Qa)) ?_;simp+decide only[VO,if_true,and_true,Ql];unfold qch;congr 1;rw[Int.tmod_eq_emod_of_nonneg (by omega)];apply decide_eq_decide.2;omega
theorem qgw(p:UInt8->Bool)(s:Str):(s.dropWhile p).length<=s.length:=(List.dropWhile_sublist p).length_le
theorem qmz(s:Str):(qfM s).length<=s.length:=by
 unfold qfM;rw[V4];exact V5 (qgw _ _) (by rw[V4];exact KJ _)
theorem c_add(wz:World)(H:AHeap)(kx kc:Nat)(D:List AVal)(m:Nat)(mb:Option Buf)(c:CardC)(xl xc:Int)(xo:Bool)(line col:Int)(t:Str)
 (hkx:H kx=some ⟨[.slice (.own kc) 0 (m+1) (.grow 3), .int .i64 xl, .int .i64 xc, .bool xo],0⟩) (hkc:H kc=some ⟨D++[.bool c.left, .str c.text,QH 3 mb],0⟩) (hD:D.length=m*3)
 (hok:bufOk H 3 mb) (hmb:Ws mb=(c.marks.map Uk).flatten) (hl:c.text.length+t.length<=1099511627776) (hml:c.marks.length<=1099511627776) (hmm:m<=1099511627776):
 ACall Tryz.prog wz 80 [.ptr (.own kx) 0, .int .i64 line, .int .i64 col, .str t] (Qv H mb)
  (fun v h'=>v= .tuple []/\∃mb',h'=Qv ((H.set kx ⟨[.slice (.own kc) 0 (m+1) (.grow 3), .int .i64 line, .int .i64 col, .bool (qch (c.text++t))],0⟩).set kc ⟨D++[.bool c.left, .str (qfb c line col t).text,QH 3 mb'],0⟩) mb'/\
    bufOk ((H.set kx ⟨[.slice (.own kc) 0 (m+1) (.grow 3), .int .i64 line, .int .i64 col, .bool (qch (c.text++t))],0⟩).set kc ⟨D++[.bool c.left, .str (qfb c line col t).text,QH 3 mb'],0⟩) 3 mb'/\Ws mb'=((qfb c line col t).marks.map Uk).flatten):=by
 have hne:kx≠kc:=fun e=>by
  subst e;rw[hkx]at hkc;have:=congrArg (fun o=>(o.map fun b=>b.cells.length).getD 0) hkc;simp[hD]at this;omega
 have rx:=qfc wz hok hkx;have rc:=qfc wz hok hkc;have hidx:((((m+1:Nat):Int))-1).toNat=m:=by omega
 have hlv:=QY 3 mb;refine qP (n:=72) (rs:=[]) Tryz.func80 rfl rfl rfl rfl (VL rfl) ?_;simp only[Qd];refine Zj [0,1,2,3,8] mixed (by kernel_rfl) (by rfl) (by rfl) fun K hK=>?_;simp+decide only[ev,qH,qF,putD,VM,VO,Ka,true_and,↓qh,qc,↓Qj,qO,Qm,↓qD,qm,qbj,↓qG,Qb,qz qhU,↓Xt,QD,ZK Tryz.underlying101,↓qA,ql,qC,cond_false,qp,qad,VX,Jr,Nat.reduceAdd,qaf,rx];try simp(disch:=omega)only[wrap_i64]
 try simp+decide only[qa,ev,putD,VM,VO,VN,Ka,true_and,↓QN,Qb,Qh Tryz.underlying101 qcs,↓qd,qb,Jr,hidx]
 repeat (with_reducible refine And.intro ?_ ?_;· first|trivial|omega|(intro hg;simp only[Kw,JV,Ji,VP,VQ,VS,decide_eq_true_eq,decide_eq_false_iff_not,XT]at hg;omega))
 apply hK;clear hK K;refine awp_rseq [0,1,2,3,8] (by rfl) fun K hK=>?_;simp+decide only[ev,putD,VM,VO,Ka,true_and,↓qh,qc,↓Qj,qO,Qm,↓qD,qm,We,↓qG,Qb,qz ag9,↓qA,ql,qZ,cond_false,Zl,qfs,VX,Km,qE,rc,qgk hD];repeat (with_reducible refine And.intro ?_ ?_;· first|trivial|omega|(intro hg;simp only[Kw,JV,Ji,VP,VQ,VS,decide_eq_true_eq,decide_eq_false_iff_not,XT]at hg;omega))
 refine qM (V:= .bool (qch (c.text++t))) (by rfl) (by rfl) (c_open wz _ _ (by simp;omega)) ?_;simp+decide only[ev,putD,VM,VO,Ka,true_and,↓Qj,qO,Qm,↓qD,qm,qdl,Jr];refine qo (v:= .bool (qch (c.text++t))) (by rfl) (by rfl) (ZU hok hkx) sz4 (by rfl) (by rfl) (by simp) (Js _) (by rfl) ?_;simp only[setAt,VV,VW,Ki];rw[Wp hok hkx];simp+decide only[qa,putD,VN,Ka];have hok1:=ZT hok hkx ⟨[.slice (.own kc) 0 (m+1) (.grow 3), .int .i64 xl, .int .i64 xc, .bool (qch (c.text++t))],0⟩;have hkx1:=Vd H kx ⟨[.slice (.own kc) 0 (m+1) (.grow 3), .int .i64 xl, .int .i64 xc, .bool (qch (c.text++t))],0⟩;have hkc1:=(Vb H ⟨[.slice (.own kc) 0 (m+1) (.grow 3), .int .i64 xl, .int .i64 xc, .bool (qch (c.text++t))],0⟩ hne.symm).trans hkc;have rx1:=qfc wz hok1 hkx1;apply hK;clear hK K;refine qL ?_;refine awp_rseq [0,1,2,3,8,34] (by rfl) fun K hK=>?_;simp+decide only[qa,ev,putD,VM,VO,VN,Ka,true_and,↓qh,qc,↓Qj,qO,Qm,↓qD,qm,qdl,↓qG,Qb,qz ag4,↓Yz,XP,Yk,VX,Km,Jr,qB,rx1];apply hK;clear hK K;refine Ub [0,1,2,3,8] (fun t':Str=>[(0, .ptr (.own kx) 0),(1, .int .i64 line),(2, .int .i64 col),(3, .str t'),(8, .ptr (.own kc) (m*3))]) (fun t':Str=>Qv (H.set kx ⟨[.slice (.own kc) 0 (m+1) (.grow 3), .int .i64 xl, .int .i64 xc, .bool (qch (c.text++t))],0⟩) mb) (fun t':Str=>t'=if qch (c.text++t)=true then t else qfM t) ?_ ?_
 ·refine qK (b:=_) rfl (fun hb1=>?_) (fun hb1=>?_)
  ·try simp only[Ji]at hb1
   refine XL [0,1,2,3,8] (by rfl) ?_;simp+decide only[ev,putD,VM,VO,Ka,true_and,↓qh,qc];refine qM (V:= .str (qfM t)) (by rfl) (by rfl) (c_trimR wz _ t (by omega)) ?_;simp+decide only[qa,ev,putD,VM,VO,VN,Ka,true_and,↓qd,qb];try simp only[Qi]
   first|exact⟨qfM t,rfl,Vl _,by rw[hb1];rfl⟩|exact⟨t,rfl,Vl _,by rw[hb1];rfl⟩
  ·try simp only[VS]at hb1
   refine qV ?_;try simp only[Qi]
   first|exact⟨qfM t,rfl,Vl _,by rw[hb1];rfl⟩|exact⟨t,rfl,Vl _,by rw[hb1];rfl⟩
 ·intro t' ht'
  have htl:t'.length<=t.length:=by
   rw[ht'];have:=qmz t;split<;>omega
  have ha:qfb c line col t=⟨c.left,c.text++t',if t'=[]then c.marks else c.marks++[⟨c.text.length,line,col⟩]⟩:=by rw[ht'];rfl
  refine awp_rseq [0,3,8] (by rfl) fun K hK=>?_;simp+decide only[ev,qH,qF,putD,VM,VO,Ka,true_and,↓qh,qc,↓Qr,↓qY,qcN,evP,Kc,Vj,↓Qj,qO,Qm,↓qD,qm,qgs,Jr];refine qo (v:= .agg [.int .i64 line, .int .i64 col]) (by rfl) (by rfl) (ZU hok1 hkx1) qbc (by rfl) (by rfl) (by simp[]) (Js _) (by rfl) ?_;simp only[setAt,VV,VW,Ki,Nat.reduceAdd];rw[Wp hok1 hkx1,Vh];simp+decide only[qa,putD,VN,Ka];obtain⟨H2,hH2⟩:∃H2,H2=H.set kx ⟨[.slice (.own kc) 0 (m+1) (.grow 3), .int .i64 line, .int .i64 col, .bool (qch (c.text++t))],0⟩:=⟨_,rfl⟩
  have hok2:bufOk H2 3 mb:=by rw[hH2];exact ZT hok hkx _
  have hkx2:H2 kx=some ⟨[.slice (.own kc) 0 (m+1) (.grow 3), .int .i64 line, .int .i64 col, .bool (qch (c.text++t))],0⟩:=by rw[hH2];exact Vd _ _ _
  have hkc2:H2 kc=some ⟨D++[.bool c.left, .str c.text,QH 3 mb],0⟩:=by rw[hH2];exact(Vb _ _ hne.symm).trans hkc
  rw[<-hH2];have rx2:=qfc wz hok2 hkx2;have rc2:=qfc wz hok2 hkc2;apply hK;clear hK K;refine qL ?_;refine awp_rseq [0,3,8,44] (by rfl) fun K hK=>?_;simp+decide only[qa,ev,qH,qF,putD,VM,VO,VN,Ka,true_and,↓qh,qc,↓qA,ql,Wn,cond_false,Zl,qfr];apply hK;clear hK K;refine qK (b:=_) rfl (fun hb2=>?_) (fun hb2=>?_)
  ·try simp only[decide_eq_false_iff_not,Ji]at hb2
   refine qds 16 [0] mixed (by kernel_rfl) (by rfl) ?_;simp only[Kh,V6,VB,KP];simp+decide only[ev,qH,qF,putD,VM,VO,Ka,true_and,↓XD,qc,↓WI,qO,Qm,↓ZG,qm,qbi,↓Zn,Xz,qz qjN,We,qz ag9,↓fp_len,QD,YW Tryz.underlying9,qgs,qg qfF qbc,↓Un,↓qY,qpc,evP,Kc,Vj,qf,VX,Km,Jr,Nat.reduceAdd,qi,qE,allLive,JS,rx2,rc2,hlv,qgk hD];refine qcG (by rfl) ?_;refine Qn (cs:=[.int .i64 c.text.length, .int .i64 line, .int .i64 col]) (by kernel_rfl) fun k6q15 hk6q15=>?_;try have hf_6q15:((Qv H mb)) k6q15=none:=by first|assumption|(simp only[V7]at hk6q15;simp only[hk6q15])
   rw[qa];try simp only[Yl]
   refine Xw (es:=3) (zs:=c.marks.map Uk) (xs:=[[.int .i64 c.text.length, .int .i64 line, .int .i64 col]]) (hZ:=H2) (b:=mb) (by rfl) (by rfl) Tryz.underlying124 Tryz.underlying124 (fun k e=>by cases e) qfO by127 qsu (by rfl) (by decide) (by rfl) hok2 hmb (by simp[Uk]) (Vg hk6q15) (by rfl) (V8 (Vd _ _ _) (by simp) (by rfl) (by rfl) (.exact 1) (KJ _)) (by rfl) (by simp;omega) (by simp;omega) fun mb' h6 o1 o2 o3=>?_;have hlv':=QY 3 mb';simp+decide only[ev,putD,VM,VO,Ka,true_and,↓Qj,qO,Qm,↓qD,qm,qbi];refine qo (v:=QH 3 mb') (by rfl) (by rfl) (o3 _ _ (ZU o1 hkc2)) sz124 hlv' (by cases mb'<;>rfl) (by cases mb'<;>simp[hD,QH]) (Js _) (by cases mb'<;>rfl) ?_;simp only[];rw[show(QH 3 mb').cells=[QH 3 mb'] by cases mb'<;>rfl,qct hD];simp only[setAt,VW,Ki];simp+decide only[qa,putD];change Awp _ _ _ _ _ _ _;refine XL [] (by rfl) ?_;simp+decide only[ev,putD,VM,VO,Ka,true_and,↓qh,qc,↓Qj,qO,Qm,↓qD,qm,We,↓qG,Qb,qz ag9,↓qA,ql,qZ,cond_false,Zl,qfs,QP,VX,Km,qE,qgk hD];repeat (with_reducible refine And.intro ?_ ?_;· first|trivial|omega|(intro hg;simp only[Kw,JV,Ji,VP,VQ,VS,decide_eq_true_eq,decide_eq_false_iff_not,XT]at hg;omega))
   skip;first
   |refine qo (v:= .str (c.text++t')) (by rfl) (by rfl) (Vd _ _ _) sz9 (by rfl) (by rfl) (by simp[hD]) (Js _) (by rfl) ?_
   |refine qo (v:= .str (c.text++t')) (by rfl) (by rfl) (ZU hok2 hkc2) sz9 (by rfl) (by rfl) (by simp[VV,hD]) (Js _) (by rfl) ?_
   simp only[VV];rw[qct hD];simp only[setAt,VW,Ki];simp+decide only[qa,putD,VN,if_false];refine qeC (Qa) ?_;simp+decide only[true_and,qeD];refine⟨Qv (H2.set kc ⟨D++[.bool c.left, .str (c.text++t'),QH 3 mb'],0⟩) mb',?_,mb',?_,?_,?_⟩
   ·rw[Vh,<-Wp o1 hkc2]
    exact V9 o3 _ _
   ·rw[hH2,ha]
   ·rw[ha,<-hH2]
    exact ZT o1 hkc2 _
   ·rw[ha,o2,if_neg hb2,Ba]
    rfl
  ·try simp only[decide_eq_true_eq,VS]at hb2
   refine qV ?_;change Awp _ _ _ _ _ _ _;refine XL [] (by rfl) ?_;simp+decide only[ev,putD,VM,VO,Ka,true_and,↓qh,qc,↓Qj,qO,Qm,↓qD,qm,We,↓qG,Qb,qz ag9,↓qA,ql,qZ,cond_false,Zl,qfs,VX,Km,qE,rc2,qgk hD];repeat (with_reducible refine And.intro ?_ ?_;· first|trivial|omega|(intro hg;simp only[Kw,JV,Ji,VP,VQ,VS,decide_eq_true_eq,decide_eq_false_iff_not,XT]at hg;omega))
   skip;first
   |refine qo (v:= .str (c.text++t')) (by rfl) (by rfl) (Vd _ _ _) sz9 (by rfl) (by rfl) (by simp[VV,hD]) (Js _) (by rfl) ?_
   |refine qo (v:= .str (c.text++t')) (by rfl) (by rfl) (ZU hok2 hkc2) sz9 (by rfl) (by rfl) (by simp[hD]) (Js _) (by rfl) ?_
   simp only[VV];rw[qct hD];simp only[setAt,VW,Ki];simp+decide only[qa,putD,VN,if_false];refine qeC (Qa) ?_;simp+decide only[true_and,qeD];refine⟨Qv (H2.set kc ⟨D++[.bool c.left, .str (c.text++t'),QH 3 mb],0⟩) mb,?_,mb,?_,?_,?_⟩
   ·rw[<-Wp hok2 hkc2]
    exact Vl _
   ·rw[hH2,ha]
   ·rw[ha,<-hH2]
    exact ZT hok2 hkc2 _
   ·rw[ha,hmb,if_pos hb2]
theorem Zg(b c:UInt8):((b.toNat:Int)=(c.toNat:Int))=(b=c):=by
 apply propext;constructor
 ·intro h
  exact UInt8.toNat_inj.1 (by omega)
 ·rintro rfl;rfl
theorem padE_len{s:Str}(h:s.length<=80):72<=(qbC s).length/\(qbC s).length<=80:=by
 unfold qbC sp;rw[Jb,List.length_replicate];omega
theorem qmA(s:Str):(qiu s).length<=s.length:=qgw _ _
theorem qjI(s:Str):(qcb s=none/\qpd s= -1)\/∃i,qcb s=some i/\qpd s=(i:Int)/\i<s.length:=by
 unfold qpd;cases h:qcb s with
 |none=>exact .inl ⟨rfl,rfl⟩
 |some i=>exact .inr ⟨i,rfl,rfl,(List.findIdx?_eq_some_iff_findIdx_eq.1 h).1⟩
theorem qiZ{s:Str}{line:Int}{dbg:Bool}(h80:¬80<s.length)(hb:qcb s=none):Um s line dbg=
 if (qbC s).getD 6 0=42\/(qbC s).getD 6 0=47 then(qkc s line,false,okF)
 else if (qbC s).getD 6 0=68\/(qbC s).getD 6 0=100 then(qkc s line,dbg && !decide ((qkc s line).text=[]),okF)
 else if (qbC s).getD 6 0=32\/(qbC s).getD 6 0=45 then(qkc s line,!decide ((qkc s line).text=[]),okF)
 else(qkc s line,false,⟨4,line,7⟩):=by
 unfold Um;rw[if_neg h80,hb]
theorem c_read(wz:World)(h:AHeap)(s:Str)(line:Int)(dbg:Bool)(hl:s.length<=9223372036854775807)(l0:0<=line)(l1:line<=1099511627776):ACall Tryz.prog wz 61 [.str s, .int .i64 line, .bool dbg] h (fun v h'=>v= .tuple [qiE (Um s line dbg).1, .bool (Um s line dbg).2.1,QA (Um s line dbg).2.2]/\h'=h):=by
 have w6:(6:Int).toNat=6:=rfl;have w7:(7:Int).toNat=7:=rfl;have w72:(72:Int).toNat=72:=rfl;have w8:(8:Int)+((65:Nat):Int)=73:=rfl;refine qP (n:=79) (rs:=[.cell 6 120, .tmp 7, .cell 8 35]) Tryz.func61 rfl rfl rfl rfl (VL rfl) ?_;simp only[Qd];refine awp_rseq [0,1,2,6,8] (by rfl) fun K hK=>?_;refine Qk qsv (cs:=[.int .i64 0, .bool false, .str [], .int .i64 0]) (by rfl) fun k0q0 hk0q0=>?_;try have hf_0q0:h k0q0=none:=by first|assumption|(simp only[V7]at hk0q0;simp only[hk0q0])
 simp+decide only[ev,qH,qF,putD,VM,if_false,true_and,↓qd,qb,Jr,Nat.reduceAdd];refine Qk qbT (cs:=[.int .i64 0, .int .i64 0, .int .i64 0]) (by rfl) fun k0q2 hk0q2=>?_;have ne_0q2_0q0:k0q2≠k0q0:=by simp only[V7]at hk0q2;simp only[hk0q2,ne_eq,not_false_eq_true]
 try have hf_0q2:h k0q2=none:=by first|assumption|(simp only[V7]at hk0q2;simp only[hk0q2])
 simp+decide only[qa,putD,VM,VN,Ka];apply hK;clear hK K;refine qL ?_;refine awp_rseq [0,1,2,6,8,16] (by rfl) fun K hK=>?_;simp+decide only[qa,ev,qH,qF,putD,VM,VO,VN,Ka,true_and,↓qh,qc,↓Xt,QD,YW Tryz.underlying9,↓qA,ql,qC,cond_false,qp,UE];apply hK;clear hK K;refine qK (b:=_) rfl (fun hb1=>?_) (fun hb1=>?_)
 ·try simp only[decide_eq_true_eq]at hb1
  refine awp_rseq [6,7,8] (by rfl) fun K hK=>?_;simp+decide only[ev,qH,qF,putD,VM,VO,Ka,true_and,↓Qr,↓qY,qpV,evP,Vj,↓qh,qc];refine qM (V:=QA ⟨5,line,81⟩) (by rfl) (by rfl) (qgG wz _ 5 line 81) ?_;refine qo (by rfl) (by rfl) zqA Ye (by rfl) (by rfl) zqD (Js _) (by rfl) ?_;simp only[VV];simp+decide only[ev,qH,qF,putD,VM,VO,Ka,true_and,↓qd,qb,setAt,VW,Ki,Jr,Nat.reduceAdd,QA];refine qo (by rfl) (by rfl) zqA QK (by rfl) (by rfl) zqD (Js _) (by rfl) ?_;simp only[VV];simp+decide only[qa,ev,putD,VO,VN,Ka,setAt,VW,Ki,Jr,Nat.reduceAdd];apply hK;clear hK K;refine qN ?_;try simp only[Qf]
  refine qW h zqC (?_) ?_
  ·simp+decide only[QC,qw,qj,VO,Ka,and_true,qw,qj,qg WK Ye,qg Xv QK,Qc,qf,VX,Km,Jr,Nat.reduceAdd,qB,qi,qE,allLive,JS,QL,ne_eq,not_false_eq_true,ne_0q2_0q0.symm,qf,VX,Km,Jr,Nat.reduceAdd,qB,qi,qE,allLive,JS]
  simp+decide only[VO,Ka,and_true,QF,qw,qj,qg WK Ye,qg Xv QK,Qc,qf,VX,Km,Jr,Nat.reduceAdd,qB,qi,qE,allLive,JS,QL,ne_eq,not_false_eq_true,ne_0q2_0q0.symm,qf,VX,Km,Jr,Nat.reduceAdd,qB,qi,qE,allLive,JS,QA,qiE];unfold Um;rw[if_pos (by omega)];rfl
 ·try simp only[decide_eq_false_iff_not]at hb1
  have h80:¬80<s.length:=by omega
  refine qV ?_;change Awp _ _ _ _ _ _ _;refine qL ?_;refine awp_rseq [0,1,2,6,8,9] (by rfl) fun K hK=>?_;simp+decide only[ev,putD,VM,VO,Ka,true_and,↓qh,qc];refine qM (V:= .int .i64 (qpd s)) (by rfl) (by rfl) (c_bad wz _ s) ?_;simp+decide only[qa,ev,putD,VM,VO,VN,Ka,true_and,↓qd,qb];apply hK;clear hK K;refine awp_rseq [0,1,2,6,8,9,23] (by rfl) fun K hK=>?_;simp+decide only[qa,ev,qH,qF,putD,VM,VO,VN,Ka,true_and,↓qh,qc,↓qA,ql,qC,cond_false,qp,qav];apply hK;clear hK K;refine qK (b:=_) rfl (fun hb2=>?_) (fun hb2=>?_)
  ·try simp only[decide_eq_true_eq]at hb2
   obtain⟨i,hi1,hi2,hi3⟩:=(qjI s).resolve_left (fun e=>by omega);rw[hi2];refine awp_rseq [6,7,8] (by rfl) fun K hK=>?_;simp+decide only[ev,qH,qF,putD,VM,VO,Ka,true_and,↓Qr,↓qY,qpV,evP,Vj,↓qh,qc,↓qA,ql,qC,cond_false,qp,Xc];try simp(disch:=omega)only[wrap_i64]
   refine qM (V:=QA ⟨4,line,(i:Int)+1⟩) (by rfl) (by rfl) (qgG wz _ 4 line ((i:Int)+1)) ?_;refine qo (by rfl) (by rfl) zqA Ye (by rfl) (by rfl) zqD (Js _) (by rfl) ?_;simp only[VV];simp+decide only[ev,qH,qF,putD,VM,VO,Ka,true_and,↓qd,qb,setAt,VW,Ki,Jr,Nat.reduceAdd,QA];refine qo (by rfl) (by rfl) zqA QK (by rfl) (by rfl) zqD (Js _) (by rfl) ?_;simp only[VV];simp+decide only[qa,ev,putD,VO,VN,Ka,setAt,VW,Ki,Jr,Nat.reduceAdd];apply hK;clear hK K;refine qN ?_;try simp only[Qf]
   refine qW h zqC (?_) ?_
   ·simp+decide only[QC,qw,qj,VO,Ka,and_true,qw,qj,qg WK Ye,qg Xv QK,Qc,qf,VX,Km,Jr,Nat.reduceAdd,qB,qi,qE,allLive,JS,QL,ne_eq,not_false_eq_true,ne_0q2_0q0.symm,qf,VX,Km,Jr,Nat.reduceAdd,qB,qi,qE,allLive,JS]
   simp+decide only[VO,Ka,and_true,QF,qw,qj,qg WK Ye,qg Xv QK,Qc,qf,VX,Km,Jr,Nat.reduceAdd,qB,qi,qE,allLive,JS,QL,ne_eq,not_false_eq_true,ne_0q2_0q0.symm,qf,VX,Km,Jr,Nat.reduceAdd,qB,qi,qE,allLive,JS,QA,qiE];unfold Um;rw[if_neg h80,hi1];rfl
  ·try simp only[decide_eq_false_iff_not]at hb2
   have hbn:qcb s=none:=by
    rcases qjI s with e|⟨i,e1,e2,e3⟩
    ·exact e.1
    ·omega
   obtain⟨p1,p2⟩:=padE_len (s:=s) (by omega);have hspl:(sp (72-s.length)).length=72-s.length:=by simp[sp]
   have hpe:s++sp (72-s.length)=qbC s:=rfl;have h65:(((qbC s).drop 7).take 65).length=65:=by simp;omega
   have htl:=qmA (((qbC s).drop 7).take 65);have hmr:decide ((((qbC s).getD 6 0).toNat:Int)=45)=((qbC s).getD 6 0==45):=by
    rw[Kz,decide_eq_true_eq,beq_iff_eq];exact iff_of_eq (Zg _ 45)
   have hln:=qiZ (line:=line) (dbg:=dbg) h80 hbn;refine qV ?_;change Awp _ _ _ _ _ _ _;refine awp_rseq [0,1,2,6,8] (by rfl) fun K hK=>?_;simp+decide only[ev,qH,qF,putD,VM,VO,Ka,true_and,↓qh,qc,↓Xt,QD,YW Tryz.underlying9,↓qA,ql,qZ,cond_false,qp,qad,↓ap_max,pop_max,pMax_int,evs,Kc,Vj];try simp(disch:=omega)only[wrap_i64]
   rw[show max (0:Int) (72-(s.length:Int))=((72-s.length:Nat):Int) by omega];refine qM (V:= .str (sp (72-s.length))) (by rfl) (by rfl) (c_repeat wz _ 32 _ (by omega)) ?_;simp+decide only[qa,ev,putD,VM,VO,VN,Ka,true_and,↓qA,ql,qZ,cond_false,Zl,qfs,↓qd,qb,hpe];repeat (with_reducible refine And.intro ?_ ?_;· first|trivial|omega|(intro hg;simp only[Kw,JV,Ji,VP,VQ,VS,decide_eq_true_eq,decide_eq_false_iff_not,XT]at hg;omega))
   apply hK;clear hK K;refine awp_rseq [0,1,2,6,8,10] (by rfl) fun K hK=>?_;simp+decide only[qa,ev,qH,qF,putD,VM,VO,VN,Ka,true_and,↓qh,qc,↓qnM,qeE,qdg Tryz.underlying9,↓qd,qb,w6];repeat (with_reducible refine And.intro ?_ ?_;· first|trivial|omega|(intro hg;simp only[Kw,JV,Ji,VP,VQ,VS,decide_eq_true_eq,decide_eq_false_iff_not,XT]at hg;omega))
   apply hK;clear hK K;refine awp_rseq [1,2,6,8,10,11] (by rfl) fun K hK=>?_;simp+decide only[qa,ev,qH,qF,putD,VM,VO,VN,Ka,true_and,↓qh,qc,↓WU,Zt,evO,qfp Tryz.underlying9,qaH,UH,↓qd,qb,w7,w72,Nat.reduceSub];repeat (with_reducible refine And.intro ?_ ?_;· first|trivial|omega|(intro hg;simp only[Kw,JV,Ji,VP,VQ,VS,decide_eq_true_eq,decide_eq_false_iff_not,XT]at hg;omega))
   apply hK;clear hK K;refine awp_rseq [1,2,6,8,10,11,12] (by rfl) fun K hK=>?_;simp+decide only[ev,putD,VM,VO,Ka,true_and,↓qh,qc];refine qM (V:= .str (qiu (((qbC s).drop 7).take 65))) (by rfl) (by rfl) (c_trimL wz _ _) ?_;simp+decide only[qa,ev,putD,VM,VO,VN,Ka,true_and,↓qd,qb];apply hK;clear hK K;refine awp_rseq [1,2,6,8,10,12,13] (by rfl) fun K hK=>?_;simp+decide only[ev,qH,qF,putD,VM,VO,Ka,true_and,↓qh,qc,↓qA,ql,qC,cond_false,qp,XH,↓Xt,QD,YW Tryz.underlying9,qZ,Xc,qad,↓Qr,↓qY,qjG,evP,Kc,Vj,h65,w8,hmr];try simp(disch:=omega)only[wrap_i64]
   refine Qk qsv (cs:=[.int .i64 0, .bool false, .str [], .int .i64 0]) (by rfl) fun k10q11 hk10q11=>?_;have ne_10q11_0q0:k10q11≠k0q0:=by simp only[V7]at hk10q11;simp only[hk10q11,ne_eq,not_false_eq_true]
   have ne_10q11_0q2:k10q11≠k0q2:=by simp only[V7]at hk10q11;simp only[hk10q11,ne_eq,not_false_eq_true]
   try have hf_10q11:h k10q11=none:=by first|assumption|(simp only[V7]at hk10q11;simp only[hk10q11])
   refine qo (by rfl) (by rfl) zqA Ye (by rfl) (by rfl) zqD (Js _) (by rfl) ?_;simp only[Vh,VV];simp+decide only[qa,ev,putD,VM,VO,VN,Ka,setAt,VW,Ki,Jr,Nat.reduceAdd];apply hK;clear hK K;refine qL ?_;refine awp_rseq [1,2,6,8,12,13,53] (by rfl) fun K hK=>?_;simp+decide only[qa,ev,putD,VM,VO,VN,Ka,true_and,↓qh,qc];apply hK;clear hK K;refine Qp ?_;refine qL ?_;refine awp_rseq [1,2,6,8,12,13,53,54] (by rfl) fun K hK=>?_;simp+decide only[qa,ev,qH,qF,putD,VM,VO,VN,Ka,true_and,↓qA,ql,qC,cond_false,qp,XH,↓qd,qb];apply hK;clear hK K;refine qK (b:=_) rfl (fun hb3=>?_) (fun hb3=>?_)
   ·try simp only[decide_eq_true_eq]at hb3
    refine qV ?_;change Awp _ _ _ _ _ _ _;refine qK (b:=_) rfl (fun hb4=>?_) (fun hb4=>?_)
    ·try simp only[decide_eq_true_eq]at hb4
     refine awp_rseq [6,7,8] (by rfl) fun K hK=>?_;simp+decide only[ev,qH,qF,putD,VM,VO,Ka,true_and,↓qG,Qb,qg WK Ye,↓Qr,↓qY,ZV,evP,Vj,QP,qf,VX,Km,Jr,Nat.reduceAdd,qB,qi,qE,allLive,JS];refine qo (by rfl) (by rfl) zqA Ye (by rfl) (by rfl) zqD (Js _) (by rfl) ?_;simp only[VV];simp+decide only[ev,qH,qF,putD,VM,VO,Ka,true_and,↓qd,qb,setAt,VW,Ki,Jr,Nat.reduceAdd];refine qo (by rfl) (by rfl) zqA QK (by rfl) (by rfl) zqD (Js _) (by rfl) ?_;simp only[VV];simp+decide only[qa,ev,putD,VO,VN,Ka,setAt,VW,Ki,Jr,Nat.reduceAdd];apply hK;clear hK K;refine qN ?_;try simp only[Qf,Qu]
     refine qW h zqC (?_) ?_
     ·simp+decide only[QC,qw,qj,VO,Ka,and_true,qw,qj,qg WK Ye,qg Xv QK,Qc,qf,VX,Km,Jr,Nat.reduceAdd,qB,qi,qE,allLive,JS,QL,ne_eq,not_false_eq_true,ne_0q2_0q0.symm,qf,VX,Km,Jr,Nat.reduceAdd,qB,qi,qE,allLive,JS]
     simp+decide only[VO,Ka,and_true,QF,qw,qj,qg WK Ye,qg Xv QK,Qc,qf,VX,Km,Jr,Nat.reduceAdd,qB,qi,qE,allLive,JS,QL,ne_eq,not_false_eq_true,ne_0q2_0q0.symm,qf,VX,Km,Jr,Nat.reduceAdd,qB,qi,qE,allLive,JS,QA,qiE];rw[hln,if_pos (.inl ((Zg _ 42).mp hb3))];rfl
    ·try simp only[decide_eq_false_iff_not]at hb4
     exact absurd hb3 hb4
   ·try simp only[decide_eq_false_iff_not]at hb3
    refine XL [1,2,6,8,12,13,53,54] (by rfl) ?_;simp+decide only[qa,ev,qH,qF,putD,VM,VO,VN,Ka,true_and,↓qA,ql,qC,cond_false,qp,XH,↓qd,qb,QA,qiE];change Awp _ _ _ _ _ _ _;refine qK (b:=_) rfl (fun hb9=>?_) (fun hb9=>?_)
    ·try simp only[decide_eq_true_eq]at hb9
     refine awp_rseq [6,7,8] (by rfl) fun K hK=>?_;simp+decide only[ev,qH,qF,putD,VM,VO,Ka,true_and,↓qG,Qb,qg WK Ye,↓Qr,↓qY,ZV,evP,Vj,QP,qf,VX,Km,Jr,Nat.reduceAdd,qB,qi,qE,allLive,JS];refine qo (by rfl) (by rfl) zqA Ye (by rfl) (by rfl) zqD (Js _) (by rfl) ?_;simp only[VV];simp+decide only[ev,qH,qF,putD,VM,VO,Ka,true_and,↓qd,qb,setAt,VW,Ki,Jr,Nat.reduceAdd];refine qo (by rfl) (by rfl) zqA QK (by rfl) (by rfl) zqD (Js _) (by rfl) ?_;simp only[VV];simp+decide only[qa,ev,putD,VO,VN,Ka,setAt,VW,Ki,Jr,Nat.reduceAdd];apply hK;clear hK K;refine qN ?_;try simp only[Qf,Qu]
     refine qW h zqC (?_) ?_
     ·simp+decide only[QC,qw,qj,VO,Ka,and_true,qw,qj,qg WK Ye,qg Xv QK,Qc,qf,VX,Km,Jr,Nat.reduceAdd,qB,qi,qE,allLive,JS,QL,ne_eq,not_false_eq_true,ne_0q2_0q0.symm,qf,VX,Km,Jr,Nat.reduceAdd,qB,qi,qE,allLive,JS]
     simp+decide only[VO,Ka,and_true,QF,qw,qj,qg WK Ye,qg Xv QK,Qc,qf,VX,Km,Jr,Nat.reduceAdd,qB,qi,qE,allLive,JS,QL,ne_eq,not_false_eq_true,ne_0q2_0q0.symm,qf,VX,Km,Jr,Nat.reduceAdd,qB,qi,qE,allLive,JS];rw[hln,if_pos (.inr ((Zg _ 47).mp hb9))];rfl
    ·try simp only[decide_eq_false_iff_not]at hb9
     have n1:¬((qbC s).getD 6 0=42\/(qbC s).getD 6 0=47):=by
      rintro(e|e)
      ·exact hb3 ((Zg _ 42).mpr e)
      ·exact hb9 ((Zg _ 47).mpr e)
     refine qL ?_;refine awp_rseq [1,2,6,8,12,13,53,59] (by rfl) fun K hK=>?_;simp+decide only[qa,ev,qH,qF,putD,VM,VO,VN,Ka,true_and,↓qA,ql,qC,cond_false,qp,XH,↓qd,qb];apply hK;clear hK K;refine qK (b:=_) rfl (fun hb10=>?_) (fun hb10=>?_)
     ·try simp only[decide_eq_true_eq]at hb10
      refine qV ?_;change Awp _ _ _ _ _ _ _;refine qK (b:=_) rfl (fun hb11=>?_) (fun hb11=>?_)
      ·try simp only[decide_eq_true_eq]at hb11
       refine awp_rseq [6,7,8] (by rfl) fun K hK=>?_;simp+decide only[ev,qH,qF,putD,VM,VO,Ka,true_and,↓qG,Qb,qg WK Ye,↓qh,qc,↓Xe,agP,Qt,qJ,qI,qy,implies_true,JS,↓Xb,ql,Wn,cond_false,XZ,Za,Zl,qfr,↓QR,Qs,Qg,Xn,Xp,↓Qr,↓qY,ZV,evP,Vj,QP,qf,VX,Km,Jr,Nat.reduceAdd,qB,qi,qE,allLive,JS];refine qo (by rfl) (by rfl) zqA Ye (by rfl) (by rfl) zqD (Js _) (by rfl) ?_;simp only[VV];simp+decide only[ev,putD,VM,VO,Ka,true_and,↓qd,qb,setAt,VW,Ki,Jr,Nat.reduceAdd];refine qo (by rfl) (by rfl) zqA QK (by rfl) (by rfl) zqD (Js _) (by rfl) ?_;simp only[VV];simp+decide only[qa,ev,putD,VO,VN,Ka,setAt,VW,Ki,Jr,Nat.reduceAdd];apply hK;clear hK K;refine qN ?_;try simp only[Qf,Qu]
       refine qW h zqC (?_) ?_
       ·simp+decide only[QC,qw,qj,VO,Ka,and_true,qw,qj,qg WK Ye,qg Xv QK,Qc,qf,VX,Km,Jr,Nat.reduceAdd,qB,qi,qE,allLive,JS,QL,ne_eq,not_false_eq_true,ne_0q2_0q0.symm,qf,VX,Km,Jr,Nat.reduceAdd,qB,qi,qE,allLive,JS]
       simp+decide only[VO,Ka,and_true,QF,qw,qj,qg WK Ye,qg Xv QK,Qc,qf,VX,Km,Jr,Nat.reduceAdd,qB,qi,qE,allLive,JS,QL,ne_eq,not_false_eq_true,ne_0q2_0q0.symm,qf,VX,Km,Jr,Nat.reduceAdd,qB,qi,qE,allLive,JS];rw[hln,if_neg n1,if_pos (.inl ((Zg _ 68).mp hb10))];rfl
      ·try simp only[decide_eq_false_iff_not]at hb11
       exact absurd hb10 hb11
     ·try simp only[decide_eq_false_iff_not]at hb10
      refine XL [1,2,6,8,12,13,53,59] (by rfl) ?_;simp+decide only[qa,ev,qH,qF,putD,VM,VO,VN,Ka,true_and,↓qA,ql,qC,cond_false,qp,XH,↓qd,qb];change Awp _ _ _ _ _ _ _;refine qK (b:=_) rfl (fun hb14=>?_) (fun hb14=>?_)
      ·try simp only[decide_eq_true_eq]at hb14
       refine awp_rseq [6,7,8] (by rfl) fun K hK=>?_;simp+decide only[ev,qH,qF,putD,VM,VO,Ka,true_and,↓qG,Qb,qg WK Ye,↓qh,qc,↓Xe,agP,Qt,qJ,qI,qy,implies_true,JS,↓Xb,ql,Wn,cond_false,XZ,Za,Zl,qfr,↓QR,Qs,Qg,Xn,Xp,↓Qr,↓qY,ZV,evP,Vj,QP,qf,VX,Km,Jr,Nat.reduceAdd,qB,qi,qE,allLive,JS];refine qo (by rfl) (by rfl) zqA Ye (by rfl) (by rfl) zqD (Js _) (by rfl) ?_;simp only[VV];simp+decide only[ev,putD,VM,VO,Ka,true_and,↓qd,qb,setAt,VW,Ki,Jr,Nat.reduceAdd];refine qo (by rfl) (by rfl) zqA QK (by rfl) (by rfl) zqD (Js _) (by rfl) ?_;simp only[VV];simp+decide only[qa,ev,putD,VO,VN,Ka,setAt,VW,Ki,Jr,Nat.reduceAdd];apply hK;clear hK K;refine qN ?_;try simp only[Qf,Qu]
       refine qW h zqC (?_) ?_
       ·simp+decide only[QC,qw,qj,VO,Ka,and_true,qw,qj,qg WK Ye,qg Xv QK,Qc,qf,VX,Km,Jr,Nat.reduceAdd,qB,qi,qE,allLive,JS,QL,ne_eq,not_false_eq_true,ne_0q2_0q0.symm,qf,VX,Km,Jr,Nat.reduceAdd,qB,qi,qE,allLive,JS]
       simp+decide only[VO,Ka,and_true,QF,qw,qj,qg WK Ye,qg Xv QK,Qc,qf,VX,Km,Jr,Nat.reduceAdd,qB,qi,qE,allLive,JS,QL,ne_eq,not_false_eq_true,ne_0q2_0q0.symm,qf,VX,Km,Jr,Nat.reduceAdd,qB,qi,qE,allLive,JS];rw[hln,if_neg n1,if_pos (.inr ((Zg _ 100).mp hb14))];rfl
      ·try simp only[decide_eq_false_iff_not]at hb14
       have n2:¬((qbC s).getD 6 0=68\/(qbC s).getD 6 0=100):=by
        rintro(e|e)
        ·exact hb10 ((Zg _ 68).mpr e)
        ·exact hb14 ((Zg _ 100).mpr e)
       refine qL ?_;refine awp_rseq [1,6,8,12,13,53,69] (by rfl) fun K hK=>?_;simp+decide only[qa,ev,qH,qF,putD,VM,VO,VN,Ka,true_and,↓qA,ql,qC,cond_false,qp,XH,↓qd,qb];apply hK;clear hK K;refine qK (b:=_) rfl (fun hb15=>?_) (fun hb15=>?_)
       ·try simp only[decide_eq_true_eq]at hb15
        refine qV ?_;change Awp _ _ _ _ _ _ _;refine qK (b:=_) rfl (fun hb16=>?_) (fun hb16=>?_)
        ·try simp only[decide_eq_true_eq]at hb16
         refine awp_rseq [6,7,8] (by rfl) fun K hK=>?_;simp+decide only[ev,qH,qF,putD,VM,VO,Ka,true_and,↓qG,Qb,qg WK Ye,↓qh,qc,↓qA,ql,Wn,cond_false,Zl,qfr,↓Qr,↓qY,ZV,evP,Vj,QP,qf,VX,Km,Jr,Nat.reduceAdd,qB,qi,qE,allLive,JS];refine qo (by rfl) (by rfl) zqA Ye (by rfl) (by rfl) zqD (Js _) (by rfl) ?_;simp only[VV];simp+decide only[ev,putD,VM,VO,Ka,true_and,↓qd,qb,setAt,VW,Ki,Jr,Nat.reduceAdd];refine qo (by rfl) (by rfl) zqA QK (by rfl) (by rfl) zqD (Js _) (by rfl) ?_;simp only[VV];simp+decide only[qa,ev,putD,VO,VN,Ka,setAt,VW,Ki,Jr,Nat.reduceAdd];apply hK;clear hK K;refine qN ?_;try simp only[Qf,Qu]
         refine qW h zqC (?_) ?_
         ·simp+decide only[QC,qw,qj,VO,Ka,and_true,qw,qj,qg WK Ye,qg Xv QK,Qc,qf,VX,Km,Jr,Nat.reduceAdd,qB,qi,qE,allLive,JS,QL,ne_eq,not_false_eq_true,ne_0q2_0q0.symm,qf,VX,Km,Jr,Nat.reduceAdd,qB,qi,qE,allLive,JS]
         simp+decide only[VO,Ka,and_true,QF,qw,qj,qg WK Ye,qg Xv QK,Qc,qf,VX,Km,Jr,Nat.reduceAdd,qB,qi,qE,allLive,JS,QL,ne_eq,not_false_eq_true,ne_0q2_0q0.symm,qf,VX,Km,Jr,Nat.reduceAdd,qB,qi,qE,allLive,JS];rw[hln,if_neg n1,if_neg n2,if_pos (.inl ((Zg _ 32).mp hb15))];rfl
        ·try simp only[decide_eq_false_iff_not]at hb16
         exact absurd hb15 hb16
       ·try simp only[decide_eq_false_iff_not]at hb15
        refine XL [1,6,8,12,13,69] (by rfl) ?_;simp+decide only[qa,ev,qH,qF,putD,VM,VO,VN,Ka,true_and,↓qA,ql,qC,cond_false,qp,XH,↓qd,qb];change Awp _ _ _ _ _ _ _;refine qK (b:=_) rfl (fun hb17=>?_) (fun hb17=>?_)
        ·try simp only[decide_eq_true_eq]at hb17
         refine awp_rseq [6,7,8] (by rfl) fun K hK=>?_;simp+decide only[ev,qH,qF,putD,VM,VO,Ka,true_and,↓qG,Qb,qg WK Ye,↓qh,qc,↓qA,ql,Wn,cond_false,Zl,qfr,↓Qr,↓qY,ZV,evP,Vj,QP,qf,VX,Km,Jr,Nat.reduceAdd,qB,qi,qE,allLive,JS];refine qo (by rfl) (by rfl) zqA Ye (by rfl) (by rfl) zqD (Js _) (by rfl) ?_;simp only[VV];simp+decide only[ev,putD,VM,VO,Ka,true_and,↓qd,qb,setAt,VW,Ki,Jr,Nat.reduceAdd];refine qo (by rfl) (by rfl) zqA QK (by rfl) (by rfl) zqD (Js _) (by rfl) ?_;simp only[VV];simp+decide only[qa,ev,putD,VO,VN,Ka,setAt,VW,Ki,Jr,Nat.reduceAdd];apply hK;clear hK K;refine qN ?_;try simp only[Qf,Qu]
         refine qW h zqC (?_) ?_
         ·simp+decide only[QC,qw,qj,VO,Ka,and_true,qw,qj,qg WK Ye,qg Xv QK,Qc,qf,VX,Km,Jr,Nat.reduceAdd,qB,qi,qE,allLive,JS,QL,ne_eq,not_false_eq_true,ne_0q2_0q0.symm,qf,VX,Km,Jr,Nat.reduceAdd,qB,qi,qE,allLive,JS]
         simp+decide only[VO,Ka,and_true,QF,qw,qj,qg WK Ye,qg Xv QK,Qc,qf,VX,Km,Jr,Nat.reduceAdd,qB,qi,qE,allLive,JS,QL,ne_eq,not_false_eq_true,ne_0q2_0q0.symm,qf,VX,Km,Jr,Nat.reduceAdd,qB,qi,qE,allLive,JS];rw[hln,if_neg n1,if_neg n2,if_pos (.inr ((Zg _ 45).mp hb17))];rfl
        ·try simp only[decide_eq_false_iff_not]at hb17
         refine qV ?_;change Awp _ _ _ _ _ _ _;refine YM 3 [] [6,7,8] mixed (by kernel_rfl) (by rfl) fun K hK=>?_;simp only[Kh,V6,VB,KP];simp+decide only[ev,putD,VM,VO,Ka,true_and,↓Zn,Xz,qg WK Ye,↓XD,qc,QP,qf,VX,Km,Jr,Nat.reduceAdd,qB,qi,qE,allLive,JS];refine Xf (V:=QA ⟨4,line,7⟩) (by rfl) (by rfl) (by first|trivial|(simp+decide only[Bb,Xu,and_true,true_and,QA,Uk,YR,qfi,qiE,Vd,JJ];done)|(simp[Bb,Xu,Bd];done)) (fun g hg=>qgG wz _ 4 line 7) ?_;try simp only[Yl]
         refine qo (by rfl) (by rfl) zqA Ye (by rfl) (by rfl) zqD (Js _) (by rfl) ?_;simp only[VV];simp+decide only[ev,qH,qF,putD,VM,VO,Ka,true_and,↓qd,qb,setAt,VW,Ki,Jr,Nat.reduceAdd,QA];refine qo (by rfl) (by rfl) zqA QK (by rfl) (by rfl) zqD (Js _) (by rfl) ?_;simp only[VV];simp+decide only[qa,ev,putD,VO,VN,Ka,setAt,VW,Ki,Jr,Nat.reduceAdd];apply hK;clear hK K;refine qN ?_;refine qW h zqC (?_) ?_
         ·simp+decide only[QC,qw,qj,VO,Ka,and_true,qw,qj,qg WK Ye,qg Xv QK,Qc,qf,VX,Km,Jr,Nat.reduceAdd,qB,qi,qE,allLive,JS,QL,ne_eq,not_false_eq_true,ne_0q2_0q0.symm,qf,VX,Km,Jr,Nat.reduceAdd,qB,qi,qE,allLive,JS]
         simp+decide only[VO,Ka,and_true,QF,qw,qj,qg WK Ye,qg Xv QK,Qc,qf,VX,Km,Jr,Nat.reduceAdd,qB,qi,qE,allLive,JS,QL,ne_eq,not_false_eq_true,ne_0q2_0q0.symm,qf,VX,Km,Jr,Nat.reduceAdd,qB,qi,qE,allLive,JS];rw[hln,if_neg n1,if_neg n2,if_neg]
         ·rfl
         ·rintro(e|e)
          ·exact hb15 ((Zg _ 32).mpr e)
          ·exact hb17 ((Zg _ 45).mpr e)
end Go.Proofs.YtlhhaagmakhilaaGreatDoor
namespace Go.Proofs.YtlhhaagmakhilaaGreatDoor
open Go.AM
open Go.Proofs
open Go.Col
open Go.Tok
open Go.RowKit (Below)
set_option maxRecDepth 100000
def QJ(t:TokC):List AVal:=[.int .u8 t.kind.toNat, .str t.text, .int .i64 t.line, .int .i64 t.col, .bool t.left]
def nxA(t:Nx):AVal:= .agg [.int .u8 t.kind.toNat, .str t.text, .int .i64 0, .int .i64 0, .bool false]
def nxR(t:Nx):AVal:= .tuple [nxA t, .int .i64 t.n, .int .i64 t.e]
theorem Ut(wz:World)(h:AHeap)(kx:Nat)(lf:Bool)(s:Str)(mv tv:AVal)(i:Nat)(n:Int)(hk:h kx=some ⟨[.bool lf, .str s,mv, .int .i64 i,tv],0⟩)(i1:i<=4611686018427387904)(n0: -1<=n)(n1:n<=2305843009213693952):
 ACall Tryz.prog wz 105 [.ptr (.own kx) 0, .int .i64 n] h (fun v h'=>v= .int .u8 (Qo s (i+n)).toNat/\h'=h):=by
 have rx:=fun o=>Qz wz hk o;refine qP (n:=39) (rs:=[.tmp 4]) Tryz.func105 rfl rfl rfl rfl (VL rfl) ?_;simp only[Qd];refine awp_rseq [0,1] (by rfl) fun K hK=>?_;simp+decide only[qa,ev,qH,qF,putD,VM,VN,Ka,true_and,↓qd,qb,Jr];apply hK;clear hK K;refine qL ?_;refine Zj [0,1,26] mixed (by kernel_rfl) (by rfl) (by rfl) fun K hK=>?_;simp+decide only[qa,ev,qH,qF,putD,VM,VO,VN,Ka,true_and,↓qh,qc,↓Qj,qO,Qm,↓qD,qm,Wv,↓qG,Qb,qz ag3,↓qA,ql,qZ,cond_false,qp,Xc,qC,Zc,↓Xe,agP,Qt,qJ,qI,Qe,implies_true,↓Ym,qbM,qbN,↓XI,ZH,ZI,↓Zy,Zd,Ud,qce,↓Xb,XZ,qbl,Za,qbm,Ue,We,qz ag9,↓qaW,QD,YW Tryz.underlying9,qel,qem,qav,↓QR,Qs,Qg,XO,ZF,VX,Km,Jr,qi,qE,rx];try simp(disch:=omega)only[wrap_i64]
 apply hK;clear hK K;refine qK (b:=_) rfl (fun hb1=>?_) (fun hb1=>?_)
 ·try simp only[decide_eq_true_eq,JV]at hb1
  skip;refine awp_rseq [4] (by rfl) fun K hK=>?_;simp+decide only[qa,ev,qH,qF,putD,VM,VN,Ka,true_and,↓qd,qb];apply hK;clear hK K;refine qN ?_;try simp only[Qf]
  refine qW h zqC (qR (Qa)) ?_;simp+decide only[VO,if_true,and_true,Ql];rw[qmT (by omega)];rfl
 ·try simp only[decide_eq_false_iff_not,VQ]at hb1
  have hi:0<=(i:Int)+n/\(i:Int)+n<s.length:=by omega
  refine qV ?_;change Awp _ _ _ _ _ _ _;refine Zj [4] mixed (by kernel_rfl) (by rfl) (by rfl) fun K hK=>?_;simp+decide only[ev,putD,VM,VO,Ka,true_and,↓qh,qc,↓Qj,qO,Qm,↓qD,qm,Ue,We,↓qG,Qb,qz ag9,Wv,qz ag3,↓qA,ql,qZ,cond_false,qp,Xc,VX,Km,Jr,qi,qE,rx];try simp(disch:=omega)only[wrap_i64]
  try simp+decide only[qa,ev,putD,VM,VO,VN,Ka,true_and,↓qnM,qeE,qdg Tryz.underlying9,↓qd,qb]
  repeat (with_reducible refine And.intro ?_ ?_;· first|trivial|omega|(intro hg;simp only[Kw,JV,Ji,VP,VQ,VS,decide_eq_true_eq,decide_eq_false_iff_not,XT]at hg;omega))
  apply hK;clear hK K;refine qN ?_;refine qW h zqC (qR (Qa)) ?_;simp+decide only[VO,if_true,and_true,Ql];unfold Qo;rw[if_neg (by omega)]
theorem qrd{s:Str}{i n:Nat}{p:UInt8->Bool}(hn:n<=WG s i p):n<WG s i p↔i+n<s.length/\p (s.getD (i+n) 0)=true:=by
 constructor
 ·intro h
  have h1:=qiD (s:=s) (p:=p) (i:=i) h n (Nat.lt_succ_self n);refine⟨?_,h1⟩;by_cases hi:i<=s.length
  ·have:=qcZ s i p hi
   omega
  ·have:WG s i p=0:=by rw[qcv,if_neg (by omega)]
   omega
 ·rintro⟨h1,h2⟩
  by_cases e:n=WG s i p
  ·have:=qkp (s:=s) (p:=p) (f:=s.length) (i:=i) (by omega) (by omega)
   rw[<-e,h2]at this;cases this
  ·omega
abbrev IsFn(wz:World)(f:FuncId)(p:UInt8->Bool):Prop:=∀(g:AHeap) (b:UInt8),ACall Tryz.prog wz f [.int .u8 b.toNat] g (fun v h'=>v= .bool (p b)/\h'=g)
theorem c_run(wz:World)(h:AHeap)(kx:Nat)(lf:Bool)(s:Str)(mv tv:AVal)(i k:Nat)(f:FuncId)(p:UInt8->Bool)(hf:IsFn wz f p)(hk:h kx=some ⟨[.bool lf, .str s,mv, .int .i64 i,tv],0⟩)(i1:i<=1099511627776)(k1:k<=1099511627776)(hs:s.length<=1099511627776):
 ACall Tryz.prog wz 132 [.ptr (.own kx) 0, .int .i64 k, .func f []] h (fun v h'=>v= .int .i64 (WG s (i+k) p)/\h'=h):=by
 have rx:=fun o=>Qz wz hk o;have hrl:=qiC s (i+k) p;refine qP (n:=35) (rs:=[.tmp 6]) Tryz.func132 rfl rfl rfl rfl (VL rfl) ?_;simp only[Qd];refine awp_rseq [0,1,2] (by rfl) fun K hK=>?_;simp+decide only[qa,ev,qH,qF,putD,VM,VN,Ka,true_and,↓qd,qb,Jr,Nat.reduceAdd];apply hK;clear hK K;refine awp_rseq [0,1,2,7] (by rfl) fun K hK=>?_;simp+decide only[qa,ev,qH,qF,putD,VM,VN,Ka,true_and,↓qd,qb];apply hK;clear hK K;refine qL ?_;refine Qp ?_;refine XE [0,1,2,7] (fun n:Nat=>[(0, .ptr (.own kx) 0),(1, .int .i64 k),(2, .func f []),(7, .int .i64 n)]) (fun n:Nat=>h) (fun n:Nat=>n<=WG s (i+k) p) (fun n:Nat=>WG s (i+k) p-n) 0 rfl (Vl _) (Js _) ?_;intro n hn;have hnx:=qrd hn;have hpk:∀q:(i:Int)+k+n<s.length,Qo s (i+((k:Int)+n))=s.getD (i+k+n) 0:=fun q=>by
  rw[show(i:Int)+((k:Int)+n)=((i+k+n:Nat):Int) by omega,YK (by omega)]
 refine qL ?_;refine YM 24 [] [0,1,2,7,31] mixed (by kernel_rfl) (by rfl) fun K hK=>?_;simp only[Kh,VB,List.take_nil,List.drop_nil];simp+decide only[qa,ev,putD,VM,VO,Ka,true_and,↓XD,qc,↓WI,qO,Qm,↓ZG,qm,Wv,↓Zn,Xz,qz ag3,↓qec,ql,qZ,cond_false,qp,Xc,Ue,We,qz ag9,↓fp_len,QD,YW Tryz.underlying9,Zc,↓fg_move,fgP,fgQ_some,qJ,qI,qy,implies_true,↓fg_binOp,XZ,qbl,Za,qbm,VX,Km,Jr,qi,qE,rx];try simp(disch:=omega)only[wrap_i64]
 refine qfw (V:= .int .u8 (Qo s (i+((k:Int)+n))).toNat) (f:=_) (cap:=_) (xs:=_) (by first|rfl|(simp+decide only[gv,qJ,VO,Ka,QZ,qI])) (fun hg=>⟨rfl,?_⟩) (by first|trivial|(simp+decide only[Bb,Xu,and_true,true_and,QA,Uk,YR,qfi,nxA,nxR,Vd,JJ];done)|(simp[Bb,Xu,Bd];done)) (fun hg g hsub=>Ut wz _ kx lf s mv tv i ((k:Int)+n) (by first|exact hk|exact hsub _ _ hk) (by omega) (by omega) (by omega)) ?_
 ·try simp+decide only[gv,qJ,VO,Ka,qy]at hg
  simp+decide only[evs,ev,VO,Ka,hg,Qy,Be,Kc,Vj]
 simp+decide only[putD,VM,VO,Ka,gv,qJ,qy];refine qfw (V:= .bool (p (Qo s (i+((k:Int)+n))))) (f:=_) (cap:=_) (xs:=_) (by first|rfl|(simp+decide only[gv,qJ,VO,Ka,QZ,qI])) (fun hg=>⟨by(try simp+decide only[gv,qJ,VO,Ka,qy]at hg);simp+decide only[ev,VO,Ka,hg,Qy];try rfl,?_⟩) (by first|trivial|(simp+decide only[Bb,Xu,and_true,true_and,QA,Uk,YR,qfi,nxA,nxR,Vd,JJ];done)|(simp[Bb,Xu,Bd];done)) (fun hg g hsub=>hf _ _) ?_
 ·try simp+decide only[gv,qJ,VO,Ka,qy]at hg
  simp+decide only[evs,ev,VO,Ka,hg,Qy,Be,Kc,Vj]
 simp+decide only[Yl,ev,qH,qF,putD,VM,VO,VN,Ka,true_and,gv,qJ,qy,↓fp_pick,Qs,Qg,Xn,Xp];apply hK;clear hK K;refine qK (b:=_) rfl (fun hb1=>?_) (fun hb1=>?_)
 ·try simp only[decide_eq_true_eq,Kw]at hb1
  have h1:n<WG s (i+k) p:=hnx.2 ⟨by omega,by rw[<-hpk hb1.1];exact hb1.2⟩;refine qV ?_;change Awp _ _ _ _ _ _ _;refine Qp ?_;refine XL [0,1,2,7] (by rfl) ?_;simp+decide only[qa,ev,qH,qF,putD,VM,VO,VN,Ka,true_and,↓qh,qc,↓qA,ql,qC,cond_false,qp,Xc,↓qd,qb];try simp(disch:=omega)only[wrap_i64]
  try simp only[Qi,YO]
  exact⟨n+1,rfl,Vl _,h1,by omega⟩
 ·try simp only[decide_eq_false_iff_not,VP]at hb1
  refine XJ ?_;change Awp _ _ _ _ _ _ _;refine awp_rseq [6] (by rfl) fun K hK=>?_;simp+decide only[qa,ev,putD,VM,VO,VN,Ka,true_and,↓qh,qc,↓qd,qb];apply hK;clear hK K;refine qN ?_;refine qW h zqC (qR (Qa)) ?_;simp+decide only[VO,if_true,and_true,Ql];rw[show n=WG s (i+k) p by
   by_cases e:n<WG s (i+k) p
   ·have:=hnx.1 e
    have h2:(i:Int)+k+n<s.length:=by omega
    rcases hb1 with q|q
    ·omega
    ·rw[hpk h2,this.2]at q
     cases q
   ·omega]
theorem c_sep(wz:World)(h:AHeap)(b:UInt8):ACall Tryz.prog wz 106 [.int .u8 b.toNat] h (fun v h'=>v= .bool (qoc b)/\h'=h):=by
 refine qP (n:=9) (rs:=[.tmp 2]) Tryz.func106 rfl rfl rfl rfl (VL rfl) ?_;simp only[Qd];refine awp_rseq [0] (by rfl) fun K hK=>?_;simp+decide only[qa,ev,qH,qF,putD,VM,VN,Ka,true_and,↓qd,qb];apply hK;clear hK K;refine awp_rseq [2] (by rfl) fun K hK=>?_;simp+decide only[qa,ev,qH,qF,putD,VM,VO,VN,Ka,true_and,↓qh,qc,↓qA,ql,qC,cond_false,qp,XH,↓Xe,agP,Qt,qJ,qI,Qe,implies_true,↓Xb,XZ,Za,↓QR,Qs,Qg,XO,ZF,↓qd,qb];apply hK;clear hK K;refine qN ?_;refine qW _ (Vl _) (qR (Qa)) ?_;simp+decide only[VO,if_true,and_true,Ql];have e1:decide ((b.toNat:Int)=44)=decide (b=44):=decide_eq_decide.2 (iff_of_eq (Zg b 44));have e2:decide ((b.toNat:Int)=59)=decide (b=59):=decide_eq_decide.2 (iff_of_eq (Zg b 59));unfold qoc;rw[e1,e2]
theorem qjy(wz:World)(h:AHeap)(v:AVal)(l:List Str)(x:Str)(hv:IsStrs wz h v l)(hn:l.length<=140737488355328):
 ACall Tryz.prog wz 53 [v, .str x] h (fun r h'=>r= .bool (l.contains x)/\h'=h):=by
 intro fi vals w hr hvs;simp only[VRs,VR]at hvs;obtain⟨u,vs',rfl,hu,u2,vs2,rfl,rfl,rfl⟩:=hvs;have fin:∀{R:Ending->World->Prop},Calls Tryz.prog 53 #[u, .string ⟨⟨x⟩⟩] w R->(∀e w',R e w'->e= .returned (.bool (l.contains x))/\w'=w)->
  Lands Tryz.prog 53 [u, .string ⟨⟨x⟩⟩].toArray w fun v w'=>∃Ps y h',fi.le Ps/\HRel wz Ps h' w'/\VR Ps y v/\y= .bool (l.contains x)/\h'=h:=fun hc hq=>
  .inl ⟨_,Tryz.func53,rfl,rfl,hc.mono fun e w' hR=>⟨_,(hq e w' hR).1,fi, .bool (l.contains x),h,fi.le_refl,hr.later (by rw[(hq e w' hR).2];exact Below.refl _ _),rfl,rfl,rfl⟩⟩
 obtain⟨xs,hxs⟩:∃xs,xs=l.map fun s=>[AVal.str s]:=⟨_,rfl⟩
 unfold IsStrs at hv;rw[<-hxs]at hv;cases hv with
 |nil=>
  have e0:l=[]:=VU.1 hxs.symm;subst e0;simp only[VR]at hu;subst hu;exact fin (Bf none 0 ⟨⟨x⟩⟩ w) fun e w' ⟨e1,e2⟩=>⟨e1,e2⟩
 |mk lc o n c xs hn' hw hc hlv hcap=>
  subst hxs;rw[Jo]at hn';subst hn';obtain⟨a,cp,rfl,ha⟩:=Yi hu;by_cases h0:l.length=0
  ·have e0:l=[]:=Ke h0
   subst e0;exact fin (Bf (some a) cp ⟨⟨x⟩⟩ w) fun e w' ⟨e1,e2⟩=>⟨e1,e2⟩
  ·have ha':=ha h0
   obtain⟨us,u1,u2,u3⟩:=qdo hr lc (l.length*1) o a ha' (by rw[hc];exact hlv);rw[hc,qeM]at u2;have hus:=qjV u2;have has:=qge ha';have hcell:∀j,j<(l.map fun x=>(⟨⟨x⟩⟩:ByteArray)).length->w.cell? ⟨a.block,a.off+j,none⟩=some (.string ((l.map fun x=>(⟨⟨x⟩⟩:ByteArray)).getD j ByteArray.empty)):=fun j hj=>by
    rw[Jo]at hj;have:=u3 j (.string ⟨⟨l[j]⟩⟩) (by rw[hus];simp[hj]);rw[has]at this;rw[show(l.map fun x=>(⟨⟨x⟩⟩:ByteArray)).getD j ByteArray.empty=⟨⟨l[j]⟩⟩ by simp[Kn,hj]];by_cases hj0:j=0
    ·subst hj0
     simpa[Addr.add]using this
    ·simpa[Addr.add,hj0]using this
   have hj:=Tryz.slices_Contains_string a.block a.off l.length cp (l.map fun x=>(⟨⟨x⟩⟩:ByteArray)) ⟨⟨x⟩⟩ w (by rw[Jo];exact KJ _) (by omega) hcell;rw[<-has]at hj;refine fin hj fun e w' ⟨e1,e2⟩=>⟨?_,e2⟩
   rw[e1,Jq (by rw[Jo];exact KJ _)];congr 2;rw[Kz,Lib.containsS_iff,JG,JW];constructor
   ·rintro⟨y,hy,e⟩
    have:y=x:=congrArg (fun z:ByteArray=>z.data.toList) e
    rwa [this]at hy
   ·intro hy
    exact⟨x,hy,rfl⟩
def ZC:TokC:=⟨0,[],0,0,false⟩
theorem qsz{l:List TokC}{n:Nat}{ws:List Str}(hn:0<n)(h:l.length<n):qbv l n ws=false:=by
 unfold qbv;rw[Kq (by rw[V4];omega)]
theorem qsA{l:List TokC}{n:Nat}{ws:List Str}(hn:0<n)(h:n<=l.length):qbv l n ws=(decide ((l.getD (l.length-n) ZC).kind=1) && ws.contains (l.getD (l.length-n) ZC).text):=by
 unfold qbv;rw[List.getElem?_reverse (by omega),show l.length-1-(n-1)=l.length-n by omega,Jz (by omega)];simp[Kn,show l.length-n<l.length by omega]
theorem c_wordLo(wz:World)(h:AHeap)(kx:Nat)(lf:Bool)(s:Str)(mv tv:AVal)(i:Int)(l:List TokC)(n:Nat)(v:AVal)(hv:v.live=true)(hk:h kx=some ⟨[.bool lf, .str s,mv, .int .i64 i,tv],0⟩)(ht:IsL wz h 5 tv (l.map QJ))(hn:l.length<n)(hn':n<=1000000):
 ACall Tryz.prog wz 129 [.ptr (.own kx) 0, .int .i64 n,v] h (fun r h'=>r= .bool false/\h'=h):=by
 have rx:=fun o=>Qz wz hk o;have hlv:=ht.live;have hlen:=ht.len Tryz.underlying26;rw[Jo]at hlen;have hneg:¬(0<=(l.length:Int)-n):=by omega
 refine qP (n:=40) (rs:=[.tmp 6]) Tryz.func129 rfl rfl rfl rfl (VL rfl) ?_;simp only[Qd];refine awp_rseq [0,1,2] (by rfl) fun K hK=>?_;simp+decide only[qa,ev,qH,qF,putD,VM,VN,Ka,true_and,↓qd,qb,Jr,Nat.reduceAdd];apply hK;clear hK K;refine awp_rseq [0,2,7] (by rfl) fun K hK=>?_;simp+decide only[qa,ev,putD,VM,VO,VN,Ka,true_and,↓qh,qc,↓Qj,qO,Qm,↓qD,qm,qdk,↓qG,Qb,qz UJ,↓Xt,QD,↓qA,ql,qZ,cond_false,qp,qad,↓qd,qb,VX,Km,Jr,rx,hlv,hlen];try simp(disch:=omega)only[wrap_i64]
 apply hK;clear hK K;refine awp_rseq [6] (by kernel_rfl) fun K hK=>?_;simp+decide only[ev,qH,qF,putD,VM,VO,Ka,true_and,↓qh,qc,↓qA,ql,qC,cond_false,qp,qav,↓Xe,agP,Qt,qJ,qI,qy,implies_true,decide_false,ZM,false_implies,qdT,qso,↓Ym,qO,↓XI,qm,↓Zy,Zd,↓Yh,↓Xb,↓QR,Qs,Qg,hneg]
 (refine UN (by rfl) (by rfl) ?_)
 simp+decide only[qa,ev,qH,qF,putD,VM,VO,VN,Ka,true_and,↓QR,Qs,Qg,↓qd,qb];apply hK;clear hK K;refine qN ?_;refine qW h zqC (qR (Qa)) ?_;simp+decide only[VO,if_true,and_true,Ql];all_goals first|rfl|exact⟨rfl,rfl⟩|(simp+decide only[Ka, *];done)|(trace_state;fail)
end Go.Proofs.YtlhhaagmakhilaaGreatDoor
namespace Go.Proofs.YtlhhaagmakhilaaGreatDoor
open Go.AM
open Go.Proofs
open Go.Col
open Go.Tok
open Go.RowKit (Below)
set_option maxRecDepth 100000
theorem qca(wz:World)(h:AHeap)(kx:Nat)(lf:Bool)(s:Str)(mv tv:AVal)(i:Nat)(hk:h kx=some ⟨[.bool lf, .str s,mv, .int .i64 i,tv],0⟩)(i1:i<=4611686018427387904):
 ACall Tryz.prog wz 105 [.ptr (.own kx) 0, .int .i64 0] h (fun v h'=>v= .int .u8 (Qo s i).toNat/\h'=h):=by
 have:=Ut wz h kx lf s mv tv i 0 hk i1 (by omega) (by omega)
 rwa [Int.add_zero]at this
theorem c_run0(wz:World)(h:AHeap)(kx:Nat)(lf:Bool)(s:Str)(mv tv:AVal)(i:Nat)(f:FuncId)(p:UInt8->Bool)(hf:IsFn wz f p)(hk:h kx=some ⟨[.bool lf, .str s,mv, .int .i64 i,tv],0⟩)(i1:i<=1099511627776)(hs:s.length<=1099511627776):
 ACall Tryz.prog wz 132 [.ptr (.own kx) 0, .int .i64 0, .func f []] h (fun v h'=>v= .int .i64 (WG s i p)/\h'=h):=by
 have:=c_run wz h kx lf s mv tv i 0 f p hf hk i1 (by omega) hs
 rwa [K6]at this
theorem c_wordHi(wz:World)(h:AHeap)(kx:Nat)(lf:Bool)(s:Str)(mv tv:AVal)(i:Int)(l:List TokC)(n:Nat)(v:AVal)(ws:List Str)(hv:IsStrs wz h v ws)(hws:ws.length<=1000)(hk:h kx=some ⟨[.bool lf, .str s,mv, .int .i64 i,tv],0⟩)(ht:IsL wz h 5 tv (l.map QJ))(hn0:0<n)(hn:n<=l.length)(hl:l.length<=1099511627776):
 ACall Tryz.prog wz 129 [.ptr (.own kx) 0, .int .i64 n,v] h (fun r h'=>r= .bool (qbv l n ws)/\h'=h):=by
 have rx:=fun o=>Qz wz hk o;have hvl:=hv.live;obtain⟨lc,o,c,e⟩:=ht.open (fun e=>by rw[VU]at e;subst e;simp at hn;omega);rw[Jo]at e;subst e;have hi:l.length-n<l.length:=by omega
 have he:=ht.elem (i:=l.length-n) (by rw[Jo];exact hi);rw[getD_map ZC hi]at he;simp only[qf,QJ,List.cons.injEq,and_true]at he;obtain⟨e0,e1,e2,e3,e4⟩:=he;have hpos:(0<=(l.length:Int)-n):=by omega
 have hix:((l.length:Int)-n).toNat=l.length-n:=by omega
 rw[qsA hn0 hn];obtain⟨t,htt⟩:∃t,t=l.getD (l.length-n) ZC:=⟨_,rfl⟩
 rw[<-htt]at e0 e1|-
 have ek:decide ((t.kind.toNat:Int)=1)=decide (t.kind=1):=decide_eq_decide.2 (iff_of_eq (Zg t.kind 1));refine qP (n:=40) (rs:=[.tmp 6]) Tryz.func129 rfl rfl rfl rfl (VL rfl) ?_;simp only[Qd];refine awp_rseq [0,1,2] (by rfl) fun K hK=>?_;simp+decide only[qa,ev,qH,qF,putD,VM,VN,Ka,true_and,↓qd,qb,Jr,Nat.reduceAdd];apply hK;clear hK K;refine awp_rseq [0,2,7] (by rfl) fun K hK=>?_;simp+decide only[qa,ev,putD,VM,VO,VN,Ka,true_and,↓qh,qc,↓Qj,qO,Qm,↓qD,qm,qdk,↓qG,Qb,qz UJ,↓Xt,QD,ZK Tryz.underlying26,↓qA,ql,qZ,cond_false,qp,qad,↓qd,qb,VX,Km,Jr,qaf,rx];try simp(disch:=omega)only[wrap_i64]
 apply hK;clear hK K;refine awp_rseq [6] (by kernel_rfl) fun K hK=>?_;simp+decide only[ev,qH,qF,putD,VM,VO,Ka,true_and,↓qh,qc,↓qA,ql,qC,cond_false,qp,qav,↓Xe,agP,Qt,qJ,qI,qy,implies_true,decide_true,Qy,forall_const,Vf,↓Ym,qO,Qm,qbM,qbN,↓XI,qm,qdk,ZH,ZI,↓Zy,Zd,Ud,qgL,qz UJ,↓Yh,agL_il1,agL_ir1,Qh Tryz.underlying26 QW,qjl,qz qsp,↓Xb,XH,↓QR,Qs,Qg,Xp,qag,qz ag9,VX,Km,Jr,qi,qE,qaf,rx,hpos,hix,K6,e0,e1,ek];repeat (with_reducible refine And.intro ?_ ?_;· first|trivial|omega|(intro hg;simp only[Kw,JV,Ji,VP,VQ,VS,decide_eq_true_eq,decide_eq_false_iff_not,XT]at hg;omega))
 (refine XW (V:= .bool (ws.contains t.text)) (f:=_) (cap:=_) (xs:=_) (by first|rfl|(simp+decide only[gv,qJ,VO,Ka,QZ,qI])) (fun hg=>⟨rfl,?_⟩) (fun hg=>qjy wz _ v ws t.text hv (by omega)) ?_;· (simp+decide only[gv,qJ,VO,Ka,qy]at hg;simp+decide only[evs,ev,VO,Ka,hg,Qy,Be,Kc,Vj]<;>try rfl))
 simp+decide only[qa,ev,qH,qF,putD,VM,VO,VN,Ka,true_and,gv,qJ,qy,↓QR,Qs,Qg,Xn,Xp,↓qd,qb];apply hK;clear hK K;refine qN ?_;refine qW h zqC (qR (Qa)) ?_;simp+decide only[VO,if_true,and_true,Ql];skip
theorem qjt(wz:World)(h:AHeap)(kx:Nat)(lf:Bool)(s:Str)(mv tv:AVal)(i:Int)(l:List TokC)(n:Nat)(v:AVal)(ws:List Str)(hv:IsStrs wz h v ws)(hws:ws.length<=1000)(hk:h kx=some ⟨[.bool lf, .str s,mv, .int .i64 i,tv],0⟩)(ht:IsL wz h 5 tv (l.map QJ))(hn0:0<n)(hn1:n<=1000)(hl:l.length<=1099511627776):
 ACall Tryz.prog wz 129 [.ptr (.own kx) 0, .int .i64 n,v] h (fun r h'=>r= .bool (qbv l n ws)/\h'=h):=by
 by_cases hn:n<=l.length
 ·exact c_wordHi wz h kx lf s mv tv i l n v ws hv hws hk ht hn0 hn hl
 ·rw[qsz hn0 (by omega)]
  exact c_wordLo wz h kx lf s mv tv i l n v hv.live hk ht (by omega) (by omega)
theorem qfS{wz:World}{h:AHeap}{k:Nat}{l:List Str}(hk:h k=some ⟨l.map AVal.str,0⟩):IsStrs wz h (.slice (.own k) 0 l.length (.exact l.length)) l:=by
 have:=V8 (wz:=wz) (es:=1) (xs:=l.map fun s=>[AVal.str s]) hk (by simp) (by rw[qeM]) (by rw[Yc];intro x hx;obtain⟨y,_,rfl⟩:=JG.1 hx;rfl) (.exact l.length) (by simp);rw[Jo]at this;exact this
theorem qnA(wz:World)(h:AHeap)(kx:Nat)(lf:Bool)(s:Str)(mv tv:AVal)(i:Int)(l:List TokC)(hk:h kx=some ⟨[.bool lf, .str s,mv, .int .i64 i,tv],0⟩)(ht:IsL wz h 5 tv (l.map QJ))(hl:l.length<=1099511627776)(hq:qbv l 1 [IS]=true):
 ACall Tryz.prog wz 104 [.ptr (.own kx) 0] h (fun r h'=>r= .tuple [.bool (ZN l).1, .bool (ZN l).2]/\h'=h):=by
 refine qP (n:=15) (rs:=[.tmp 2, .tmp 3]) Tryz.func104 rfl rfl rfl rfl (VL rfl) ?_;simp only[Qd];refine awp_rseq [0] (by rfl) fun K hK=>?_;simp+decide only[qa,ev,qH,qF,putD,VM,VN,Ka,true_and,↓qd,qb];apply hK;clear hK K;refine qL ?_;refine awp_rseq [0,6] (by rfl) fun K hK=>?_;simp+decide only[ev,putD,VM,VO,Ka,true_and,↓qh,qc];refine Qn (cs:=[.str PIC, .str Ww]) (by kernel_rfl) fun k1q1 hk1q1=>?_;try have hf_1q1:h k1q1=none:=by first|assumption|(simp only[V7]at hk1q1;simp only[hk1q1])
 refine qM (V:= .bool (qbv l 1 [PIC,Ww])) (by rfl) (by rfl) (qjt wz _ kx lf s mv tv i l 1 _ [PIC,Ww] (qfS (l:=[PIC,Ww]) (Vd _ _ _)) (by decide) ((Vg hk1q1) _ _ hk) (ht.mono (Vg hk1q1)) (by decide) (by decide) hl) ?_;simp+decide only[qa,putD,VM,VN,Ka];apply hK;clear hK K;refine qK (b:=_) rfl (fun hb1=>?_) (fun hb1=>?_)
 ·skip
  refine awp_rseq [2,3] (by rfl) fun K hK=>?_;simp+decide only[qa,ev,qH,qF,putD,VM,VN,Ka,true_and,↓qd,qb];apply hK;clear hK K;refine qN ?_;try simp only[Qf]
  refine qW h zqC (qR (qR (Qa))) ?_;simp+decide only[VO,Ka,and_true,WA];unfold ZN;rw[if_pos hb1]
 ·skip
  have hs1:Sub h (h.set k1q1 ⟨[.str PIC, .str Ww],0⟩):=Vg hk1q1;refine qV ?_;change Awp _ _ _ _ _ _ _;refine awp_rseq [2,3] (by rfl) fun K hK=>?_;simp+decide only[ev,putD,VM,VO,Ka,true_and,↓qh,qc];refine Qn (cs:=[.str IS]) (by kernel_rfl) fun k3q1 hk3q1=>?_;have ne_3q1_1q1:k3q1≠k1q1:=by simp only[V7]at hk3q1;simp only[hk3q1,ne_eq,not_false_eq_true]
  try have hf_3q1:h k3q1=none:=by first|assumption|(simp only[V7]at hk3q1;simp only[hk3q1])
  refine qM (V:= .bool true) (by rfl) (by rfl) (by rw[<-hq];exact qjt wz _ kx lf s mv tv i l 1 _ [IS] (qfS (l:=[IS]) (Vd _ _ _)) (by decide) ((hs1.trans (Vg hk3q1)) _ _ hk) (ht.mono (hs1.trans (Vg hk3q1))) (by decide) (by decide) hl) ?_;simp+decide only[ev,putD,VM,VO,Ka,true_and,↓qh,qc,↓Xe,agP,Qt,qJ,qI,qy,implies_true,Qy,Qy];refine ZY (by rfl) ?_;refine Qn (cs:=[.str PIC, .str Ww]) (by kernel_rfl) fun k3q5 hk3q5=>?_;have ne_3q5_1q1:k3q5≠k1q1:=by simp only[V7]at hk3q5;simp only[hk3q5,ne_eq,not_false_eq_true]
  have ne_3q5_3q1:k3q5≠k3q1:=by simp only[V7]at hk3q5;simp only[hk3q5,ne_eq,not_false_eq_true]
  try have hf_3q5:h k3q5=none:=by first|assumption|(simp only[V7]at hk3q5;simp only[hk3q5])
  refine ZY (by rfl) ?_;refine qM (V:= .bool (qbv l 2 [PIC,Ww])) (by rfl) (by rfl) (qjt wz _ kx lf s mv tv i l 2 _ [PIC,Ww] (qfS (l:=[PIC,Ww]) (Vd _ _ _)) (by decide) (((hs1.trans (Vg hk3q1)).trans (Vg hk3q5)) _ _ hk) (ht.mono ((hs1.trans (Vg hk3q1)).trans (Vg hk3q5))) (by decide) (by decide) hl) ?_;simp+decide only[qa,ev,qH,qF,putD,VM,VO,VN,Ka,true_and,↓QR,Qs,Qg,↓qd,qb,YI,cond_true];apply hK;clear hK K;refine qN ?_;refine qW h zqC (qR (qR (Qa))) ?_;simp+decide only[VO,Ka,and_true,WA];unfold ZN;rw[if_neg (by rw[hb1];decide),hq];rfl
theorem qnB(wz:World)(h:AHeap)(kx:Nat)(lf:Bool)(s:Str)(mv tv:AVal)(i:Int)(l:List TokC)(hk:h kx=some ⟨[.bool lf, .str s,mv, .int .i64 i,tv],0⟩)(ht:IsL wz h 5 tv (l.map QJ))(hl:l.length<=1099511627776)(hq:qbv l 1 [IS]=false):
 ACall Tryz.prog wz 104 [.ptr (.own kx) 0] h (fun r h'=>r= .tuple [.bool (ZN l).1, .bool (ZN l).2]/\h'=h):=by
 refine qP (n:=15) (rs:=[.tmp 2, .tmp 3]) Tryz.func104 rfl rfl rfl rfl (VL rfl) ?_;simp only[Qd];refine awp_rseq [0] (by rfl) fun K hK=>?_;simp+decide only[qa,ev,qH,qF,putD,VM,VN,Ka,true_and,↓qd,qb];apply hK;clear hK K;refine qL ?_;refine awp_rseq [0,6] (by rfl) fun K hK=>?_;simp+decide only[ev,putD,VM,VO,Ka,true_and,↓qh,qc];refine Qn (cs:=[.str PIC, .str Ww]) (by kernel_rfl) fun k1q1 hk1q1=>?_;try have hf_1q1:h k1q1=none:=by first|assumption|(simp only[V7]at hk1q1;simp only[hk1q1])
 refine qM (V:= .bool (qbv l 1 [PIC,Ww])) (by rfl) (by rfl) (qjt wz _ kx lf s mv tv i l 1 _ [PIC,Ww] (qfS (l:=[PIC,Ww]) (Vd _ _ _)) (by decide) ((Vg hk1q1) _ _ hk) (ht.mono (Vg hk1q1)) (by decide) (by decide) hl) ?_;simp+decide only[qa,putD,VM,VN,Ka];apply hK;clear hK K;refine qK (b:=_) rfl (fun hb1=>?_) (fun hb1=>?_)
 ·skip
  refine awp_rseq [2,3] (by rfl) fun K hK=>?_;simp+decide only[qa,ev,qH,qF,putD,VM,VN,Ka,true_and,↓qd,qb];apply hK;clear hK K;refine qN ?_;try simp only[Qf]
  refine qW h zqC (qR (qR (Qa))) ?_;simp+decide only[VO,Ka,and_true,WA];unfold ZN;rw[if_pos hb1]
 ·skip
  have hs1:Sub h (h.set k1q1 ⟨[.str PIC, .str Ww],0⟩):=Vg hk1q1;refine qV ?_;change Awp _ _ _ _ _ _ _;refine awp_rseq [2,3] (by rfl) fun K hK=>?_;simp+decide only[ev,putD,VM,VO,Ka,true_and,↓qh,qc];refine Qn (cs:=[.str IS]) (by kernel_rfl) fun k3q1 hk3q1=>?_;have ne_3q1_1q1:k3q1≠k1q1:=by simp only[V7]at hk3q1;simp only[hk3q1,ne_eq,not_false_eq_true]
  try have hf_3q1:h k3q1=none:=by first|assumption|(simp only[V7]at hk3q1;simp only[hk3q1])
  refine qM (V:= .bool false) (by rfl) (by rfl) (by rw[<-hq];exact qjt wz _ kx lf s mv tv i l 1 _ [IS] (qfS (l:=[IS]) (Vd _ _ _)) (by decide) ((hs1.trans (Vg hk3q1)) _ _ hk) (ht.mono (hs1.trans (Vg hk3q1))) (by decide) (by decide) hl) ?_;simp+decide only[ev,putD,VM,VO,Ka,true_and,↓qh,qc,↓Xe,agP,Qt,qJ,qI,qy,implies_true,ZM];refine UN (by rfl) (by rfl) ?_;try simp+decide only[putD,VM,if_false]
  (refine UN (by rfl) (by rfl) ?_)
  simp+decide only[qa,ev,qH,qF,putD,VM,VO,VN,Ka,true_and,↓QR,Qs,Qg,↓qd,qb];apply hK;clear hK K;refine qN ?_;refine qW h zqC (qR (qR (Qa))) ?_;simp+decide only[VO,Ka,and_true,WA];unfold ZN;rw[if_neg (by rw[hb1];decide),hq];rfl
theorem qju(wz:World)(h:AHeap)(kx:Nat)(lf:Bool)(s:Str)(mv tv:AVal)(i:Int)(l:List TokC)(hk:h kx=some ⟨[.bool lf, .str s,mv, .int .i64 i,tv],0⟩)(ht:IsL wz h 5 tv (l.map QJ))(hl:l.length<=1099511627776):
 ACall Tryz.prog wz 104 [.ptr (.own kx) 0] h (fun r h'=>r= .tuple [.bool (ZN l).1, .bool (ZN l).2]/\h'=h):=by
 cases hq:qbv l 1 [IS]with
 |true=>exact qnA wz h kx lf s mv tv i l hk ht hl hq
 |false=>exact qnB wz h kx lf s mv tv i l hk ht hl hq
theorem qeT(wz:World)(h:AHeap)(kx:Nat)(lf:Bool)(s:Str)(mv tv:AVal)(i n:Nat)(kd:UInt8)(eb_x:h kx=some ⟨[.bool lf, .str s,mv, .int .i64 i,tv],0⟩)(hn:i+n<=s.length)(hs:s.length<=1099511627776):
 ACall Tryz.prog wz 109 [.ptr (.own kx) 0, .int .u8 kd.toNat, .int .i64 n] h (fun r h'=>r=nxR (takeE s i kd n)/\h'=h):=by
 have hs_h:Sub h h:=Vl h;have hin:((i:Int)+n).toNat=i+n:=by omega
 have hid:i+n-i=n:=by omega
 refine qP (n:=28) (rs:=[.cell 6 54, .tmp 7, .tmp 8]) Tryz.func109 rfl rfl rfl rfl (VL rfl) ?_;simp only[Qd];refine awp_rseq [0,1,2,6] (by rfl) fun K hK=>?_;refine Qk UO (cs:=[.int .u8 0, .str [], .int .i64 0, .int .i64 0, .bool false]) (by rfl) fun k0q0 hk0q0=>?_;have hn_0q0:h k0q0=none:=by first|assumption|(simp only[V7]at hk0q0;simp only[hk0q0])
 have hf_0q0:h k0q0=none:=Bg hs_h hn_0q0;have ne_0q0_x:k0q0≠kx:=Bh hn_0q0 eb_x;simp+decide only[qa,ev,qH,qF,putD,VM,VN,Ka,true_and,↓qd,qb,Jr,Nat.reduceAdd];apply hK;clear hK K;refine YM 19 [18] [6,7,8] mixed (by kernel_rfl) (by rfl) fun K hK=>?_;simp only[Kh,V6,VB,KP];simp+decide only[Yl,ev,qH,qF,putD,VM,VO,Ka,true_and,↓XD,qc,↓WI,qO,Qm,↓ZG,qm,Ue,We,↓Zn,Xz,qz ag9,Wv,qz ag3,↓qec,ql,qZ,cond_false,qp,Xc,↓qni,Zt,evO,qfp Tryz.underlying9,qaH,UH,↓Un,↓qY,UA,evP,Kc,Vj,QL,ne_eq,not_false_eq_true,ne_0q0_x.symm,Qz wz eb_x,VX,Km,Jr,qi,qE,Vq];try simp(disch:=omega)only[wrap_i64]
 repeat (with_reducible refine And.intro ?_ ?_;· first|trivial|omega|(intro hg;simp only[Kw,JV,Ji,VP,VQ,VS,decide_eq_true_eq,decide_eq_false_iff_not,XT]at hg;omega))
 refine qo (by rfl) (by rfl) zqA QW (by rfl) (by rfl) zqD (Js _) (by rfl) ?_;simp only[Vh,VV];simp+decide only[qa,ev,qH,qF,putD,VM,VO,VN,Ka,true_and,↓qd,qb,setAt,VW,Ki,Jr,Nat.reduceAdd,hin,hid];apply hK;clear hK K;refine qN ?_;refine qW h zqC (?_) ?_
 ·simp+decide only[QC,qw,qj,VO,Ka,and_true,qw,qj,qg XY QW,Qc,qf,VX,Km,Jr,Nat.reduceAdd,qB,qi,qE,allLive,JS,qf,VX,Km,Jr,Nat.reduceAdd,qB,qi,qE,allLive,JS]
 simp+decide only[VO,Ka,and_true,QF,qw,qj,qg XY QW,Qc,qf,VX,Km,Jr,Nat.reduceAdd,qB,qi,qE,allLive,JS,qf,VX,Km,Jr,Nat.reduceAdd,qB,qi,qE,allLive,JS,nxA,nxR];all_goals first|rfl|exact⟨rfl,rfl⟩|(simp+decide only[Ka, *];done)|(trace_state;fail)
theorem c_skip(wz:World)(h:AHeap)(kx:Nat)(lf:Bool)(s:Str)(mv tv:AVal)(i:Nat)(l:List TokC)(hk:h kx=some ⟨[.bool lf, .str s,mv, .int .i64 i,tv],0⟩)(ht:IsL wz h 5 tv (l.map QJ))(htx:∀c,IsL wz (h.set kx c) 5 tv (l.map QJ))(hl:l.length<=1099511627776)(hs:s.length<=1099511627776)(hi:i<=s.length):
 ACall Tryz.prog wz 82 [.ptr (.own kx) 0] h (fun r h'=>r= .bool (decide (ZR s (ZN l).1 i<s.length))/\h'=h.set kx ⟨[.bool lf, .str s,mv, .int .i64 (ZR s (ZN l).1 i),tv],0⟩):=by
 obtain⟨j,hj⟩:∃j,j=ZR s (ZN l).1 i:=⟨_,rfl⟩
 have hjl:=qmC s (ZN l).1 i hi;rw[<-hj]at hjl|-
 refine qP (n:=56) (rs:=[.tmp 2]) Tryz.func82 rfl rfl rfl rfl (VL rfl) ?_;simp only[Qd];refine awp_rseq [0] (by rfl) fun K hK=>?_;simp+decide only[qa,ev,qH,qF,putD,VM,VN,Ka,true_and,↓qd,qb];apply hK;clear hK K;refine qlc ?_;refine awp_rseq [0,3] (by rfl) fun K hK=>?_;simp+decide only[ev,putD,VM,VO,Ka,true_and,↓qh,qc];refine qM (V:= .tuple [.bool (ZN l).1, .bool (ZN l).2]) (by rfl) (by rfl) (qju wz _ kx lf s mv tv i l hk ht hl) ?_;simp+decide only[qa,ev,putD,VM,VO,VN,Ka,true_and,↓qh,qc,↓QV,QI,QT,KX,J8,VX,Km,↓qd,qb,VX,Km,Jr,Nat.reduceAdd];apply hK;clear hK K;refine qL ?_;refine qld ?_;change Awp _ _ _ _ _ _ _;refine qL ?_;refine Qp ?_;refine XE [0,3] (fun m:Nat=>[(0, .ptr (.own kx) 0),(3, .bool (ZN l).1)]) (fun m:Nat=>h.set kx ⟨[.bool lf, .str s,mv, .int .i64 m,tv],0⟩) (fun m:Nat=>m<=s.length/\ZR s (ZN l).1 m=j) (fun m:Nat=>s.length-m) i (by rfl) (by rw[YB hk];exact Vl _) ⟨hi,hj.symm⟩ ?_;rintro m ⟨hm1,hm2⟩;have hkm:=Vd h kx ⟨[.bool lf, .str s,mv, .int .i64 m,tv],0⟩;have rx:=fun o=>Qz wz hkm o;refine qL ?_;refine Zj [0,3,20] mixed (by kernel_rfl) (by rfl) (by rfl) fun K hK=>?_;simp+decide only[qa,ev,putD,VM,VO,VN,Ka,true_and,↓qh,qc,↓Qj,qO,Qm,↓qD,qm,Wv,↓qG,Qb,qz ag3,Ue,We,qz ag9,↓Xt,QD,YW Tryz.underlying9,↓qA,ql,qZ,cond_false,qp,Zc,VX,Km,Jr,qi,qE,rx];apply hK;clear hK K;refine qK (b:=_) rfl (fun hb1=>?_) (fun hb1=>?_)
 ·try simp only[decide_eq_true_eq]at hb1
  have hml:m<s.length:=by omega
  refine qV ?_;change Awp _ _ _ _ _ _ _;refine Qp ?_;refine qL ?_;refine Qp ?_;refine awp_rseq [0,3,21] (by rfl) fun K hK=>?_;simp+decide only[ev,putD,VM,VO,Ka,true_and,↓qh,qc];refine qM (V:= .int .u8 (Qo s m).toNat) (by rfl) (by rfl) (qca wz _ kx lf s mv tv m hkm (by omega)) ?_;simp+decide only[qa,ev,qH,qF,putD,VM,VO,VN,Ka,true_and,↓qA,ql,qC,cond_false,qp,XH,↓qd,qb];apply hK;clear hK K;refine qK (b:=_) rfl (fun hb2=>?_) (fun hb2=>?_)
  ·try simp only[decide_eq_true_eq]at hb2
   refine qV ?_;change Awp _ _ _ _ _ _ _;refine XL [0,3] (by rfl) ?_;simp+decide only[ev,qH,qF,putD,VM,VO,Ka,true_and,↓qh,qc,↓Qj,qO,Qm,↓qD,qm,Wv,↓qG,Qb,qz ag3,↓qA,ql,qC,cond_false,qp,Xc,VX,Km,Jr,qi,rx];try simp(disch:=omega)only[wrap_i64]
   refine qo (by rfl) (by rfl) zqA sz3 (by rfl) (by rfl) zqD (Js _) (by rfl) ?_;simp only[Vh,VV];simp+decide only[qa,ev,putD,VO,VN,Ka,setAt,VW,Ki];try simp only[Qi,YO]
   refine⟨m+1,rfl,Vl _,⟨by omega,?_⟩,by omega⟩;rw[<-hm2,qas s (ZN l).1 m,if_neg (by omega),if_pos];unfold skp;first
   |exact .inl ((Zg _ 32).mp hb2)
   |exact .inr ⟨hb3.1.1,hb3.1.2,(Zg _ 32).mp hb3.2⟩
  ·try simp only[decide_eq_false_iff_not]at hb2
   refine awp_rseq [0,3,25] (by rfl) fun K hK=>?_;simp+decide only[ev,putD,VM,VO,Ka,true_and,↓qh,qc,↓Yz,XP,Yk,↓Xe,agP,Qt,qJ,qI,qy,implies_true]
   (refine XW (V:= .int .u8 (Qo s m).toNat) (f:=_) (cap:=_) (xs:=_) (by first|rfl|(simp+decide only[gv,qJ,VO,Ka,QZ,qI])) (fun hg=>⟨rfl,?_⟩) (fun hg=>qca wz _ kx lf s mv tv m hkm (by omega)) ?_;· (simp+decide only[gv,qJ,VO,Ka,qy]at hg;simp+decide only[evs,ev,VO,Ka,hg,Qy,Be,Kc,Vj,qH,qF]<;>try rfl))
   try simp+decide only[putD,VM,VO,Ka,gv,qJ,qy]
   (refine XW (V:= .bool (qoc (Qo s m))) (f:=_) (cap:=_) (xs:=_) (by first|rfl|(simp+decide only[gv,qJ,VO,Ka,QZ,qI])) (fun hg=>⟨rfl,?_⟩) (fun hg=>c_sep wz _ _) ?_;· (simp+decide only[gv,qJ,VO,Ka,qy]at hg;simp+decide only[evs,ev,VO,Ka,hg,Qy,Be,Kc,Vj]<;>try rfl))
   simp+decide only[ev,qH,qF,putD,VM,VO,Ka,true_and,gv,qJ,qy,↓QR,Qs,Qg,Xn,Xp,↓qh,qc,↓Xe,agP,Qt,qI,implies_true]
   (refine XW (V:= .int .u8 (Qo s (m+1)).toNat) (f:=_) (cap:=_) (xs:=_) (by first|rfl|(simp+decide only[gv,qJ,VO,Ka,QZ,qI])) (fun hg=>⟨rfl,?_⟩) (fun hg=>Ut wz _ kx lf s mv tv m 1 hkm (by omega) (by omega) (by omega)) ?_;· (simp+decide only[gv,qJ,VO,Ka,qy]at hg;simp+decide only[evs,ev,VO,Ka,hg,Qy,Be,Kc,Vj,qH,qF]<;>try rfl))
   simp+decide only[qa,ev,qH,qF,putD,VM,VO,VN,Ka,true_and,gv,qJ,qy,↓Xb,ql,agP,Qt,qI,implies_true,qC,cond_false,XZ,Za,qp,XH,↓QR,Qs,Qg,Xn,Xp,↓qd,qb];apply hK;clear hK K;refine qK (b:=_) rfl (fun hb3=>?_) (fun hb3=>?_)
   ·try simp only[decide_eq_true_eq,Ji,Kw]at hb3
    refine qV ?_;change Awp _ _ _ _ _ _ _;refine XL [0,3] (by rfl) ?_;simp+decide only[ev,qH,qF,putD,VM,VO,Ka,true_and,↓qh,qc,↓Qj,qO,Qm,↓qD,qm,Wv,↓qG,Qb,qz ag3,↓qA,ql,qC,cond_false,qp,Xc,VX,Km,Jr,qi,rx];try simp(disch:=omega)only[wrap_i64]
    refine qo (by rfl) (by rfl) zqA sz3 (by rfl) (by rfl) zqD (Js _) (by rfl) ?_;simp only[Vh,VV];simp+decide only[qa,ev,putD,VO,VN,Ka,setAt,VW,Ki];try simp only[Qi,YO]
    refine⟨m+1,rfl,Vl _,⟨by omega,?_⟩,by omega⟩;rw[<-hm2,qas s (ZN l).1 m,if_neg (by omega),if_pos];unfold skp;first
    |exact .inl ((Zg _ 32).mp hb2)
    |exact .inr ⟨hb3.1.1,hb3.1.2,(Zg _ 32).mp hb3.2⟩
   ·try simp only[decide_eq_false_iff_not,VS,VP]at hb3
    refine XJ ?_;change Awp _ _ _ _ _ _ _;refine Zj [2] mixed (by kernel_rfl) (by rfl) (by rfl) fun K hK=>?_;simp+decide only[qa,ev,putD,VM,VO,VN,Ka,true_and,↓qh,qc,↓Qj,qO,Qm,↓qD,qm,Wv,↓qG,Qb,qz ag3,Ue,We,qz ag9,↓Xt,QD,YW Tryz.underlying9,↓qA,ql,qZ,cond_false,qp,Zc,↓qd,qb,VX,Km,Jr,qi,qE,rx];apply hK;clear hK K;refine qN ?_;try simp only[Wd]
    refine QS (qR (Qa)) ?_;simp+decide only[VO,if_true,Ql];have hns:¬skp s (ZN l).1 m:=by
     unfold skp;rintro(q|⟨q1,q2,q3⟩)
     ·exact hb2 ((Zg _ 32).mpr q)
     ·rcases hb3 with(q|q)|q
      ·rw[q1]at q;cases q
      ·rw[q2]at q;cases q
      ·exact q ((Zg _ 32).mpr q3)
    have e:m=j:=by
     rw[<-hm2,qas,if_neg (by omega),if_neg hns]
    rw[e];exact⟨_,Vl _,by simp,rfl⟩
 ·try simp only[decide_eq_false_iff_not]at hb1
  refine XJ ?_;change Awp _ _ _ _ _ _ _;refine Zj [2] mixed (by kernel_rfl) (by rfl) (by rfl) fun K hK=>?_;simp+decide only[qa,ev,putD,VM,VO,VN,Ka,true_and,↓qh,qc,↓Qj,qO,Qm,↓qD,qm,Wv,↓qG,Qb,qz ag3,Ue,We,qz ag9,↓Xt,QD,YW Tryz.underlying9,↓qA,ql,qZ,cond_false,qp,Zc,↓qd,qb,VX,Km,Jr,qi,qE,rx];apply hK;clear hK K;refine qN ?_;try simp only[Wd]
  refine QS (qR (Qa)) ?_;simp+decide only[VO,if_true,Ql];have e:m=j:=by
   rw[<-hm2,qas,if_pos (by omega)]
  rw[e];exact⟨_,Vl _,by simp,rfl⟩
end Go.Proofs.YtlhhaagmakhilaaGreatDoor
namespace Go.Proofs.YtlhhaagmakhilaaGreatDoor
open Go.AM
open Go.Proofs
open Go.Col
open Go.Tok
open Go.RowKit (Below)
set_option maxRecDepth 100000
def tok0:List AVal:=[.int .u8 0, .str [], .int .i64 0, .int .i64 0, .bool false]
theorem qbJ:∀(s:Str) (c:UInt8),decide (0<=Lib.indexByte s c)=s.contains c
 |[],c=>rfl
 |b::s,c=>by
  have ih:=qbJ s c;rw[List.contains_cons,<-ih,Lib.indexByte];by_cases h:b=c
  ·subst h
   simp
  ·have h1:(b==c)=false:=by simp[h]
   have h2:(c==b)=false:=by simp[Ne.symm h]
   rw[h1,h2,if_neg (by decide),Bool.false_or];apply decide_eq_decide.2;by_cases e:Lib.indexByte s c= -1
   ·rw[e,if_pos (by decide)]
   ·rw[if_neg (by simpa using e)]
    have: -1<=Lib.indexByte s c:=by
     clear ih h h1 h2 e b;induction s with
     |nil=>show(-1:Int)<= -1;decide
     |cons b s ih=>
      rw[Lib.indexByte];split
      ·decide
      ·split
       ·decide
       ·omega
    omega
theorem c_hasQ(wz:World)(h:AHeap)(s:Str)(c:UInt8):ACall Tryz.prog wz 134 [.str s, .str [c]] h (fun v h'=>v= .bool (s.contains c)/\h'=h):=by
 refine ZW (vals:=[.string ⟨⟨s⟩⟩, .string ⟨⟨[c]⟩⟩]) (val:= .bool (s.contains c)) Tryz.func134 rfl rfl (fun fi vs hv=>qer hv) (fun fi=>rfl) fun w=>?_;refine(Tryz.strings_Contains_one ⟨⟨s⟩⟩ c w).mono fun e w' ⟨e1,e2⟩=>⟨?_,?_⟩
 ·rw[e1]
  show Ending.returned (.bool (decide (0<=Lib.indexByte s c)))=_
  rw[qbJ]
 ·subst e2;exact Go.RowKit.Below.refl _ _
theorem qoR(wz:World)(h:AHeap)(s g:Str):ACall Tryz.prog wz 95 [.str s, .str g] h (fun v h'=>v= .bool (g.isPrefixOf s)/\h'=h):=by
 refine ZW (vals:=[.string ⟨⟨s⟩⟩, .string ⟨⟨g⟩⟩]) (val:= .bool (g.isPrefixOf s)) Tryz.func95 rfl rfl (fun fi vs hv=>qer hv) (fun fi=>rfl) fun w=>?_;refine(Tryz.strings_HasPrefix ⟨⟨s⟩⟩ ⟨⟨g⟩⟩ w).mono fun e w' ⟨e1,e2⟩=>⟨e1,?_⟩
 subst e2;exact Go.RowKit.Below.refl _ _
theorem qpK(wz:World):IsFn wz 136 Yu:=fun g b=>qjw wz g b
theorem f_wordy(wz:World):IsFn wz 111 ZJ:=fun g b=>qgE wz g b
theorem f_ends(wz:World):IsFn wz 131 qao:=by
 intro h b;refine qP (n:=9) (rs:=[.tmp 2]) Tryz.func131 rfl rfl rfl rfl (VL rfl) ?_;simp only[Qd];refine awp_rseq [0] (by rfl) fun K hK=>?_;simp+decide only[qa,ev,qH,qF,putD,VM,VN,Ka,true_and,↓qd,qb];apply hK;clear hK K;refine awp_rseq [2] (by rfl) fun K hK=>?_;simp+decide only[ev,qH,qF,putD,VM,VO,Ka,true_and,↓qh,qc,↓qA,ql,qC,cond_false,qp,XH,↓Xe,agP,Qt,qJ,qI,Qe,implies_true]
 (refine XW (V:= .bool (qoc b)) (f:=_) (cap:=_) (xs:=_) (by first|rfl|(simp+decide only[gv,qJ,VO,Ka,QZ,qI])) (fun hg=>⟨rfl,?_⟩) (fun hg=>c_sep wz _ b) ?_;· (simp+decide only[gv,qJ,VO,Ka,Qe]at hg;simp+decide only[evs,ev,VO,Ka,hg,Qy,Be,Kc,Vj]<;>try rfl))
 simp+decide only[qa,ev,qH,qF,putD,VM,VO,VN,Ka,true_and,gv,qJ,Qe,↓QR,Qs,Qg,XO,ZF,↓qd,qb];apply hK;clear hK K;refine qN ?_;refine qW _ (Vl _) (qR (Qa)) ?_;simp+decide only[VO,if_true,and_true,Ql];have e1:decide ((b.toNat:Int)=46)=decide (b=46):=decide_eq_decide.2 (iff_of_eq (Zg b 46));unfold qao;rw[e1]
theorem f_nsp(wz:World):IsFn wz 133 (fun b=> !decide (b=32)):=by
 intro h b;refine qP (n:=5) (rs:=[.tmp 2]) Tryz.func133 rfl rfl rfl rfl (VL rfl) ?_;simp only[Qd];refine awp_rseq [0] (by rfl) fun K hK=>?_;simp+decide only[qa,ev,qH,qF,putD,VM,VN,Ka,true_and,↓qd,qb];apply hK;clear hK K;refine awp_rseq [2] (by rfl) fun K hK=>?_;simp+decide only[qa,ev,qH,qF,putD,VM,VO,VN,Ka,true_and,↓qh,qc,↓qA,ql,qC,cond_false,qp,qaP,↓qd,qb];apply hK;clear hK K;refine qN ?_;refine qW _ (Vl _) (qR (Qa)) ?_;simp+decide only[VO,if_true,and_true,Ql];have e1:decide ((b.toNat:Int)=32)=decide (b=32):=decide_eq_decide.2 (iff_of_eq (Zg b 32));rw[<-e1]
theorem qmP{s:Str}{i:Nat}{is:Bool}(hc:¬(is=true/\YE [Qo s i,Qo s (i+1)]=IS/\ZJ (Qo s (i+2))=false))(n0:Nat)(hn:n0=WG s i (fun b=> !decide (b=32)))(m:Nat)(hm:(m:Int)=if qao (Qo s ((i:Int)+n0-1))=true then(n0:Int)-1 else n0):
 YS s i is=if m=0\/qao (Qo s ((i:Int)+m-1))=true then .err 4 else if (YE ((s.drop i).take m)).contains 34=true then .err 4 else⟨4,YE ((s.drop i).take m),m,0⟩:=by
 unfold YS;rw[if_neg hc];simp only;rw[<-hn,<-hm,Vq];by_cases h0:m=0
 ·rw[if_pos (.inl (by omega)),if_pos (.inl h0)]
 ·by_cases h1:qao (Qo s ((i:Int)+m-1))=true
  ·rw[if_pos (.inr h1),if_pos (.inr h1)]
  ·have f1:¬((m:Int)=0\/qao (Qo s ((i:Int)+m-1))=true):=fun q=>q.elim (fun q=>h0 (by omega)) h1
   have f2:¬(m=0\/qao (Qo s ((i:Int)+m-1))=true):=fun q=>q.elim h0 h1;rw[if_neg f1,if_neg f2]
theorem qiL(wz:World)(h B:AHeap)(hs_B:Sub h B)(kx k0q0:Nat)(lf:Bool)(s:Str)(mv tv:AVal)(i:Nat)(is:Bool)(eb_x:B kx=some ⟨[.bool lf, .str s,mv, .int .i64 i,tv],0⟩)(eb_0q0:B k0q0=some ⟨tok0,0⟩)(hf_0q0:h k0q0=none)(ne_0q0_x:k0q0≠kx)(h32:Qo s i≠32)(hs:s.length<=1099511627776)
 (hc:¬(is=true/\YE [Qo s i,Qo s (i+1)]=IS/\ZJ (Qo s (i+2))=false)):
 Awp Tryz.prog wz 68 (UL 2 (qfC Tryz.f107)) (qdN Tryz.prog wz [.cell 4 54, .tmp 5, .tmp 6] ((fun r h'=>r=nxR (YS s i is)/\h'=h))) [(0, .ptr (.own kx) 0),(4, .ptr (.own k0q0) 0)] (B):=by
 have hi:=qbB h32;have hp:=qrc h32;have hrl:=qcZ s i (fun b=> !decide (b=32)) (by omega);obtain⟨n0,hn0⟩:∃n0,n0=WG s i (fun b=> !decide (b=32)):=⟨_,rfl⟩
 rw[<-hn0]at hp hrl;unfold tok0 at eb_0q0;change Awp _ _ _ (Code.seq _ _) _ _ _;refine awp_rseq [0,4,7] (by rfl) fun K hK=>?_;simp+decide only[qa,ev,putD,VM,VN,Ka,true_and,↓qd,qb];apply hK;clear hK K;refine awp_rseq [0,4,7,8] (by rfl) fun K hK=>?_;simp+decide only[ev,putD,VM,VO,Ka,true_and,↓qh,qc];refine qM (V:= .int .i64 n0) (by rfl) (by rfl) (by rw[hn0];exact c_run0 wz B kx lf s mv tv i _ _ (f_nsp wz) eb_x (by omega) hs) ?_;simp+decide only[qa,ev,putD,VM,VO,VN,Ka,true_and,↓qd,qb];apply hK;clear hK K;refine qL ?_;refine awp_rseq [0,4,7,8,36] (by rfl) fun K hK=>?_;simp+decide only[ev,qH,qF,putD,VM,VO,Ka,true_and,↓qh,qc,↓qA,ql,qC,cond_false,qp,qad];try simp(disch:=omega)only[wrap_i64]
 refine qM (V:= .int .u8 (Qo s ((i:Int)+n0-1)).toNat) (by rfl) (by rfl) (by have:=Ut wz B kx lf s mv tv i ((n0:Int)-1) eb_x (by omega) (by omega) (by omega);rwa [<-Bi]at this) ?_;refine qM (V:= .bool (qao (Qo s ((i:Int)+n0-1)))) (by rfl) (by rfl) (f_ends wz _ _) ?_;simp+decide only[qa,putD,VM,VN,Ka];apply hK;clear hK K;refine Ub [0,4,7,8] (fun m:Nat=>[(0, .ptr (.own kx) 0),(4, .ptr (.own k0q0) 0),(7, .func 131 []),(8, .int .i64 m)]) (fun m:Nat=>B) (fun m:Nat=>(m:Int)=if qao (Qo s ((i:Int)+n0-1))=true then(n0:Int)-1 else n0) ?_ ?_
 ·refine qK (b:=_) rfl (fun hb1=>?_) (fun hb1=>?_)
  ·skip
   refine XL [0,4,7,8] (by rfl) ?_;simp+decide only[qa,ev,qH,qF,putD,VM,VO,VN,Ka,true_and,↓qh,qc,↓qA,ql,qC,cond_false,qp,qad,↓qd,qb,nxA,nxR];try simp(disch:=omega)only[wrap_i64]
   try simp only[Qi]
   first
   |exact⟨n0-1,by rw[show((n0-1:Nat):Int)=(n0:Int)-1 by omega];rfl,Vl _,by rw[if_pos hb1];omega⟩
   |exact⟨n0,rfl,Vl _,by rw[if_neg (by rw[hb1];decide)]⟩
  ·skip
   refine qV ?_;try simp only[Qi]
   first
   |exact⟨n0-1,by rw[show((n0-1:Nat):Int)=(n0:Int)-1 by omega];rfl,Vl _,by rw[if_pos hb1];omega⟩
   |exact⟨n0,rfl,Vl _,by rw[if_neg (by rw[hb1];decide)]⟩
 ·intro m hm
  have hm1:m<=n0:=by
   have:(m:Int)<=n0:=by rw[hm];split<;>omega
   omega
  have hpe:=qmP hc n0 hn0 m hm;rw[hpe];refine qL ?_;refine awp_rseq [0,4,8,48] (by rfl) fun K hK=>?_;simp+decide only[ev,qH,qF,putD,VM,VO,Ka,true_and,↓qh,qc,↓qA,ql,qC,cond_false,qp,XH,↓Xe,agP,Qt,qJ,qI,Qe,implies_true,↓Xb,XZ,Za,qad];try simp(disch:=omega)only[wrap_i64]
  (refine XW (V:= .int .u8 (Qo s ((i:Int)+m-1)).toNat) (f:=_) (cap:=_) (xs:=_) (by first|rfl|(simp+decide only[gv,qJ,VO,Ka,QZ,qI])) (fun hg=>⟨rfl,?_⟩) (fun hg=>by have:=Ut wz B kx lf s mv tv i ((m:Int)-1) eb_x (by omega) (by omega) (by omega);rwa [<-Bi]at this) ?_;· (simp+decide only[gv,qJ,VO,Ka,Qe]at hg;simp+decide only[evs,ev,VO,Ka,hg,Qy,Be,Kc,Vj]<;>try rfl))
  try simp+decide only[putD,VM,VO,Ka,gv,qJ,Qe]
  (refine XW (V:= .bool (qao (Qo s ((i:Int)+m-1)))) (f:=_) (cap:=_) (xs:=_) (by first|rfl|(simp+decide only[gv,qJ,VO,Ka,QZ,qI])) (fun hg=>⟨by(try simp+decide only[gv,qJ,VO,Ka,Qe]at hg);simp+decide only[ev,VO,Ka,hg,Qy];try rfl,?_⟩) (fun hg=>f_ends wz _ _) ?_;· (simp+decide only[gv,qJ,VO,Ka,Qe]at hg;simp+decide only[evs,ev,VO,Ka,hg,Qy,Be,Kc,Vj]<;>try rfl))
  simp+decide only[qa,ev,qH,qF,putD,VM,VO,VN,Ka,true_and,gv,qJ,Qe,↓QR,Qs,Qg,XO,ZF];apply hK;clear hK K;refine qK (b:=_) rfl (fun hb2=>?_) (fun hb2=>?_)
  ·try simp only[decide_eq_true_eq,JV]at hb2
   have hb2':m=0\/qao (Qo s ((i:Int)+m-1))=true:=hb2.imp (fun q=>by omega) id;rw[if_pos hb2'];refine awp_rseq [4,5,6] (by rfl) fun K hK=>?_;simp+decide only[ev,qH,qF,putD,VM,VO,if_false,true_and,↓Qr,↓qY,qaV,evP,Vj];refine qo (by rfl) (by rfl) zqA QW (by rfl) (by rfl) zqD (Js _) (by rfl) ?_;simp only[VV];simp+decide only[qa,ev,qH,qF,putD,VM,VO,VN,Ka,true_and,↓qd,qb,setAt,VW,Ki,Jr,Nat.reduceAdd];apply hK;clear hK K;refine qN ?_;try simp only[Qf]
   refine qW h zqC (?_) ?_
   ·simp+decide only[QC,qw,qj,VO,Ka,and_true,qw,qj,qg XY QW,Qc,qf,VX,Km,Jr,Nat.reduceAdd,qB,qi,qE,allLive,JS,qf,VX,Km,Jr,Nat.reduceAdd,qB,qi,qE,allLive,JS]
   simp+decide only[VO,Ka,and_true,QF,qw,qj,qg XY QW,Qc,qf,VX,Km,Jr,Nat.reduceAdd,qB,qi,qE,allLive,JS,qf,VX,Km,Jr,Nat.reduceAdd,qB,qi,qE,allLive,JS,nxA,nxR];all_goals first|rfl|exact⟨rfl,rfl⟩|(simp+decide only[Ka, *];done)|(trace_state;fail)
  ·try simp only[decide_eq_false_iff_not,VQ]at hb2
   have hb2':¬(m=0\/qao (Qo s ((i:Int)+m-1))=true):=fun q=>q.elim (fun q=>hb2.1 (by omega)) (fun q=>by rw[hb2.2]at q;cases q);rw[if_neg hb2'];refine qV ?_;change Awp _ _ _ _ _ _ _;refine awp_rseq [4,8,9,10] (by rfl) fun K hK=>?_;simp+decide only[ev,putD,VM,VO,Ka,true_and,↓qh,qc];refine qM (V:=nxR (takeE s i 4 m)) (by rfl) (by rfl) (qeT wz B kx lf s mv tv i m 4 eb_x (by omega) hs) ?_;simp+decide only[ev,putD,VM,VO,Ka,true_and,↓qh,qc,↓QV,QI,QT,KX,J8,VX,Km,VX,Km,Jr,Nat.reduceAdd,nxA,nxR];refine Qk UO (cs:=[.int .u8 0, .str [], .int .i64 0, .int .i64 0, .bool false]) (by rfl) fun k9q7 hk9q7=>?_;have hn_9q7:B k9q7=none:=by first|assumption|(simp only[V7]at hk9q7;simp only[hk9q7])
   have hf_9q7:h k9q7=none:=Bg hs_B hn_9q7;have ne_9q7_x:k9q7≠kx:=Bh hn_9q7 eb_x;have ne_9q7_0q0:k9q7≠k0q0:=Bh hn_9q7 eb_0q0;refine qo (by rfl) (by rfl) zqA QW (by rfl) (by rfl) zqD (Js _) (by rfl) ?_;simp only[Vh,VV];simp+decide only[qa,ev,putD,VM,VO,VN,Ka,true_and,↓qd,qb,setAt,VW,Ki,Jr,Nat.reduceAdd];apply hK;clear hK K;refine awp_rseq [4,8,9,10] (by rfl) fun K hK=>?_;simp+decide only[ev,putD,VM,VO,Ka,true_and,↓qD,qm,qag,↓qG,Qb,qz ag9,QP,VX,Km,Jr,qE];refine qM (V:= .str (YE ((s.drop i).take m))) (by rfl) (by rfl) (by rw[<-qlJ];exact qoW wz _ ((s.drop i).take m) (by rw[K4];omega)) ?_;simp+decide only[ev,putD,VM,VO,Ka,true_and,↓qD,qm,qag,Jr];refine qo (by rfl) (by rfl) zqA sz9 (by rfl) (by rfl) zqD (Js _) (by rfl) ?_;simp only[Vh,VV];simp+decide only[qa,ev,putD,VO,VN,Ka,setAt,VW,Ki];apply hK;clear hK K;refine qL ?_;refine awp_rseq [4,8,9,10,63] (by rfl) fun K hK=>?_;simp+decide only[ev,putD,VM,VO,Ka,true_and,↓qD,qm,qag,↓qG,Qb,qz ag9,QP,VX,Km,Jr,qE];refine qM (V:= .bool ((YE ((s.drop i).take m)).contains 34)) (by rfl) (by rfl) (c_hasQ wz _ _ 34) ?_;simp+decide only[qa,putD,VM,VN,Ka];apply hK;clear hK K;refine qK (b:=_) rfl (fun hb3=>?_) (fun hb3=>?_)
   ·skip
    refine awp_rseq [4,5,6] (by rfl) fun K hK=>?_;simp+decide only[ev,qH,qF,putD,VM,VO,if_false,true_and,↓Qr,↓qY,qaV,evP,Vj];refine qo (by rfl) (by rfl) zqA QW (by rfl) (by rfl) zqD (Js _) (by rfl) ?_;simp only[VV];simp+decide only[qa,ev,qH,qF,putD,VM,VO,VN,Ka,true_and,↓qd,qb,setAt,VW,Ki,Jr,Nat.reduceAdd];apply hK;clear hK K;refine qN ?_;try simp only[Qf]
    refine qW h zqC (?_) ?_
    ·simp+decide only[QC,qw,qj,VO,Ka,and_true,qw,qj,qg XY QW,Qc,qf,VX,Km,Jr,Nat.reduceAdd,qB,qi,qE,allLive,JS,qf,VX,Km,Jr,Nat.reduceAdd,qB,qi,qE,allLive,JS]
    simp+decide only[VO,Ka,and_true,QF,qw,qj,qg XY QW,Qc,qf,VX,Km,Jr,Nat.reduceAdd,qB,qi,qE,allLive,JS,qf,VX,Km,Jr,Nat.reduceAdd,qB,qi,qE,allLive,JS,nxA,nxR];rw[if_pos hb3];rfl
   ·skip
    refine qV ?_;change Awp _ _ _ _ _ _ _;refine awp_rseq [4,5,6] (by rfl) fun K hK=>?_;simp+decide only[ev,putD,VM,VO,Ka,true_and,↓qG,Qb,qg XY QW,↓qh,qc,QP,qf,VX,Km,Jr,Nat.reduceAdd,qB,qi,qE,allLive,JS];refine qo (by rfl) (by rfl) zqA QW (by rfl) (by rfl) zqD (Js _) (by rfl) ?_;simp only[VV];simp+decide only[qa,ev,putD,VM,VO,VN,Ka,true_and,↓qd,qb,setAt,VW,Ki,Jr,Nat.reduceAdd];apply hK;clear hK K;refine qN ?_;refine qW h zqC (?_) ?_
    ·simp+decide only[QC,qw,qj,VO,Ka,and_true,qw,qj,qg XY QW,Qc,qf,VX,Km,Jr,Nat.reduceAdd,qB,qi,qE,allLive,JS,qf,VX,Km,Jr,Nat.reduceAdd,qB,qi,qE,allLive,JS]
    simp+decide only[VO,Ka,and_true,QF,qw,qj,qg XY QW,Qc,qf,VX,Km,Jr,Nat.reduceAdd,qB,qi,qE,allLive,JS,qf,VX,Km,Jr,Nat.reduceAdd,qB,qi,qE,allLive,JS,nxA,nxR];rw[if_neg (by rw[hb3];decide)];rfl
end Go.Proofs.YtlhhaagmakhilaaGreatDoor
namespace Go.Proofs.YtlhhaagmakhilaaGreatDoor
open Go.AM
open Go.Proofs
open Go.Col
open Go.Tok
open Go.RowKit (Below)
set_option maxRecDepth 100000
theorem qoT(wz:World)(h:AHeap)(kx:Nat)(lf:Bool)(s:Str)(mv tv:AVal)(i:Nat)(eb_x:h kx=some ⟨[.bool lf, .str s,mv, .int .i64 i,tv],0⟩)(h32:Qo s i≠32)(hs:s.length<=1099511627776):
 ACall Tryz.prog wz 107 [.ptr (.own kx) 0, .bool false] h (fun r h'=>r=nxR (YS s i false)/\h'=h):=by
 have hs_h:Sub h h:=Vl h;refine qP (n:=68) (rs:=[.cell 4 54, .tmp 5, .tmp 6]) Tryz.func107 rfl rfl rfl rfl (VL rfl) ?_;simp only[Qd];refine awp_rseq [0,1,4] (by rfl) fun K hK=>?_;refine Qk UO (cs:=[.int .u8 0, .str [], .int .i64 0, .int .i64 0, .bool false]) (by rfl) fun k0q0 hk0q0=>?_;have hn_0q0:h k0q0=none:=by first|assumption|(simp only[V7]at hk0q0;simp only[hk0q0])
 have hf_0q0:h k0q0=none:=Bg hs_h hn_0q0;have ne_0q0_x:k0q0≠kx:=Bh hn_0q0 eb_x;simp+decide only[qa,ev,qH,qF,putD,VM,VN,Ka,true_and,↓qd,qb,Jr];apply hK;clear hK K;refine qL ?_;refine awp_rseq [0,4,27] (by rfl) fun K hK=>?_;simp+decide only[ev,putD,VM,VO,Ka,true_and,↓qh,qc,↓Xe,agP,Qt,qJ,qI,qy,implies_true,ZM];refine UN (by rfl) (by rfl) ?_;simp+decide only[ev,putD,VM,VO,Ka,true_and,qJ,qy,↓Xe,qc,agP,Qt,qI,implies_true,ZM];refine UN (by rfl) (by rfl) ?_;try simp+decide only[putD,VM,if_false]
 refine UN (by rfl) (by rfl) ?_;try simp+decide only[putD,VM,if_false]
 refine UN (by rfl) (by rfl) ?_;try simp+decide only[putD,VM,if_false]
 refine UN (by rfl) (by rfl) ?_;simp+decide only[ev,qH,qF,putD,VM,VO,Ka,true_and,qJ,qy,↓Xb,ql,agP,Qt,qI,implies_true,ZM,false_implies,qdT,Wn,cond_false,↓QR,Qs,Qg,↓qh,qc,↓Xe]
 (refine UN (by rfl) (by rfl) ?_)
 try simp+decide only[putD,VM,if_false]
 (refine UN (by rfl) (by rfl) ?_)
 simp+decide only[qa,ev,qH,qF,putD,VM,VO,VN,Ka,true_and,qJ,qy,↓qcd,XP,agP,Qt,qI,ZM,false_implies,qdT,↓QR,Qs,Qg];apply hK;clear hK K;refine qK (b:=_) rfl (fun hb1=>?_) (fun hb1=>?_)
 ·exact absurd hb1 (by decide)
 ·try simp only at hb1
  refine qV ?_;change Awp _ _ _ _ _ _ _;refine Awp.keep [0,4] ?_;exact qiL wz h _ (Vg hk0q0) kx k0q0 lf s mv tv i false (zqA) (zqA) hk0q0 ne_0q0_x h32 hs (by rintro⟨q,_⟩;cases q)
theorem qoS(wz:World)(h:AHeap)(kx:Nat)(lf:Bool)(s:Str)(mv tv:AVal)(i:Nat)(eb_x:h kx=some ⟨[.bool lf, .str s,mv, .int .i64 i,tv],0⟩)(h32:Qo s i≠32)(hs:s.length<=1099511627776):
 ACall Tryz.prog wz 107 [.ptr (.own kx) 0, .bool true] h (fun r h'=>r=nxR (YS s i true)/\h'=h):=by
 have hs_h:Sub h h:=Vl h;have hi:=qbB h32;have hcv:=fun(h:AHeap) (k:Nat)=>(IsB.own (wz:=wz) (bs:=[Qo s i,Qo s (i+1)]) (f:=0) (n:=2) (Vd h k ⟨byteCells [Qo s i,Qo s (i+1)],0⟩) rfl (c:= .exact 2) (KJ 2)).conv Tryz.underlying22 Tryz.underlying9 Tryz.underlying5
 simp only[byteCells,Kc,Vj]at hcv;refine qP (n:=68) (rs:=[.cell 4 54, .tmp 5, .tmp 6]) Tryz.func107 rfl rfl rfl rfl (VL rfl) ?_;simp only[Qd];refine awp_rseq [0,1,4] (by rfl) fun K hK=>?_;refine Qk UO (cs:=[.int .u8 0, .str [], .int .i64 0, .int .i64 0, .bool false]) (by rfl) fun k0q0 hk0q0=>?_;have hn_0q0:h k0q0=none:=by first|assumption|(simp only[V7]at hk0q0;simp only[hk0q0])
 have hf_0q0:h k0q0=none:=Bg hs_h hn_0q0;have ne_0q0_x:k0q0≠kx:=Bh hn_0q0 eb_x;simp+decide only[qa,ev,qH,qF,putD,VM,VN,Ka,true_and,↓qd,qb,Jr];apply hK;clear hK K;refine qL ?_;refine awp_rseq [0,4,27] (by rfl) fun K hK=>?_;simp+decide only[ev,putD,VM,VO,Ka,true_and,↓qh,qc,↓Xe,agP,Qt,qJ,qI,qy,implies_true,Qy,Qy];refine ZY (by rfl) ?_;refine qM (V:= .int .u8 (Qo s i).toNat) (by rfl) (by rfl) (qca wz _ kx lf s mv tv i (zqA) (by omega)) ?_;simp+decide only[ev,putD,VM,VO,Ka,true_and,↓Xe,qc,agP,Qt,qJ,qI,qy,implies_true,Qy,Qy];refine ZY (by rfl) ?_;refine qM (V:= .int .u8 (Qo s (i+1)).toNat) (by rfl) (by rfl) (Ut wz _ kx lf s mv tv i 1 (zqA) (by omega) (by omega) (by omega)) ?_;refine ZY (by rfl) ?_;refine Qn (cs:=[.int .u8 (Qo s i).toNat, .int .u8 (Qo s (i+1)).toNat]) (by kernel_rfl) fun k1q6 hk1q6=>?_;have ne_1q6_0q0:k1q6≠k0q0:=by simp only[V7]at hk1q6;simp only[hk1q6,ne_eq,not_false_eq_true]
 have hn_1q6:h k1q6=none:=by first|assumption|(simp only[V7]at hk1q6;simp only[hk1q6])
 have hf_1q6:h k1q6=none:=Bg hs_h hn_1q6;have ne_1q6_x:k1q6≠kx:=Bh hn_1q6 eb_x;simp+decide only[ev,putD,VM,VO,Ka,true_and,↓qpl _ _ _ (es_str Tryz.underlying22 Tryz.underlying9),qdS,agP,Qt,qJ,qI,qy,implies_true,Qy,Qy,hcv];refine ZY (by rfl) ?_;refine qM (V:= .str (YE [Qo s i,Qo s (i+1)])) (by rfl) (by rfl) (by rw[<-qlJ];exact qoW wz _ [Qo s i,Qo s (i+1)] (by simp)) ?_;simp+decide only[ev,qH,qF,putD,VM,VO,Ka,true_and,↓Xb,ql,agP,Qt,qJ,qI,qy,implies_true,Qy,Wn,cond_false,Zl,qgV,↓QR,Qs,Qg,↓qh,qc,↓Xe,Qy,YI,cond_true,cond_false]
 (refine XW (V:= .int .u8 (Qo s (i+2)).toNat) (f:=_) (cap:=_) (xs:=_) (by first|rfl|(simp+decide only[gv,qJ,VO,Ka,QZ,qI])) (fun hg=>⟨rfl,?_⟩) (fun hg=>Ut wz _ kx lf s mv tv i 2 (zqA) (by omega) (by omega) (by omega)) ?_;· (simp+decide only[gv,qJ,VO,Ka,qy]at hg;simp+decide only[evs,ev,VO,Ka,hg,Qy,Be,Kc,Vj,qH,qF]<;>try rfl))
 try simp+decide only[putD,VM,VO,Ka,gv,qJ,qy]
 (refine XW (V:= .bool (ZJ (Qo s (i+2)))) (f:=_) (cap:=_) (xs:=_) (by first|rfl|(simp+decide only[gv,qJ,VO,Ka,QZ,qI])) (fun hg=>⟨rfl,?_⟩) (fun hg=>qgE wz _ _) ?_;· (simp+decide only[gv,qJ,VO,Ka,qy]at hg;simp+decide only[evs,ev,VO,Ka,hg,Qy,Be,Kc,Vj]<;>try rfl))
 simp+decide only[qa,ev,qH,qF,putD,VM,VO,VN,Ka,true_and,gv,qJ,qy,↓qcd,XP,agP,Qt,qI,implies_true,Yk,qkT,qkV,↓QR,Qs,Qg,Xn,YI];apply hK;clear hK K;refine qK (b:=_) rfl (fun hb1=>?_) (fun hb1=>?_)
 ·skip
  refine awp_rseq [4,5,6] (by rfl) fun K hK=>?_;simp+decide only[ev,qH,qF,putD,VM,VO,if_false,true_and,↓Qr,↓qY,UA,evP,Kc,Vj];refine qo (by rfl) (by rfl) zqA QW (by rfl) (by rfl) zqD (Js _) (by rfl) ?_;simp only[VV];simp+decide only[qa,ev,qH,qF,putD,VM,VO,VN,Ka,true_and,↓qd,qb,setAt,VW,Ki,Jr,Nat.reduceAdd];apply hK;clear hK K;refine qN ?_;try simp only[Qf]
  refine qW h zqC (?_) ?_
  ·simp+decide only[QC,qw,qj,VO,Ka,and_true,qw,qj,qg XY QW,Qc,qf,VX,Km,Jr,Nat.reduceAdd,qB,qi,qE,allLive,JS,qf,VX,Km,Jr,Nat.reduceAdd,qB,qi,qE,allLive,JS]
  simp+decide only[VO,Ka,and_true,QF,qw,qj,qg XY QW,Qc,qf,VX,Km,Jr,Nat.reduceAdd,qB,qi,qE,allLive,JS,JS,qf,VX,Km,Jr,Nat.reduceAdd,qB,qi,qE,allLive,JS,nxA,nxR];have hq:YE [Qo s i,Qo s (i+1)]=IS/\ZJ (Qo s (i+2))=false:=by
   by_cases hd:YE [Qo s i,Qo s (i+1)]=IS
   ·rw[decide_eq_true (show YE [Qo s i,Qo s (i+1)]=[73,83]from hd)]at hb1
    exact⟨hd,by simpa using hb1⟩
   ·rw[decide_eq_false (show ¬YE [Qo s i,Qo s (i+1)]=[73,83]from hd)]at hb1
    cases hb1
  unfold YS;rw[if_pos ⟨rfl,hq.1,hq.2⟩];rfl
 ·skip
  refine qV ?_;change Awp _ _ _ _ _ _ _;refine Awp.keep [0,4] ?_;exact qiL wz h _ (zqB) kx k0q0 lf s mv tv i true (zqA) (zqA) hk0q0 ne_0q0_x h32 hs (fun q=>by rw[decide_eq_true (show YE [Qo s i,Qo s (i+1)]=[73,83]from q.2.1),q.2.2]at hb1;cases hb1)
theorem qsd(wz:World)(h:AHeap)(kx:Nat)(lf:Bool)(s:Str)(mv tv:AVal)(i:Nat)(is:Bool)(eb_x:h kx=some ⟨[.bool lf, .str s,mv, .int .i64 i,tv],0⟩)(h32:Qo s i≠32)(hs:s.length<=1099511627776):
 ACall Tryz.prog wz 107 [.ptr (.own kx) 0, .bool is] h (fun r h'=>r=nxR (YS s i is)/\h'=h):=by
 cases is with
 |true=>exact qoS wz h kx lf s mv tv i eb_x h32 hs
 |false=>exact qoT wz h kx lf s mv tv i eb_x h32 hs
set_option maxHeartbeats 400000 in
theorem c_number(wz:World)(h:AHeap)(kx:Nat)(lf:Bool)(s:Str)(mv tv:AVal)(i:Nat)(eb_x:h kx=some ⟨[.bool lf, .str s,mv, .int .i64 i,tv],0⟩)(hi:i<s.length)(hs:s.length<=1099511627776):
 ACall Tryz.prog wz 110 [.ptr (.own kx) 0] h (fun r h'=>r=nxR (YZ s i)/\h'=h):=by
 have hs_h:Sub h h:=Vl h;have hsg:=Bool.toNat_le (Wu s i);have hn1:=n1_le hi;have hnl:=qkv hi;obtain⟨b0,h0⟩:∃b,b=Qo s i:=⟨_,rfl⟩
 obtain⟨bm,hm⟩:∃b,b=Qo s ((i:Int)+ -1):=⟨_,rfl⟩
 refine qP (n:=89) (rs:=[.cell 2 54, .tmp 3, .tmp 4]) Tryz.func110 rfl rfl rfl rfl (VL rfl) ?_;simp only[Qd];refine awp_rseq [0,2] (by rfl) fun K hK=>?_;refine Qk UO (cs:=[.int .u8 0, .str [], .int .i64 0, .int .i64 0, .bool false]) (by rfl) fun k0q0 hk0q0=>?_;have hn_0q0:h k0q0=none:=by first|assumption|(simp only[V7]at hk0q0;simp only[hk0q0])
 have hf_0q0:h k0q0=none:=Bg hs_h hn_0q0;have ne_0q0_x:k0q0≠kx:=Bh hn_0q0 eb_x;simp+decide only[qa,ev,qH,qF,putD,VM,VN,Ka,true_and,↓qd,qb];apply hK;clear hK K;refine awp_rseq [0,2,5] (by rfl) fun K hK=>?_;simp+decide only[qa,ev,qH,qF,putD,VM,VN,Ka,true_and,↓qd,qb];apply hK;clear hK K;refine awp_rseq [0,2,5,6] (by rfl) fun K hK=>?_;simp+decide only[ev,putD,VM,VO,Ka,true_and,↓qh,qc];refine qM (V:= .int .u8 b0.toNat) (by rfl) (by rfl) (by rw[h0];exact qca wz _ kx lf s mv tv i (zqA) (by omega)) ?_;simp+decide only[ev,qH,qF,putD,VM,VO,Ka,true_and,↓qA,ql,qC,cond_false,qp,XH,↓qh,qc,↓Xe,agP,Qt,qJ,qI,Qe,implies_true]
 (refine XW (V:= .int .u8 b0.toNat) (f:=_) (cap:=_) (xs:=_) (by first|rfl|(simp+decide only[gv,qJ,VO,Ka,QZ,qI])) (fun hg=>⟨rfl,?_⟩) (fun hg=>by rw[h0];exact qca wz _ kx lf s mv tv i (zqA) (by omega)) ?_;· (simp+decide only[gv,qJ,VO,Ka,Qe]at hg;simp+decide only[evs,ev,VO,Ka,hg,Qy,Be,Kc,Vj,qH,qF]<;>try rfl))
 simp+decide only[ev,qH,qF,putD,VM,VO,Ka,true_and,gv,qJ,qy,Qe,↓Xb,ql,agP,Qt,qI,implies_true,qC,cond_false,XZ,Za,qp,XH,↓QR,Qs,Qg,XO,ZF,↓qh,qc,↓Xe]
 (refine XW (V:= .int .u8 bm.toNat) (f:=_) (cap:=_) (xs:=_) (by first|rfl|(simp+decide only[gv,qJ,VO,Ka,QZ,qI])) (fun hg=>⟨rfl,?_⟩) (fun hg=>by rw[hm];exact Ut wz _ kx lf s mv tv i (-1) (zqA) (by omega) (by omega) (by omega)) ?_;· (simp+decide only[gv,qJ,VO,Ka,qy]at hg;simp+decide only[evs,ev,VO,Ka,hg,Qy,Be,Kc,Vj,qH,qF]<;>try rfl))
 simp+decide only[ev,qH,qF,putD,VM,VO,Ka,true_and,gv,qJ,qy,Qe,YD,↓Xb,ql,agP,Qt,qI,QZ,qnu,implies_true,qC,cond_false,XZ,Za,qp,XH,↓Xe,qc]
 (refine XW (V:= .int .u8 bm.toNat) (f:=_) (cap:=_) (xs:=_) (by first|rfl|(simp+decide only[gv,qJ,VO,Ka,QZ])) (fun hg=>⟨rfl,?_⟩) (fun hg=>by rw[hm];exact Ut wz _ kx lf s mv tv i (-1) (zqA) (by omega) (by omega) (by omega)) ?_;· (simp+decide only[gv,qJ,VO,Ka,Qe,YD]at hg;simp+decide only[evs,ev,VO,Ka,hg,Qy,Be,Kc,Vj,qH,qF]<;>try rfl))
 simp+decide only[qa,ev,qH,qF,putD,VM,VO,VN,Ka,true_and,gv,qJ,qy,Qe,YD,↓Xb,ql,agP,Qt,qI,QZ,implies_true,qC,cond_false,XZ,Za,qp,XH,↓qgK,Qs,Qg,Xn,cp_nest2,Xp,ZF,qgy,qgz,↓QR,↓qd,qb];have hsv:((decide ((b0.toNat:Int)=43)||decide ((b0.toNat:Int)=45)) && (decide ((bm.toNat:Int)=32)||decide ((bm.toNat:Int)=40)))=Wu s i:=by
  have e43:decide ((b0.toNat:Int)=43)=decide (b0=43):=decide_eq_decide.2 (iff_of_eq (Zg _ 43));have e45:decide ((b0.toNat:Int)=45)=decide (b0=45):=decide_eq_decide.2 (iff_of_eq (Zg _ 45));have e32:decide ((bm.toNat:Int)=32)=decide (bm=32):=decide_eq_decide.2 (iff_of_eq (Zg _ 32));have e40:decide ((bm.toNat:Int)=40)=decide (bm=40):=decide_eq_decide.2 (iff_of_eq (Zg _ 40));rw[e43,e45,e32,e40];unfold Wu;rw[h0,hm,show(i:Int)+ -1=(i:Int)-1 by omega]
 rw[hsv];obtain⟨sg,hsg'⟩:∃sg,sg=Wu s i:=⟨_,rfl⟩
 rw[<-hsg'];apply hK;clear hK K;refine qL ?_;refine awp_rseq [0,2,5,6,27] (by rfl) fun K hK=>?_;simp+decide only[qa,ev,putD,VM,VO,VN,Ka,true_and,↓qh,qc];apply hK;clear hK K;refine Ub [0,2,5,6] (fun z:Unit=>[(0, .ptr (.own kx) 0),(2, .ptr (.own k0q0) 0),(5, .int .i64 sg.toNat),(6, .bool sg)]) (fun z:Unit=>h.set k0q0 ⟨[.int .u8 0, .str [], .int .i64 0, .int .i64 0, .bool false],0⟩) (fun z:Unit=>True) ?_ ?_
 ·refine qK (b:=_) rfl (fun hb1=>?_) (fun hb1=>?_)
  ·skip
   refine XL [0,2,5,6] (by rfl) ?_;simp+decide only[qa,ev,qH,qF,putD,VM,VO,VN,Ka,true_and,and_true,↓qh,qc,↓qA,ql,qC,cond_false,qp,Xc,↓qd,qb,nxA,nxR];try simp(disch:=omega)only[wrap_i64]
   try simp only[Qi]
   first
   |exact⟨(),by rw[hb1];rfl,Vl _,trivial⟩
   |exact⟨(),by rw[hb1];rfl,Vl _⟩
  ·skip
   refine qV ?_;try simp only[Qi]
   first
   |exact⟨(),by rw[hb1];rfl,Vl _,trivial⟩
   |exact⟨(),by rw[hb1];rfl,Vl _⟩
 ·intro _ _
  rw[hsg']at*
  have hd0:d0E s i<=s.length:=qiC _ _ _;have hq1:((Wu s i).toNat:Int)+d0E s i=(n1E s i:Nat):=by unfold n1E;omega
  have hnum:YZ s i=qhZ (ZJ (Qo s ((i:Int)+(n1E s i:Nat)))) (ZJ (Qo s ((i:Int)+(WO s i:Nat)))) (Wu s i) (d0E s i) (qbE s i) (takeE s i 2 (WO s i)):=rfl;have hml:qnr s i=true->qbG s i<=s.length:=fun _=>qiC _ _ _;refine awp_rseq [0,2,5,6,7] (by rfl) fun K hK=>?_;simp+decide only[ev,putD,VM,VO,Ka,true_and,↓qh,qc];refine qM (V:= .int .i64 (d0E s i)) (by rfl) (by rfl) (c_run wz _ kx lf s mv tv i (Wu s i).toNat _ _ (qpK wz) (zqA) (by omega) (by omega) hs) ?_;simp+decide only[qa,ev,putD,VM,VO,VN,Ka,true_and,↓qd,qb];apply hK;clear hK K;refine awp_rseq [0,2,5,6,7] (by rfl) fun K hK=>?_;simp+decide only[qa,ev,putD,VM,VO,VN,Ka,true_and,↓qh,qc,↓qA,ql,qZ,cond_false,qp,Xc,↓qd,qb];try simp(disch:=omega)only[wrap_i64]
  rw[hq1];apply hK;clear hK K;refine qL ?_;refine awp_rseq [0,2,5,6,7,43] (by rfl) fun K hK=>?_;simp+decide only[ev,qH,qF,putD,VM,VO,Ka,true_and,↓qh,qc,↓qA,ql,qC,cond_false,qp,UE,↓Xe,agP,Qt,qJ,qI,qy,implies_true]
  (refine XW (V:= .int .u8 (Qo s ((i:Int)+(n1E s i:Nat))).toNat) (f:=_) (cap:=_) (xs:=_) (by first|rfl|(simp+decide only[gv,qJ,VO,Ka,QZ,qI])) (fun hg=>⟨rfl,?_⟩) (fun hg=>Ut wz _ kx lf s mv tv i _ (zqA) (by omega) (by omega) (by omega)) ?_;· (simp+decide only[gv,qJ,VO,Ka,qy]at hg;simp+decide only[evs,ev,VO,Ka,hg,Qy,Be,Kc,Vj]<;>try rfl))
  try simp+decide only[putD,VM,VO,Ka,gv,qJ,qy]
  (refine XW (V:= .bool (ZJ (Qo s ((i:Int)+(n1E s i:Nat))))) (f:=_) (cap:=_) (xs:=_) (by first|rfl|(simp+decide only[gv,qJ,VO,Ka,QZ,qI])) (fun hg=>⟨rfl,?_⟩) (fun hg=>qgE wz _ _) ?_;· (simp+decide only[gv,qJ,VO,Ka,qy]at hg;simp+decide only[evs,ev,VO,Ka,hg,Qy,Be,Kc,Vj]<;>try rfl))
  simp+decide only[qa,ev,qH,qF,putD,VM,VO,VN,Ka,true_and,gv,qJ,qy,↓QR,Qs,Qg,Xn,Xp];apply hK;clear hK K;refine qK (b:=_) rfl (fun hb2=>?_) (fun hb2=>?_)
  ·try simp only[decide_eq_true_eq,Kw]at hb2
   have hb2':0<d0E s i/\ZJ (Qo s ((i:Int)+(n1E s i:Nat)))=true:=⟨by omega,hb2.2⟩
   refine qL ?_;refine awp_rseq [2,44] (by rfl) fun K hK=>?_;simp+decide only[qa,ev,putD,VM,VO,VN,Ka,true_and,↓qh,qc];apply hK;clear hK K;refine qK (b:=_) rfl (fun hb3=>?_) (fun hb3=>?_)
   ·skip
    refine awp_rseq [2,3,4] (by rfl) fun K hK=>?_;simp+decide only[ev,qH,qF,putD,VM,VO,if_false,true_and,↓Qr,↓qY,qaV,evP,Vj];refine qo (by rfl) (by rfl) zqA QW (by rfl) (by rfl) zqD (Js _) (by rfl) ?_;simp only[Vh,VV];simp+decide only[qa,ev,qH,qF,putD,VM,VO,VN,Ka,true_and,↓qd,qb,setAt,VW,Ki,Jr,Nat.reduceAdd];apply hK;clear hK K;refine qN ?_;try simp only[Qf]
    refine qW h zqC (?_) ?_
    ·simp+decide only[QC,qw,qj,VO,Ka,and_true,qw,qj,qg XY QW,Qc,qf,VX,Km,Jr,Nat.reduceAdd,qB,qi,qE,allLive,JS,qf,VX,Km,Jr,Nat.reduceAdd,qB,qi,qE,allLive,JS]
    simp+decide only[VO,Ka,and_true,QF,qw,qj,qg XY QW,Qc,qf,VX,Km,Jr,Nat.reduceAdd,qB,qi,qE,allLive,JS,qf,VX,Km,Jr,Nat.reduceAdd,qB,qi,qE,allLive,JS,nxA,nxR];rw[hnum];unfold qhZ;rw[if_pos hb2',if_pos hb3];rfl
   ·skip
    refine qV ?_;change Awp _ _ _ _ _ _ _;refine awp_rseq [2,3,4] (by rfl) fun K hK=>?_;simp+decide only[ev,qH,qF,putD,VM,VO,if_false,true_and,↓Qr,↓qY,qaV,evP,Vj];refine qo (by rfl) (by rfl) zqA QW (by rfl) (by rfl) zqD (Js _) (by rfl) ?_;simp only[Vh,VV];simp+decide only[qa,ev,qH,qF,putD,VM,VO,VN,Ka,true_and,↓qd,qb,setAt,VW,Ki,Jr,Nat.reduceAdd];apply hK;clear hK K;refine qN ?_;try simp only[Qf]
    refine qW h zqC (?_) ?_
    ·simp+decide only[QC,qw,qj,VO,Ka,and_true,qw,qj,qg XY QW,Qc,qf,VX,Km,Jr,Nat.reduceAdd,qB,qi,qE,allLive,JS,qf,VX,Km,Jr,Nat.reduceAdd,qB,qi,qE,allLive,JS]
    simp+decide only[VO,Ka,and_true,QF,qw,qj,qg XY QW,Qc,qf,VX,Km,Jr,Nat.reduceAdd,qB,qi,qE,allLive,JS,qf,VX,Km,Jr,Nat.reduceAdd,qB,qi,qE,allLive,JS,nxA,nxR];rw[hnum];unfold qhZ;rw[if_pos hb2',if_neg (by rw[hb3];decide)];rfl
  ·try simp only[decide_eq_false_iff_not,VP]at hb2
   have hb2':¬(0<d0E s i/\ZJ (Qo s ((i:Int)+(n1E s i:Nat)))=true):=fun q=>hb2.elim (fun z=>z (by omega)) (fun z=>by rw[q.2]at z;cases z);refine qV ?_;change Awp _ _ _ _ _ _ _;refine qL ?_;refine awp_rseq [0,2,5,7,57] (by rfl) fun K hK=>?_;simp+decide only[ev,putD,VM,VO,Ka,true_and,↓qh,qc];refine qM (V:= .int .u8 (Qo s ((i:Int)+(n1E s i:Nat))).toNat) (by rfl) (by rfl) (Ut wz _ kx lf s mv tv i _ (zqA) (by omega) (by omega) (by omega)) ?_;simp+decide only[ev,qH,qF,putD,VM,VO,Ka,true_and,↓qA,ql,qC,cond_false,qp,XH,↓qh,qc,↓Xe,agP,Qt,qJ,qI,qy,implies_true,↓Xb,XZ,Za,Xc];try simp(disch:=omega)only[wrap_i64]
   (refine XW (V:= .int .u8 (Qo s ((i:Int)+((n1E s i:Nat)+1))).toNat) (f:=_) (cap:=_) (xs:=_) (by first|rfl|(simp+decide only[gv,qJ,VO,Ka,QZ,qI])) (fun hg=>⟨rfl,?_⟩) (fun hg=>Ut wz _ kx lf s mv tv i ((n1E s i:Nat)+1) (zqA) (by omega) (by omega) (by omega)) ?_;· (simp+decide only[gv,qJ,VO,Ka,qy]at hg;simp+decide only[evs,ev,VO,Ka,hg,Qy,Be,Kc,Vj]<;>try rfl))
   try simp+decide only[putD,VM,VO,Ka,gv,qJ,qy]
   (refine XW (V:= .bool (Yu (Qo s ((i:Int)+((n1E s i:Nat)+1))))) (f:=_) (cap:=_) (xs:=_) (by first|rfl|(simp+decide only[gv,qJ,VO,Ka,QZ,qI])) (fun hg=>⟨rfl,?_⟩) (fun hg=>qjw wz _ _) ?_;· (simp+decide only[gv,qJ,VO,Ka,qy]at hg;simp+decide only[evs,ev,VO,Ka,hg,Qy,Be,Kc,Vj]<;>try rfl))
   simp+decide only[qa,ev,qH,qF,putD,VM,VO,VN,Ka,true_and,gv,qJ,qy,↓QR,Qs,Qg,Xn,Xp];have hdv:(decide (((Qo s ((i:Int)+(n1E s i:Nat))).toNat:Int)=46) && Yu (Qo s ((i:Int)+((n1E s i:Nat)+1))))=qnr s i:=by
    have e46:decide (((Qo s ((i:Int)+(n1E s i:Nat))).toNat:Int)=46)=decide (Qo s ((i:Int)+(n1E s i:Nat))=46):=decide_eq_decide.2 (iff_of_eq (Zg _ 46));rw[e46,<-Int.add_assoc];rfl
   rw[hdv];apply hK;clear hK K;refine Ub [0,2,5,7] (fun z:Unit=>[(0, .ptr (.own kx) 0),(2, .ptr (.own k0q0) 0),(5, .int .i64 (WO s i)),(7, .int .i64 (qbE s i))]) (fun z:Unit=>h.set k0q0 ⟨[.int .u8 0, .str [], .int .i64 0, .int .i64 0, .bool false],0⟩) (fun z:Unit=>True) ?_ ?_
   ·refine qK (b:=_) rfl (fun hb4=>?_) (fun hb4=>?_)
    ·skip
     have hmo:=hml hb4;have hld:WO s i=n1E s i+1+qbG s i:=by unfold WO;rw[if_pos hb4]
     have hdd:qbE s i=d0E s i+qbG s i:=by unfold qbE;rw[if_pos hb4]
     refine awp_rseq [0,2,5,7,8] (by rfl) fun K hK=>?_;simp+decide only[ev,qH,qF,putD,VM,VO,Ka,true_and,↓qh,qc,↓qA,ql,qC,cond_false,qp,Xc];try simp(disch:=omega)only[wrap_i64]
     rw[show((n1E s i:Nat):Int)+1=((n1E s i+1:Nat):Int)from rfl];refine qM (V:= .int .i64 (qbG s i)) (by rfl) (by rfl) (c_run wz _ kx lf s mv tv i (n1E s i+1) _ _ (qpK wz) (zqA) (by omega) (by omega) hs) ?_;simp+decide only[qa,ev,putD,VM,VO,VN,Ka,true_and,↓qd,qb];apply hK;clear hK K;refine awp_rseq [0,2,5,7,8] (by rfl) fun K hK=>?_;simp+decide only[qa,ev,putD,VM,VO,VN,Ka,true_and,↓qh,qc,↓qA,ql,qZ,cond_false,qp,Xc,↓qd,qb];try simp(disch:=omega)only[wrap_i64]
     apply hK;clear hK K;refine XL [0,2,5,7] (by rfl) ?_;simp+decide only[qa,ev,qH,qF,putD,VM,VO,VN,Ka,true_and,and_true,↓qh,qc,↓qA,ql,qZ,cond_false,qp,Xc,↓qd,qb,nxA,nxR];try simp(disch:=omega)only[wrap_i64]
     try simp only[Qi]
     first
     |exact⟨(),by rw[hld,hdd,show((n1E s i:Nat):Int)+(1+(qbG s i:Nat))=((n1E s i+1+qbG s i:Nat):Int) by omega];rfl,Vl _,trivial⟩
     |exact⟨(),by rw[hld,hdd];rfl,Vl _,trivial⟩
     |exact⟨(),by rw[hld,hdd,show((n1E s i:Nat):Int)+(1+(qbG s i:Nat))=((n1E s i+1+qbG s i:Nat):Int) by omega];rfl,Vl _⟩
     |exact⟨(),by rw[hld,hdd];rfl,Vl _⟩
    ·skip
     have hld:WO s i=n1E s i:=by unfold WO;rw[if_neg (by rw[hb4];decide)]
     have hdd:qbE s i=d0E s i:=by unfold qbE;rw[if_neg (by rw[hb4];decide)]
     refine qV ?_;try simp only[Qi]
     first
     |exact⟨(),by rw[hld,hdd,show((n1E s i:Nat):Int)+(1+(qbG s i:Nat))=((n1E s i+1+qbG s i:Nat):Int) by omega];rfl,Vl _,trivial⟩
     |exact⟨(),by rw[hld,hdd];rfl,Vl _,trivial⟩
     |exact⟨(),by rw[hld,hdd,show((n1E s i:Nat):Int)+(1+(qbG s i:Nat))=((n1E s i+1+qbG s i:Nat):Int) by omega];rfl,Vl _⟩
     |exact⟨(),by rw[hld,hdd];rfl,Vl _⟩
   ·intro _ _
    refine qL ?_;refine Qp ?_;refine awp_rseq [0,2,5,7,69] (by rfl) fun K hK=>?_;simp+decide only[qa,ev,qH,qF,putD,VM,VO,VN,Ka,true_and,↓qh,qc,↓qA,ql,qC,cond_false,qp,XH,↓qd,qb];apply hK;clear hK K;refine qK (b:=_) rfl (fun hb5=>?_) (fun hb5=>?_)
    ·try simp only[decide_eq_true_eq]at hb5
     refine awp_rseq [2,3,4] (by rfl) fun K hK=>?_;simp+decide only[ev,qH,qF,putD,VM,VO,if_false,true_and,↓Qr,↓qY,qaV,evP,Vj];refine qo (by rfl) (by rfl) zqA QW (by rfl) (by rfl) zqD (Js _) (by rfl) ?_;simp only[Vh,VV];simp+decide only[qa,ev,qH,qF,putD,VM,VO,VN,Ka,true_and,↓qd,qb,setAt,VW,Ki,Jr,Nat.reduceAdd];apply hK;clear hK K;refine qN ?_;try simp only[Qf,Qu]
     refine qW h zqC (?_) ?_
     ·simp+decide only[QC,qw,qj,VO,Ka,and_true,qw,qj,qg XY QW,Qc,qf,VX,Km,Jr,Nat.reduceAdd,qB,qi,qE,allLive,JS,qf,VX,Km,Jr,Nat.reduceAdd,qB,qi,qE,allLive,JS]
     simp+decide only[VO,Ka,and_true,QF,qw,qj,qg XY QW,Qc,qf,VX,Km,Jr,Nat.reduceAdd,qB,qi,qE,allLive,JS,qf,VX,Km,Jr,Nat.reduceAdd,qB,qi,qE,allLive,JS,nxA,nxR];rw[hnum];unfold qhZ;rw[if_neg hb2',if_pos (by omega)];rfl
    ·try simp only[decide_eq_false_iff_not]at hb5
     have hb5':¬qbE s i=0:=by omega
     refine awp_rseq [0,2,5,7,73] (by rfl) fun K hK=>?_;simp+decide only[ev,putD,VM,VO,Ka,true_and,↓qh,qc];refine qM (V:= .int .u8 (Qo s ((i:Int)+(WO s i:Nat))).toNat) (by rfl) (by rfl) (Ut wz _ kx lf s mv tv i _ (zqA) (by omega) (by omega) (by omega)) ?_;refine qM (V:= .bool (ZJ (Qo s ((i:Int)+(WO s i:Nat))))) (by rfl) (by rfl) (qgE wz _ _) ?_;simp+decide only[qa,ev,putD,VM,VO,VN,Ka,true_and,↓qd,qb];apply hK;clear hK K;refine qK (b:=_) rfl (fun hb6=>?_) (fun hb6=>?_)
     ·skip
      refine awp_rseq [2,3,4] (by rfl) fun K hK=>?_;simp+decide only[ev,qH,qF,putD,VM,VO,if_false,true_and,↓Qr,↓qY,qaV,evP,Vj];refine qo (by rfl) (by rfl) zqA QW (by rfl) (by rfl) zqD (Js _) (by rfl) ?_;simp only[Vh,VV];simp+decide only[qa,ev,qH,qF,putD,VM,VO,VN,Ka,true_and,↓qd,qb,setAt,VW,Ki,Jr,Nat.reduceAdd];apply hK;clear hK K;refine qN ?_;try simp only[Qf,Qu]
      refine qW h zqC (?_) ?_
      ·simp+decide only[QC,qw,qj,VO,Ka,and_true,qw,qj,qg XY QW,Qc,qf,VX,Km,Jr,Nat.reduceAdd,qB,qi,qE,allLive,JS,qf,VX,Km,Jr,Nat.reduceAdd,qB,qi,qE,allLive,JS]
      simp+decide only[VO,Ka,and_true,QF,qw,qj,qg XY QW,Qc,qf,VX,Km,Jr,Nat.reduceAdd,qB,qi,qE,allLive,JS,qf,VX,Km,Jr,Nat.reduceAdd,qB,qi,qE,allLive,JS,nxA,nxR];rw[hnum];unfold qhZ;rw[if_neg hb2',if_neg hb5',if_pos hb6];rfl
     ·skip
      have hb6':¬ZJ (Qo s ((i:Int)+(WO s i:Nat)))=true:=by rw[hb6];decide
      refine awp_rseq [0,2,5,79] (by rfl) fun K hK=>?_;simp+decide only[qa,ev,qH,qF,putD,VM,VO,VN,Ka,true_and,↓qh,qc,↓qA,ql,qC,cond_false,qp,UE,↓qd,qb];apply hK;clear hK K;refine qK (b:=_) rfl (fun hb7=>?_) (fun hb7=>?_)
      ·try simp only[decide_eq_true_eq]at hb7
       refine awp_rseq [2,3,4] (by rfl) fun K hK=>?_;simp+decide only[ev,qH,qF,putD,VM,VO,if_false,true_and,↓Qr,↓qY,qaV,evP,Vj];refine qo (by rfl) (by rfl) zqA QW (by rfl) (by rfl) zqD (Js _) (by rfl) ?_;simp only[Vh,VV];simp+decide only[qa,ev,qH,qF,putD,VM,VO,VN,Ka,true_and,↓qd,qb,setAt,VW,Ki,Jr,Nat.reduceAdd];apply hK;clear hK K;refine qN ?_;try simp only[Qf,Qu]
       refine qW h zqC (?_) ?_
       ·simp+decide only[QC,qw,qj,VO,Ka,and_true,qw,qj,qg XY QW,Qc,qf,VX,Km,Jr,Nat.reduceAdd,qB,qi,qE,allLive,JS,qf,VX,Km,Jr,Nat.reduceAdd,qB,qi,qE,allLive,JS]
       simp+decide only[VO,Ka,and_true,QF,qw,qj,qg XY QW,Qc,qf,VX,Km,Jr,Nat.reduceAdd,qB,qi,qE,allLive,JS,qf,VX,Km,Jr,Nat.reduceAdd,qB,qi,qE,allLive,JS,nxA,nxR];rw[hnum];unfold qhZ;rw[if_neg hb2',if_neg hb5',if_neg hb6',if_pos (by omega)];rfl
      ·try simp only[decide_eq_false_iff_not]at hb7
       refine qV ?_;change Awp _ _ _ _ _ _ _;refine awp_rseq [2,3,4] (by rfl) fun K hK=>?_;simp+decide only[ev,putD,VM,VO,Ka,true_and,↓qh,qc];refine qM (V:=nxR (takeE s i 2 (WO s i))) (by rfl) (by rfl) (qeT wz _ kx lf s mv tv i (WO s i) 2 (zqA) hnl hs) ?_;simp+decide only[ev,putD,VM,VO,Ka,true_and,↓QV,QI,QT,KX,J8,VX,Km,VX,Km,Jr,Nat.reduceAdd,nxA,nxR];refine qo (by rfl) (by rfl) zqA QW (by rfl) (by rfl) zqD (Js _) (by rfl) ?_;simp only[Vh,VV];simp+decide only[qa,ev,putD,VM,VO,VN,Ka,true_and,↓qd,qb,setAt,VW,Ki,Jr,Nat.reduceAdd];apply hK;clear hK K;refine qN ?_;refine qW h zqC (?_) ?_
       ·simp+decide only[QC,qw,qj,VO,Ka,and_true,qw,qj,qg XY QW,Qc,qf,VX,Km,Jr,Nat.reduceAdd,qB,qi,qE,allLive,JS,qf,VX,Km,Jr,Nat.reduceAdd,qB,qi,qE,allLive,JS]
       simp+decide only[VO,Ka,and_true,QF,qw,qj,qg XY QW,Qc,qf,VX,Km,Jr,Nat.reduceAdd,qB,qi,qE,allLive,JS,qf,VX,Km,Jr,Nat.reduceAdd,qB,qi,qE,allLive,JS,nxA,nxR];rw[hnum];unfold qhZ;rw[if_neg hb2',if_neg hb5',if_neg hb6',if_neg (by omega)]
end Go.Proofs.YtlhhaagmakhilaaGreatDoor
namespace Go.Proofs.YtlhhaagmakhilaaGreatDoor
open Go.AM
open Go.Proofs
open Go.Col
open Go.Tok
open Go.RowKit (Below)
set_option maxRecDepth 100000
def digH:Str:=[48,49,50,51,52,53,54,55,56,57,45]
theorem c_trimS(wz:World)(h:AHeap)(s:Str)(hs:s.length<=9223372036854775807):ACall Tryz.prog wz 137 [.str s, .str digH] h (fun v h'=>v= .str (Lib.trimS s digH)/\h'=h):=by
 refine ZW (vals:=[.string ⟨⟨s⟩⟩, .string ⟨⟨digH⟩⟩]) (val:= .string ⟨⟨Lib.trimS s digH⟩⟩) Tryz.func137 rfl rfl (fun fi vs hv=>qer hv) (fun fi=>rfl) fun w=>?_;exact Any.strings_Trim_laid Tryz.lays160 (by kernel_rfl) ⟨⟨s⟩⟩ ⟨⟨digH⟩⟩ w hs (by decide) (ascii_of_all (by decide))
theorem digH_mem(b:UInt8):digH.contains b=(Yu b||decide (b=45)):=by
 rw[Kz,JW];unfold digH Yu;simp only[KW,Bj,or_false,JV,Kw,decide_eq_true_eq];constructor
 ·rintro(h|h|h|h|h|h|h|h|h|h|h)<;>subst h<;>decide
 ·rintro(h|h)
  ·have e:b=UInt8.ofNat b.toNat:=(UInt8.ofNat_toNat).symm
   generalize b.toNat=n at h e;have:n=48\/n=49\/n=50\/n=51\/n=52\/n=53\/n=54\/n=55\/n=56\/n=57:=by omega
   rcases this with q|q|q|q|q|q|q|q|q|q<;>subst q<;>subst e<;>decide
  ·subst h;decide
theorem qhj{p:UInt8->Bool}:∀{s:Str},s.dropWhile p=[]↔s.all p=true
 |[]=>by simp
 |b::s=>by
  rw[Bl,KD];cases hp:p b with
  |true=>simp only[if_true,Vf];exact qhj
  |false=>simp
theorem qkR{p:UInt8->Bool}:∀{s:Str},s.all p=false->(s.dropWhile p).all p=false
 |[],h=>by cases h
 |b::s,h=>by
  rw[Bl];rw[KD]at h;cases hp:p b with
  |true=>
   rw[hp,Vf]at h;simp only[if_true];exact qkR h
  |false=>simp[hp]
theorem qra(s:Str):(!decide (Lib.trimS s digH=[]))= !(s.all fun b=>Yu b||decide (b=45)):=by
 rw[<-decide_not];have hp:(fun b=>Yu b||decide (b=45))=fun b=>digH.contains b:=funext fun b=>(digH_mem b).symm;rw[hp];unfold Lib.trimS Lib.trimLeftS Lib.trimRightS;cases ha:s.all (fun b=>digH.contains b)with
 |true=>
  have h1:s.reverse.dropWhile (fun b=>digH.contains b)=[]:=qhj.2 (by rw[Bn];exact ha);rw[h1];rfl
 |false=>
  have h1:=qkR (p:=fun b=>digH.contains b) (s:=s.reverse) (by rw[Bn];exact ha);have h2:((s.reverse.dropWhile (fun b=>digH.contains b)).reverse).all (fun b=>digH.contains b)=false:=by rw[Bn];exact h1
  have h3:¬((s.reverse.dropWhile (fun b=>digH.contains b)).reverse).dropWhile (fun b=>digH.contains b)=[]:=fun e=>by
   rw[qhj.1 e]at h2;cases h2
  rw[decide_eq_true h3];rfl
theorem c_name(wz:World)(h:AHeap)(kx:Nat)(lf:Bool)(s:Str)(mv tv:AVal)(i:Nat)(eb_x:h kx=some ⟨[.bool lf, .str s,mv, .int .i64 i,tv],0⟩)(hi:i<s.length)(hw:ZJ (s.getD i 0)=true)(hs:s.length<=1099511627776):
 ACall Tryz.prog wz 112 [.ptr (.own kx) 0] h (fun r h'=>r=nxR (qff s i)/\h'=h):=by
 have hs_h:Sub h h:=Vl h;have hp:=qfW hi hw;have hr:=qcZ s i ZJ (by omega);obtain⟨n,hn⟩:∃n,n=WG s i ZJ:=⟨_,rfl⟩
 rw[<-hn]at hp hr;obtain⟨t,ht⟩:∃t,t=YE ((s.drop i).take n):=⟨_,rfl⟩
 have htl:t.length=n:=by rw[ht];unfold YE;rw[Jo,K4,K5];omega
 have hnm:qff s i=if (t.all fun b=>Yu b||decide (b=45))=true\/t.getD 0 0=45\/t.getD (n-1) 0=45 then .err 4 else if 30<n then .err 5 else⟨1,t,n,0⟩:=by unfold qff;simp only;rw[<-hn,<-ht]
 have h1:((n:Int)-1).toNat=n-1:=by omega
 have h0:(0:Int).toNat=0:=rfl;refine qP (n:=51) (rs:=[.cell 2 54, .tmp 3, .tmp 4]) Tryz.func112 rfl rfl rfl rfl (VL rfl) ?_;simp only[Qd];refine awp_rseq [0,2] (by rfl) fun K hK=>?_;refine Qk UO (cs:=[.int .u8 0, .str [], .int .i64 0, .int .i64 0, .bool false]) (by rfl) fun k0q0 hk0q0=>?_;have hn_0q0:h k0q0=none:=by first|assumption|(simp only[V7]at hk0q0;simp only[hk0q0])
 have hf_0q0:h k0q0=none:=Bg hs_h hn_0q0;have ne_0q0_x:k0q0≠kx:=Bh hn_0q0 eb_x;simp+decide only[qa,ev,qH,qF,putD,VM,VN,Ka,true_and,↓qd,qb];apply hK;clear hK K;refine awp_rseq [0,2,5] (by rfl) fun K hK=>?_;simp+decide only[ev,putD,VM,VO,Ka,true_and,↓qh,qc];refine qM (V:= .int .i64 n) (by rfl) (by rfl) (by rw[hn];exact c_run0 wz _ kx lf s mv tv i _ _ (f_wordy wz) (zqA) (by omega) hs) ?_;simp+decide only[qa,ev,putD,VM,VO,VN,Ka,true_and,↓qd,qb];apply hK;clear hK K;refine awp_rseq [2,5,6,7] (by rfl) fun K hK=>?_;simp+decide only[ev,putD,VM,VO,Ka,true_and,↓qh,qc];refine qM (V:=nxR (takeE s i 1 n)) (by rfl) (by rfl) (qeT wz _ kx lf s mv tv i n 1 (zqA) hr hs) ?_;simp+decide only[ev,putD,VM,VO,Ka,true_and,↓qh,qc,↓QV,QI,QT,KX,J8,VX,Km,VX,Km,Jr,Nat.reduceAdd,nxA,nxR,Tok.takeE];refine Qk UO (cs:=[.int .u8 0, .str [], .int .i64 0, .int .i64 0, .bool false]) (by rfl) fun k2q7 hk2q7=>?_;have ne_2q7_0q0:k2q7≠k0q0:=by simp only[V7]at hk2q7;simp only[hk2q7,ne_eq,not_false_eq_true]
 have hn_2q7:h k2q7=none:=by first|assumption|(simp only[V7]at hk2q7;simp only[hk2q7])
 have hf_2q7:h k2q7=none:=Bg hs_h hn_2q7;have ne_2q7_x:k2q7≠kx:=Bh hn_2q7 eb_x;refine qo (by rfl) (by rfl) zqA QW (by rfl) (by rfl) zqD (Js _) (by rfl) ?_;simp only[Vh,VV];simp+decide only[qa,ev,putD,VM,VO,VN,Ka,true_and,↓qd,qb,setAt,VW,Ki,Jr,Nat.reduceAdd];apply hK;clear hK K;refine awp_rseq [2,5,6,7] (by rfl) fun K hK=>?_;simp+decide only[ev,putD,VM,VO,Ka,true_and,↓qD,qm,qag,↓qG,Qb,qz ag9,QP,VX,Km,Jr,qE];refine qM (V:= .str t) (by rfl) (by rfl) (by rw[ht,<-qlJ];exact qoW wz _ ((s.drop i).take n) (by rw[K4];omega)) ?_;simp+decide only[ev,putD,VM,VO,Ka,true_and,↓qD,qm,qag,Jr];refine qo (by rfl) (by rfl) zqA sz9 (by rfl) (by rfl) zqD (Js _) (by rfl) ?_;simp only[Vh,VV];simp+decide only[qa,ev,putD,VO,VN,Ka,setAt,VW,Ki];apply hK;clear hK K;refine awp_rseq [2,5,6,7,8] (by rfl) fun K hK=>?_;simp+decide only[ev,putD,VM,VO,Ka,true_and,↓qD,qm,qag,↓qG,Qb,qz ag9,QP,VX,Km,Jr,qE];refine qM (V:= .str (Lib.trimS t digH)) (by rfl) (by rfl) (c_trimS wz _ t (by omega)) ?_;simp+decide only[qa,ev,qH,qF,putD,VM,VO,VN,Ka,true_and,↓qA,ql,Wn,cond_false,Zl,qfr,↓qd,qb];rw[qra];apply hK;clear hK K;refine qL ?_;refine Qp ?_;refine awp_rseq [2,5,6,7,26] (by rfl) fun K hK=>?_;simp+decide only[qa,ev,qH,qF,putD,VM,VO,VN,Ka,true_and,↓qh,qc,↓Yz,XP,Yk,↓XI,qm,agP,Qt,qJ,qI,Qe,implies_true,Bool.not_not,qag,↓Zy,Zd,Ud,qce,qz ag9,↓qnN,qeE,qdg Tryz.underlying9,qkU,qrR,qkW,qrU,↓Xb,ql,qC,cond_false,XZ,Za,qp,XH,↓QR,Qs,Qg,XO,ZF,↓Xe,qad,↓qd,qb,QP,VX,Km,Jr,qE,h0];try simp(disch:=omega)only[wrap_i64]
 repeat (with_reducible refine And.intro ?_ ?_;· first|trivial|omega|(intro hg;simp only[Kw,JV,Ji,VP,VQ,VS,decide_eq_true_eq,decide_eq_false_iff_not,XT]at hg;omega))
 apply hK;clear hK K;refine qK (b:=_) rfl (fun hb1=>?_) (fun hb1=>?_)
 ·try simp only[decide_eq_true_eq,JV]at hb1
  have hb1':(t.all fun b=>Yu b||decide (b=45))=true\/t.getD 0 0=45\/t.getD (n-1) 0=45:=by
   rcases hb1 with(q|q)|q
   ·exact .inl q
   ·exact .inr (.inl ((Zg _ 45).mp q))
   ·exact .inr (.inr (by rw[h1]at q;exact(Zg _ 45).mp q))
  refine awp_rseq [2,3,4] (by rfl) fun K hK=>?_;simp+decide only[ev,qH,qF,putD,VM,VO,if_false,true_and,↓Qr,↓qY,qaV,evP,Vj];refine qo (by rfl) (by rfl) zqA QW (by rfl) (by rfl) zqD (Js _) (by rfl) ?_;simp only[VV];simp+decide only[qa,ev,qH,qF,putD,VM,VO,VN,Ka,true_and,↓qd,qb,setAt,VW,Ki,Jr,Nat.reduceAdd];apply hK;clear hK K;refine qN ?_;try simp only[Qf,Qu]
  refine qW h zqC (?_) ?_
  ·simp+decide only[QC,qw,qj,VO,Ka,and_true,qw,qj,qg XY QW,Qc,qf,VX,Km,Jr,Nat.reduceAdd,qB,qi,qE,allLive,JS,qf,VX,Km,Jr,Nat.reduceAdd,qB,qi,qE,allLive,JS]
  simp+decide only[VO,Ka,and_true,QF,qw,qj,qg XY QW,Qc,qf,VX,Km,Jr,Nat.reduceAdd,qB,qi,qE,allLive,JS,qf,VX,Km,Jr,Nat.reduceAdd,qB,qi,qE,allLive,JS,nxA,nxR];rw[hnm,if_pos hb1'];rfl
 ·try simp only[decide_eq_false_iff_not,VQ]at hb1
  have hb1':¬((t.all fun b=>Yu b||decide (b=45))=true\/t.getD 0 0=45\/t.getD (n-1) 0=45):=by
   rintro(q|q|q)
   ·rw[q]at hb1;exact absurd hb1.1.1 (by decide)
   ·exact hb1.1.2 ((Zg _ 45).mpr q)
   ·exact hb1.2 (by rw[h1];exact(Zg _ 45).mpr q)
  refine awp_rseq [2,5,6,7,44] (by rfl) fun K hK=>?_;simp+decide only[qa,ev,qH,qF,putD,VM,VO,VN,Ka,true_and,↓qh,qc,↓qA,ql,qC,cond_false,qp,UE,↓qd,qb];apply hK;clear hK K;refine qK (b:=_) rfl (fun hb2=>?_) (fun hb2=>?_)
  ·try simp only[decide_eq_true_eq]at hb2
   refine awp_rseq [2,3,4] (by rfl) fun K hK=>?_;simp+decide only[ev,qH,qF,putD,VM,VO,if_false,true_and,↓Qr,↓qY,qaV,evP,Vj];refine qo (by rfl) (by rfl) zqA QW (by rfl) (by rfl) zqD (Js _) (by rfl) ?_;simp only[VV];simp+decide only[qa,ev,qH,qF,putD,VM,VO,VN,Ka,true_and,↓qd,qb,setAt,VW,Ki,Jr,Nat.reduceAdd];apply hK;clear hK K;refine qN ?_;try simp only[Qf,Qu]
   refine qW h zqC (?_) ?_
   ·simp+decide only[QC,qw,qj,VO,Ka,and_true,qw,qj,qg XY QW,Qc,qf,VX,Km,Jr,Nat.reduceAdd,qB,qi,qE,allLive,JS,qf,VX,Km,Jr,Nat.reduceAdd,qB,qi,qE,allLive,JS]
   simp+decide only[VO,Ka,and_true,QF,qw,qj,qg XY QW,Qc,qf,VX,Km,Jr,Nat.reduceAdd,qB,qi,qE,allLive,JS,qf,VX,Km,Jr,Nat.reduceAdd,qB,qi,qE,allLive,JS,nxA,nxR];rw[hnm,if_neg hb1',if_pos (by omega)];rfl
  ·try simp only[decide_eq_false_iff_not]at hb2
   refine qV ?_;change Awp _ _ _ _ _ _ _;refine awp_rseq [2,3,4] (by rfl) fun K hK=>?_;simp+decide only[ev,putD,VM,VO,Ka,true_and,↓qG,Qb,qg XY QW,↓qh,qc,QP,qf,VX,Km,Jr,Nat.reduceAdd,qB,qi,qE,allLive,JS];refine qo (by rfl) (by rfl) zqA QW (by rfl) (by rfl) zqD (Js _) (by rfl) ?_;simp only[VV];simp+decide only[qa,ev,putD,VM,VO,VN,Ka,true_and,↓qd,qb,setAt,VW,Ki,Jr,Nat.reduceAdd];apply hK;clear hK K;refine qN ?_;refine qW h zqC (?_) ?_
   ·simp+decide only[QC,qw,qj,VO,Ka,and_true,qw,qj,qg XY QW,Qc,qf,VX,Km,Jr,Nat.reduceAdd,qB,qi,qE,allLive,JS,qf,VX,Km,Jr,Nat.reduceAdd,qB,qi,qE,allLive,JS]
   simp+decide only[VO,Ka,and_true,QF,qw,qj,qg XY QW,Qc,qf,VX,Km,Jr,Nat.reduceAdd,qB,qi,qE,allLive,JS,qf,VX,Km,Jr,Nat.reduceAdd,qB,qi,qE,allLive,JS,nxA,nxR];rw[hnm,if_neg hb1',if_neg (by omega)]
theorem find_at{P:Str->Bool}{j:Nat}(hj:j<signs.length)(h0:(signs.take j).find? P=none)(hp:P (signs.getD j [])=true):signs.find? P=some (signs.getD j []):=by
 have e:signs.drop j=signs.getD j []::signs.drop (j+1):=by rw[J4 hj];simp[Kn,hj]
 rw[<-Bo j signs,Bp,h0,Bq,Bo,e,Br,hp]
theorem qrO{P:Str->Bool}{j:Nat}(hj:j<signs.length)(h0:(signs.take j).find? P=none)(hp:P (signs.getD j [])=false):(signs.take (j+1)).find? P=none:=by
 have e:signs.take (j+1)=signs.take j++[signs.getD j []]:=by rw[VJ,Jz hj];simp[Kn,hj]
 rw[e,Bp,h0,Bq,Br,hp];rfl
set_option maxHeartbeats 1000000 in
theorem c_sign(wz:World)(h:AHeap)(kx:Nat)(lf:Bool)(s:Str)(mv tv:AVal)(i:Nat)(eb_x:h kx=some ⟨[.bool lf, .str s,mv, .int .i64 i,tv],0⟩)(hi:i<s.length)(hs:s.length<=1099511627776):
 ACall Tryz.prog wz 113 [.ptr (.own kx) 0] h (fun r h'=>r=nxR (qdJ s i)/\h'=h):=by
 have hs_h:Sub h h:=Vl h;obtain⟨P,hP⟩:∃P:Str->Bool,P=fun g=>g.isPrefixOf (s.drop i):=⟨_,rfl⟩
 have hse:qdJ s i=match signs.find? P with|some g=>Tok.takeE s i 5 g.length|none=> .err 4:=by rw[hP];rfl
 have hdr:(s.drop ((i:Int)).toNat).take (((s.length:Nat):Int).toNat-((i:Int)).toNat)=s.drop i:=by rw[Vq,Vq,Jq (by simp)]
 refine qP (n:=34) (rs:=[.cell 2 54, .tmp 3, .tmp 4]) Tryz.func113 rfl rfl rfl rfl (VL rfl) ?_;simp only[Qd];refine awp_rseq [0,2] (by rfl) fun K hK=>?_;refine Qk UO (cs:=[.int .u8 0, .str [], .int .i64 0, .int .i64 0, .bool false]) (by rfl) fun k0q0 hk0q0=>?_;have hn_0q0:h k0q0=none:=by first|assumption|(simp only[V7]at hk0q0;simp only[hk0q0])
 have hf_0q0:h k0q0=none:=Bg hs_h hn_0q0;have ne_0q0_x:k0q0≠kx:=Bh hn_0q0 eb_x;simp+decide only[qa,ev,qH,qF,putD,VM,VN,Ka,true_and,↓qd,qb];apply hK;clear hK K;refine qL ?_;refine awp_rseq [0,2,7,8,9] (by rfl) fun K hK=>?_;refine Qn (cs:=signs.map AVal.str) (by kernel_rfl) fun k1q0 hk1q0=>?_;have ne_1q0_0q0:k1q0≠k0q0:=by simp only[V7]at hk1q0;simp only[hk1q0,ne_eq,not_false_eq_true]
 have hn_1q0:h k1q0=none:=by first|assumption|(simp only[V7]at hk1q0;simp only[hk1q0])
 have hf_1q0:h k1q0=none:=Bg hs_h hn_1q0;have ne_1q0_x:k1q0≠kx:=Bh hn_1q0 eb_x;simp+decide only[qa,ev,qH,qF,putD,VM,VO,VN,Ka,true_and,↓Xt,QD,ZK Tryz.underlying30,↓qh,qc];apply hK;clear hK K;refine Qp ?_;refine XE [0,2,7,8,9] (fun j:Nat=>[(0, .ptr (.own kx) 0),(2, .ptr (.own k0q0) 0),(7, .slice (.own k1q0) 0 14 (.exact 14)),(8, .int .i64 14),(9, .int .i64 j)]) (fun j:Nat=>(h.set k0q0 ⟨[.int .u8 0, .str [], .int .i64 0, .int .i64 0, .bool false],0⟩).set k1q0 ⟨signs.map AVal.str,0⟩) (fun j:Nat=>j<=14/\(signs.take j).find? P=none) (fun j:Nat=>14-j) 0 (by rfl) (Vl _) ⟨Js _,rfl⟩ ?_;rintro j ⟨hj,hf⟩;refine awp_rseq [0,2,7,8,9,10] (by rfl) fun K hK=>?_;simp+decide only[qa,ev,putD,VM,VO,VN,Ka,true_and,↓qA,ql,qZ,cond_false,qp,Zc];apply hK;clear hK K;refine qL (qK (b:=_) rfl (fun hb1=>?_) (fun hb1=>?_))
 ·try simp only[decide_eq_true_eq]at hb1
  have hj':j<14:=by omega
  obtain⟨g,hg⟩:∃g,g=signs.getD j []:=⟨_,rfl⟩
  have he:(signs.map AVal.str).getD (j*1) .dead= .str g:=by rw[Nat.mul_one,hg];simp[Kn,show j<signs.length from hj']
  refine qV ?_;change Awp _ _ _ _ _ _ _;refine qL ?_;refine Qp ?_;refine awp_rseq [0,2,6,7,8,9] (by rfl) fun K hK=>?_;simp+decide only[qa,ev,putD,VM,VO,VN,Ka,true_and,↓QN,Qb,Qh Tryz.underlying30 sz9,↓qG,qz ag9,↓qd,qb,QP,Jr,he,Vq,AVal.live];repeat (with_reducible refine And.intro ?_ ?_;· first|trivial|omega|(intro hg;simp only[Kw,JV,Ji,VP,VQ,VS,decide_eq_true_eq,decide_eq_false_iff_not,XT]at hg;omega))
  apply hK;clear hK K;refine WP [0,2,6,7,8,9,24] mixed (by kernel_rfl) (by rfl) fun K hK=>?_;simp+decide only[ev,putD,VM,VO,Ka,true_and,↓qcP,qc,↓qbU,qO,Qm,↓Uu,qm,Ue,We,↓qev,Xz,qz ag9,Wv,qz ag3,↓qmt,Zt,evO,qdf Tryz.underlying9,qaH,qeV,UH,QL,ne_eq,not_false_eq_true,ne_0q0_x.symm,ne_1q0_x.symm,Qz wz eb_x,VX,Km,Jr,qi,qE,hdr];repeat (with_reducible refine And.intro ?_ ?_;· first|trivial|omega|(intro hg;simp only[Kw,JV,Ji,VP,VQ,VS,decide_eq_true_eq,decide_eq_false_iff_not,XT]at hg;omega))
  refine qit (V:= .bool (P g)) (by rfl) (by rfl) (by rw[hP];exact qoR wz _ (s.drop i) g) ?_;simp+decide only[qbw,putD,VM,VN,Ka];apply hK;clear hK K;refine qK (b:=_) rfl (fun hb2=>?_) (fun hb2=>?_)
  ·skip
   have hse':qdJ s i=Tok.takeE s i 5 g.length:=by rw[hse,find_at hj' hf (by rw[<-hg];exact hb2),<-hg]
   have hgl:i+g.length<=s.length:=by
    rw[hP]at hb2;have:=(Vv.1 hb2).length_le;rw[K5]at this;omega
   refine awp_rseq [2,3,4] (by rfl) fun K hK=>?_;simp+decide only[ev,putD,VM,VO,Ka,true_and,↓qh,qc,↓Xt,QD,YW Tryz.underlying9];refine qM (V:=nxR (Tok.takeE s i 5 g.length)) (by rfl) (by rfl) (qeT wz _ kx lf s mv tv i g.length 5 (zqA) hgl hs) ?_;simp+decide only[ev,putD,VM,VO,Ka,true_and,↓QV,QI,QT,KX,J8,VX,Km,VX,Km,Jr,Nat.reduceAdd,nxA,nxR,Tok.takeE];refine qo (by rfl) (by rfl) zqA QW (by rfl) (by rfl) zqD (Js _) (by rfl) ?_;simp only[VV];simp+decide only[qa,ev,putD,VM,VO,VN,Ka,true_and,↓qd,qb,setAt,VW,Ki,Jr,Nat.reduceAdd];apply hK;clear hK K;refine qN ?_;try simp only[Qf,Qu]
   refine qW h zqC (?_) ?_
   ·simp+decide only[QC,qw,qj,VO,Ka,and_true,qw,qj,qg XY QW,Qc,qf,VX,Km,Jr,Nat.reduceAdd,qB,qi,qE,allLive,JS,qf,VX,Km,Jr,Nat.reduceAdd,qB,qi,qE,allLive,JS]
   simp+decide only[VO,Ka,and_true,QF,qw,qj,qg XY QW,Qc,qf,VX,Km,Jr,Nat.reduceAdd,qB,qi,qE,allLive,JS,qf,VX,Km,Jr,Nat.reduceAdd,qB,qi,qE,allLive,JS,nxA,nxR];rw[hse'];rfl
  ·skip
   refine qV ?_;change Awp _ _ _ _ _ _ _;refine XL [0,2,7,8,9] (by rfl) ?_;simp+decide only[qa,ev,qH,qF,putD,VM,VO,VN,Ka,true_and,↓qA,ql,qC,cond_false,qp,Xc,↓qh,qc,nxA,nxR];try simp(disch:=omega)only[wrap_i64]
   try simp only[Qi]
   exact⟨j+1,rfl,Vl _,⟨hj',qrO hj' hf (by rw[<-hg];exact hb2)⟩,by omega⟩
 ·try simp only[decide_eq_false_iff_not]at hb1
  have hj14:j=14:=by omega
  have hse':qdJ s i= .err 4:=by
   rw[hse];rw[hj14]at hf;rw[show signs.find? P=none from hf]
  refine XJ ?_;change Awp _ _ _ _ _ _ _;refine awp_rseq [2,3,4] (by rfl) fun K hK=>?_;simp+decide only[ev,qH,qF,putD,VM,VO,if_false,true_and,↓Qr,↓qY,qaV,evP,Vj];refine qo (by rfl) (by rfl) zqA QW (by rfl) (by rfl) zqD (Js _) (by rfl) ?_;simp only[VV];simp+decide only[qa,ev,qH,qF,putD,VM,VO,VN,Ka,true_and,↓qd,qb,setAt,VW,Ki,Jr,Nat.reduceAdd];apply hK;clear hK K;refine qN ?_;refine qW h zqC (?_) ?_
  ·simp+decide only[QC,qw,qj,VO,Ka,and_true,qw,qj,qg XY QW,Qc,qf,VX,Km,Jr,Nat.reduceAdd,qB,qi,qE,allLive,JS,qf,VX,Km,Jr,Nat.reduceAdd,qB,qi,qE,allLive,JS]
  simp+decide only[VO,Ka,and_true,QF,qw,qj,qg XY QW,Qc,qf,VX,Km,Jr,Nat.reduceAdd,qB,qi,qE,allLive,JS,qf,VX,Km,Jr,Nat.reduceAdd,qB,qi,qE,allLive,JS,nxA,nxR];rw[hse'];rfl
end Go.Proofs.YtlhhaagmakhilaaGreatDoor
namespace Go.Proofs.YtlhhaagmakhilaaGreatDoor
open Go.AM
open Go.Proofs
set_option maxRecDepth 100000
theorem cc_fresh(b:Nat)(w:World)(T:TypeId)(cells:Nat)(h0:w.cell? ⟨b,0,none⟩=some (.pointer none))(hsh:w.shape? b=some (T,cells))(hc:0<cells)
 (hlies:liesAt Tryz.prog Tryz.prog.depth T (cells / Tryz.prog.cellsOf T) 0 140 1=true) (hfz:w.frozen? ⟨b,0,none⟩=false):
 Calls Tryz.prog 89 #[.pointer (some ⟨b,0,none⟩)] w fun e w'=>e= .returned (.tuple #[])/\w'=w.setCell ⟨b,0,none⟩ (.pointer (some ⟨b,0,none⟩)):=by
 have hsz:(Tryz.prog.info? 140).map (·.size)=some 2:=by kernel_rfl
 obtain⟨j,hj,hjs⟩:=Kb.1 hsz
 go_enter Tryz.func89,Tryz.ntmps89
 go_wp2
 rw[Lib.run_to_unsafe w ⟨b,0,none⟩ Tryz.underlying138 Tryz.underlying189 hj (by rw[hjs];decide) hsh hc];simp only[Result.andThen];rw[Oper.upon_value]
 go_wp2
 rw[run_callFunc_extern Tryz.func119 (by kernel_rfl) (by kernel_rfl) (by kernel_rfl) (e:=Extern.AbiNoEscape.same) (by kernel_rfl)];rw[Lib.run_noEscape];simp only[Result.andThen];rw[Oper.upon_value]
 go_wp2
 rw[Lib.run_from_unsafe w ⟨b,0,none⟩ Tryz.underlying189 Tryz.underlying138 hj hsh hlies];simp only[Result.andThen];rw[Oper.upon_value]
 go_wp2
 go_end0
 exact⟨rfl,rfl⟩
theorem cc_used(b:Nat)(w:World)(h0:w.cell? ⟨b,0,none⟩=some (.pointer (some ⟨b,0,none⟩))):
 Calls Tryz.prog 89 #[.pointer (some ⟨b,0,none⟩)] w fun e w'=>e= .returned (.tuple #[])/\w'=w:=by
 have hsz:(Tryz.prog.info? 140).map (·.size)=some 2:=by kernel_rfl
 obtain⟨j,hj,hjs⟩:=Kb.1 hsz
 go_enter Tryz.func89,Tryz.ntmps89
 go_wp2
 rw[Lib.run_neq_ptr_same w _ Tryz.underlying138 hj]
 go_wp2
 go_end0
 exact⟨rfl,rfl⟩
structure BldT(T:TypeId)(m:Nat):Prop where
 lies:liesAt Tryz.prog Tryz.prog.depth T 1 0 140 1=true
 cells:Tryz.prog.cellsOf T=m
 two:2<=m
theorem qnE(wz:World)(h:AHeap)(k:Nat)(rest:List AVal)(st:Bld)(T:TypeId)(hT:BldT T (rest.length+2))(ht:Uf k=some T)(hst:st.ok 5 h k):
 ACall Tryz.prog wz 89 [.ptr (.own k) 0] (bldH h k rest st) (fun v h'=>v= .tuple []/\h'=bldH h k rest ⟨true,st.buf⟩):=by
 intro fi vals w hr hvs;simp only[VRs,VR]at hvs;obtain⟨v,vs',rfl,⟨a,ha,rfl⟩,rfl⟩:=hvs;obtain⟨p,hp,hp0,ok⟩:=hr.own k _ (qbu hst);obtain⟨t0,cs0,fr0,hcs0⟩:=hr.typ k p hp T ht;simp only[Xl,hp,KH,Option.some.injEq]at ha;have okr:RowOk fi ⟨st.head k::st.slice::rest,0⟩ p w:=by
  rcases ok with q|q
  ·exact q
  ·have:=q.frz
   simp at this
 obtain⟨cs,e,lo,hi,h1,h2,h3,h4,h5,h6⟩:=okr.row;rw[hcs0]at h1;cases h1;obtain⟨c0,hc0,hv0⟩:=ok.cell 0 (by simp) (Bld.head_live _ _);have hfz:=okr.frozen 0 (Js _) (by simp at h3;omega);rw[t0]at hc0 hfz ha;simp only[Jr]at hc0 hfz ha;subst ha;have hsh:w.shape? p.blk=some (T,cs0.size):=by simp[World.shape?,hcs0]
 have hr':=hr.setCell (qbu hst) hp (o:=0) (x:= .ptr (.own k) 0) (v:= .pointer (some ⟨p.blk,0,none⟩)) (by simp only[VR];exact⟨_,by simp[Xl,hp,t0],rfl⟩) rfl (by simp) (Js _);simp only[VW]at hr';rw[qsk hst,t0]at hr';have hun:VR fi (.tuple []) (.tuple #[]):=by simp only[VR];exact⟨[],rfl,by simp[VRs]⟩
 refine .inl ⟨_,Tryz.func89,rfl,rfl,?_⟩;simp only[VX]at hv0;by_cases hu:st.used=true
 ·have e0:st.head k= .ptr (.own k) 0:=by rw[Bt,if_pos hu]
  rw[e0]at hv0;simp only[VR,Xl,hp,KH,Option.some.injEq]at hv0;obtain⟨a,ha,rfl⟩:=hv0;subst ha;rw[t0]at hc0;refine(cc_used p.blk w (by simpa using hc0)).mono fun e w' ⟨e1,e2⟩=>⟨.tuple #[],e1,fi, .tuple [],_,fi.le_refl,?_,hun,rfl,rfl⟩
  rw[e2];have:st=⟨true,st.buf⟩:=by cases st;simp at hu;simp[hu]
  rw[<-this];exact hr
 ·have e0:st.head k= .nilPtr:=by rw[Bt,if_neg hu]
  rw[e0]at hv0;simp only[VR]at hv0;subst hv0;have hle:rest.length+2<=cs0.size:=by simp at h3;omega
  refine(cc_fresh p.blk w T cs0.size hc0 hsh (by omega) (qlC hT.lies (fun m u=>by rw[Tryz.underlying140];simp) (by
   rw[hT.cells];exact Nat.div_pos hle (by omega))) hfz).mono fun e w' ⟨e1,e2⟩=>⟨.tuple #[],e1,fi, .tuple [],_,fi.le_refl,?_,hun,rfl,rfl⟩
  rw[e2];exact hr'
set_option maxHeartbeats 1000000 in
theorem bs_some(b g cap cells:Nat)(l:List UInt8)(h0:l≠[])(w:World)(hc1:w.cell? ⟨b,1,none⟩=some (.slice (some ⟨g,0,none⟩) l.length cap))(hcap:cap≠0)(hsh:w.shape? g=some (5,cells))(hn:l.length<=cells)
 (h63:l.length<=9223372036854775807) (hcell:∀j x,l[j]?=some x->w.cell? ((⟨g,0,none⟩:Addr).add j)=some (.int .u8 x.toNat)):
 Calls Tryz.prog 72 #[.pointer (some ⟨b,0,none⟩)] w fun e w'=>e= .returned (.string ⟨l.toArray⟩)/\w'=w.drew.freeze ⟨g,0,none⟩ l.length:=by
 have c1:w.drew.cell? ⟨b,1,none⟩=some (.slice (some ⟨g,0,none⟩) l.length cap):=hc1;have hSD:(Builtin.unsafeSliceData_ #[22] 166 #[.slice (some ⟨g,0,none⟩) l.length cap]).run Tryz.prog w.drew= .ok (.pointer (some ⟨g,0,none⟩)) w.drew:=Lib.run_unsafeSliceData_row _ _ _ _ _ _ hcap;have hUS:(Builtin.unsafeString_ #[166,3] 9 #[.pointer (some ⟨g,0,none⟩), .int .i64 l.length]).run Tryz.prog w.drew= .ok (.string ⟨l.toArray⟩) (w.drew.freeze ⟨g,0,none⟩ l.length):=
  Lib.run_unsafeString_row w.drew 166 3 9 5 Tryz.underlying166 (by kernel_rfl) g cells hsh l h0 hn h63 hcell
 go_enter Tryz.func72,Tryz.ntmps72
 go_wp2
 have hmx:Tryz.prog.follows Departure.mixedOrders=true:=mixed
 go_region_o
 all_goals (go_wp2;go_ret;exact⟨rfl,rfl⟩)
set_option maxHeartbeats 1000000 in
theorem bs_nil(b:Nat)(w:World)(hc1:w.cell? ⟨b,1,none⟩=some (.slice none 0 0)):
 Calls Tryz.prog 72 #[.pointer (some ⟨b,0,none⟩)] w fun e w'=>e= .returned (.string ⟨#[]⟩)/\w'=w.drew:=by
 have c1:w.drew.cell? ⟨b,1,none⟩=some (.slice none 0 0):=hc1;have hSD:(Builtin.unsafeSliceData_ #[22] 166 #[.slice none 0 0]).run Tryz.prog w.drew= .ok (.pointer none) w.drew:=rfl;have hUS:(Builtin.unsafeString_ #[166,3] 9 #[.pointer none, .int .i64 0]).run Tryz.prog w.drew= .ok (.string .empty) w.drew:=rfl
 go_enter Tryz.func72,Tryz.ntmps72
 go_wp2
 have hmx:Tryz.prog.follows Departure.mixedOrders=true:=mixed
 go_region_o
 all_goals (go_wp2;go_ret;exact⟨rfl,rfl⟩)
theorem qsg(wz:World)(h:AHeap)(k:Nat)(rest:List AVal)(st:Bld)(T:TypeId)(hk:h k=none)(ht:Uf k=some T)(hst:st.ok 5 h k)(hl:st.bytes.length<=140737488355328):
 ACall Tryz.prog wz 72 [.ptr (.own k) 0] (bldH h k rest st) (fun v h'=>v= .str st.bytes/\h'=h):=by
 intro fi vals w hr hvs;simp only[VRs,VR]at hvs;obtain⟨v,vs',rfl,⟨a,ha,rfl⟩,rfl⟩:=hvs;obtain⟨p,hp,hp0,ok⟩:=hr.own k _ (qbu hst);obtain⟨t0,cs0,fr0,hcs0⟩:=hr.typ k p hp T ht;simp only[Xl,hp,KH,Option.some.injEq]at ha;obtain⟨c1,hc1,hv1⟩:=ok.cell 1 (by simp) (Bu _);rw[t0]at hc1 ha;simp only[Jr]at hc1 ha;subst ha;simp only[Km,VX]at hv1;refine .inl ⟨_,Tryz.func72,rfl,rfl,?_⟩;cases hb:st.buf with
 |none=>
  have e1:=Bv hb;have e2:=Bw hb;rw[e1]at hv1;simp only[VR]at hv1;subst hv1;rw[e2];refine(bs_nil p.blk w hc1).mono fun e w' ⟨e1,e2⟩=>⟨_,e1,fi, .str [],h,fi.le_refl,?_,rfl,rfl,rfl⟩
  rw[e2];exact hr.drew.forget (Bz hk hst)
 |some q=>
  obtain⟨kb,l⟩:=q;have e1:=BA hb;have e2:=BB hb;obtain⟨s1,s2,s3,s4⟩:=(Bld.ok_some hb).1 hst;have hkb:=qnJ (h:=h) (k:=k) (rest:=rest) hb;obtain⟨pb,hpb,hpb0,okb⟩:=hr.own kb _ hkb;obtain⟨tb0,csb,frb,hcsb⟩:=hr.typ kb pb hpb _ s3;obtain⟨cs,e,lo,hi,h1,h2,h3,h4,h5,h6⟩:=okb.row (Js _);rw[hcsb]at h1;cases h1;rw[byteCells_length]at h3;rw[e1]at hv1;simp only[VR]at hv1;obtain⟨k',p',c,a,hk',hp',rfl,hle,hca⟩:=hv1;cases hk';rw[hpb]at hp';cases hp';have hln:l.length≠0:=by simpa using s4
  obtain⟨ha,hroom⟩:=hca (by omega);subst ha;rw[tb0]at hc1;rw[e2];rw[e2]at hl;refine(bs_some p.blk pb.blk c csb.size l s4 w hc1 (by omega) (by simp[World.shape?,hcsb]) (by omega) (by omega) fun j x hj=>?_).mono fun e w' ⟨f1,f2⟩=>⟨_,f1,fi, .str l,h,fi.le_refl,?_,rfl,rfl,rfl⟩
  ·have hjl:j<l.length:=by
    rcases Nat.lt_or_ge j l.length with hx|hx
    ·exact hx
    ·rw[Kq hx]at hj;cases hj
   obtain⟨cj,hcj,hvj⟩:=okb.cell j (by rw[byteCells_length];exact hjl) (by rw[qbP hjl];rfl);rw[tb0,Jr]at hcj;simp only[qbP hjl]at hvj;simp only[VR]at hvj;subst hvj;have ex:l.getD j 0=x:=by rw[Kn,hj];rfl
   rw[ex]at hcj;have e8:(⟨pb.blk,0,none⟩:Addr).add j=⟨pb.blk,j,none⟩:=by
    unfold Addr.add;by_cases hi:j=0<;>simp[hi]
   rw[e8];exact hcj
  ·subst f2
   obtain⟨z1,z2,z3,z4,z5,z6⟩:=qlI w.drew ⟨pb.blk,0,none⟩ l.length;exact hr.drew.dropRow hkb hpb z1 z2 z3 z4 z5 z6 fun j c hj=>⟨Bz hk hst j c hj,fun e=>by subst e;rw[s2]at hj;cases hj⟩
end Go.Proofs.YtlhhaagmakhilaaGreatDoor
namespace Go.Proofs.YtlhhaagmakhilaaGreatDoor
open Go.AM
open Go.Proofs
set_option maxRecDepth 100000
theorem u8_typ:(5:Nat)<4096:=by decide
theorem qnG(wz:World)(h:AHeap)(k:Nat)(rest:List AVal)(st:Bld)(T:TypeId)(hT:BldT T (rest.length+2))(ht:Uf k=some T)(hk:h k=none)(hst:st.ok 5 h k)(c:UInt8)(hl:st.bytes.length+1<=140737488355328):
 ACall Tryz.prog wz 135 [.ptr (.own k) 0, .int .u8 c.toNat] (bldH h k rest st) (fun v h'=>v= .nilIface/\∃st':Bld,st'.ok 5 h k/\st'.bytes=st.bytes++[c]/\h'=bldH h k rest st'):=by
 have hst2:(⟨true,st.buf⟩:Bld).ok 5 h k:=hst;have hhead:=qbu (rest:=rest) hst2;refine qP (n:=17) (rs:=[.tmp 4]) Tryz.func135 rfl rfl rfl rfl (VL rfl) ?_;simp only[Qd];refine awp_rseq [0,1] (by rfl) fun K hK=>?_;simp+decide only[qa,ev,qH,qF,putD,VM,VN,Ka,true_and,↓qd,qb];apply hK;clear hK K;refine awp_rseq [0,1] (by rfl) fun K hK=>?_;simp+decide only[ev,putD,VM,VO,Ka,true_and,↓qh,qc];refine QO (by rfl) (by rfl) (qnE wz h k rest st T hT ht hst) fun x1q1 h1q1 hx1q1=>?_;obtain⟨rfl,rfl⟩:=hx1q1;simp+decide only[qa,putD,VM,VN,Ka];apply hK;clear hK K;refine awp_rseq [] (by rfl) fun K hK=>?_;simp+decide only[ev,putD,VM,VO,Ka,true_and,↓qh,qc,↓Qj,qO,Qm,↓qD,qm,qlP,↓qG,Qb,qz ag22,Bu,VX,Km,Qz wz hhead];refine Qn (cs:=byteCells [c]) (by rfl) fun k6 hk6=>?_;refine qjU (src:=[c]) (hZ:=h) (k:=k) (cs:=rest) (st:=⟨true,st.buf⟩) (by rfl) (by rfl) Tryz.underlying22 Tryz.underlying22 (by intro k e;cases e) sz5 by5 ze5 u8_typ (by rfl) hk hst2 (Vg hk6) (by rfl) (SrcB.of (IsB.own (Vd _ _ _) rfl (KJ _))) (by simpa[Bld.bytes]using hl) fun st' hu' hst' hb' h' hk' hsub=>?_;simp+decide only[ev,putD,VM,VO,Ka,true_and,↓Qj,qO,Qm,↓qD,qm,qlP];refine qo (by rfl) (by rfl) hk' sz22 (Bu _) (by rw[BC];rfl) (by simp) (Js _) (by rw[BC];simp[QG,Bld.slice_scal]) ?_;rw[BC];simp only[setAt,Ki,VW];have hhd:st'.head k=(⟨true,st.buf⟩:Bld).head k:=by unfold Bt;rw[hu']
 rw[hhd]at hsub;simp+decide only[qa,putD,VN,if_false];apply hK;clear hK K;refine awp_rseq [4] (by rfl) fun K hK=>?_;simp+decide only[qa,ev,qH,qF,putD,VM,VN,if_true,true_and,↓qd,qb];apply hK;clear hK K;refine qN ?_;refine qW (bldH h k rest st') hsub (qR (Qa)) ?_;simp+decide only[VO,if_true,true_and,Ql];exact⟨st',hst',hb',rfl⟩
end Go.Proofs.YtlhhaagmakhilaaGreatDoor
namespace Go.Proofs.YtlhhaagmakhilaaGreatDoor
open Go.AM
open Go.Proofs
open Go.Col
open Go.Tok
open Go.RowKit (Below)
set_option maxRecDepth 100000
theorem Bld.slice_lenT{st:Bld}:st.slice= .nilSlice/\st.bytes=[]\/∃l o c,st.slice= .slice l o st.bytes.length c:=by
 cases hb:st.buf with
 |none=>exact .inl ⟨Bv hb,Bw hb⟩
 |some q=>exact .inr ⟨.own q.1,0, .grow 1,by rw[BA (kb:=q.1) (l:=q.2) hb,BB (kb:=q.1) (l:=q.2) hb]⟩
theorem c_bLenT(wz:World)(h:AHeap)(k:Nat)(rest:List AVal)(st:Bld)(hst:st.ok 5 h k):
 ACall Tryz.prog wz 96 [.ptr (.own k) 0] (bldH h k rest st) (fun v h'=>v= .int .i64 st.bytes.length/\h'=bldH h k rest st):=by
 have hhead:=qbu (rest:=rest) hst;have r1:rd wz (bldH h k rest st) (.own k) 1=st.slice:=Qz wz hhead 1;have hl:∀H:AHeap,Yn Tryz.prog H 22 st.slice=⟨True, .int .i64 st.bytes.length⟩:=by
  rcases Bld.slice_lenT (st:=st)with⟨e1,e2⟩|⟨l,o,c,e⟩
  ·rw[e1,e2];exact fun _=>qdU Tryz.underlying22
  ·rw[e];exact fun _=>ZK Tryz.underlying22 _ _ _ _
 refine qP (n:=8) (rs:=[.tmp 2]) Tryz.func96 rfl rfl rfl rfl (VL rfl) ?_;simp only[Qd];refine awp_rseq [0] (by rfl) fun K hK=>?_;simp+decide only[qa,ev,qH,qF,putD,VM,VN,Ka,true_and,↓qd,qb];apply hK;clear hK K;refine awp_rseq [2] (by rfl) fun K hK=>?_;simp+decide only[qa,ev,putD,VM,VO,VN,Ka,true_and,↓qh,qc,↓Qj,qO,Qm,↓qD,qm,qlP,↓qG,Qb,qz ag22,↓Xt,QD,↓qd,qb,r1,Bu,hl];apply hK;clear hK K;refine qN ?_;refine qW _ (Vl _) (qR (Qa)) ?_;simp+decide only[VO,if_true,and_true,Ql];all_goals first|rfl|exact⟨rfl,rfl⟩|(simp+decide only[Ka, *];done)|(trace_state;fail)
theorem qpb:BldT 140 ([]:List AVal).length.succ.succ:=⟨by kernel_rfl,by kernel_rfl,by decide⟩
set_option maxHeartbeats 1000000 in
theorem c_quote(wz:World)(h:AHeap)(kx:Nat)(lf:Bool)(s:Str)(mv tv:AVal)(i:Nat)(eb_x:h kx=some ⟨[.bool lf, .str s,mv, .int .i64 i,tv],0⟩)(hi:i<s.length)(hs:s.length<=1099511627776):
 ACall Tryz.prog wz 108 [.ptr (.own kx) 0] h (fun r h'=>r=nxR (qaO s i)/\h'=h):=by
 have hs_h:Sub h h:=Vl h;refine qP (n:=44) (rs:=[.cell 2 54, .tmp 3, .tmp 4]) Tryz.func108 rfl rfl rfl rfl (VL rfl) ?_;simp only[Qd];refine awp_rseq [0,2] (by rfl) fun K hK=>?_;refine Qk UO (cs:=[.int .u8 0, .str [], .int .i64 0, .int .i64 0, .bool false]) (by rfl) fun k0q0 hk0q0=>?_;have hn_0q0:h k0q0=none:=by first|assumption|(simp only[V7]at hk0q0;simp only[hk0q0])
 have hf_0q0:h k0q0=none:=Bg hs_h hn_0q0;have ne_0q0_x:k0q0≠kx:=Bh hn_0q0 eb_x;simp+decide only[qa,ev,qH,qF,putD,VM,VN,Ka,true_and,↓qd,qb];apply hK;clear hK K;refine qsm [0,2,5] (by decide) (by decide) ze140 (cs:=[.nilPtr, .nilSlice]) (by rfl) fun k1q0 hk1q0 ht1q0=>?_;simp+decide only[VM,VN,Ka];have ne_1q0_0q0:k1q0≠k0q0:=by simp only[V7]at hk1q0;simp only[hk1q0,ne_eq,not_false_eq_true]
 have hn_1q0:h k1q0=none:=by first|assumption|(simp only[V7]at hk1q0;simp only[hk1q0])
 have hf_1q0:h k1q0=none:=Bg hs_h hn_1q0;have ne_1q0_x:k1q0≠kx:=Bh hn_1q0 eb_x;obtain⟨H,hH⟩:∃H,H=h.set k0q0 ⟨[.int .u8 0, .str [], .int .i64 0, .int .i64 0, .bool false],0⟩:=⟨_,rfl⟩
 have hxH:H kx=some ⟨[.bool lf, .str s,mv, .int .i64 i,tv],0⟩:=by rw[hH];exact zqA
 have h0H:H k0q0=some ⟨[.int .u8 0, .str [], .int .i64 0, .int .i64 0, .bool false],0⟩:=by rw[hH];exact zqA
 have hsH:Sub h H:=by rw[hH];exact zqB
 rw[<-hH]at hk1q0|-
 refine qL ?_;refine awp_rseq [0,2,5,6] (by rfl) fun K hK=>?_;simp+decide only[qa,ev,qH,qF,putD,VM,VN,Ka,true_and,↓qd,qb];apply hK;clear hK K;refine Qp ?_;refine XE [0,2,5,6] (fun g:Nat×Bld=>[(0, .ptr (.own kx) 0),(2, .ptr (.own k0q0) 0),(5, .ptr (.own k1q0) 0),(6, .int .i64 g.1)]) (fun g:Nat×Bld=>bldH H k1q0 [] g.2) (fun g:Nat×Bld=>i+g.1<=s.length/\g.2.ok 5 H k1q0/\Zr (s.drop (i+g.1)) g.2.bytes g.1=qaO s i/\g.2.bytes.length<=g.1) (fun g:Nat×Bld=>s.length-g.1) (1,Bld.none) (by rfl) (Vl _) ⟨hi,Bld.none_ok,rfl,Js _⟩ ?_;rintro⟨n,st⟩ ⟨hn,hst,hgo,hbl⟩;simp only at hn hst hgo hbl|-
 have hsb:=Bz (rest:=[]) hk1q0 hst;have hSb:=hsH.trans hsb;have hxb:=hsb _ _ hxH;have h0b:=hsb _ _ h0H;have rx:=fun o=>Qz wz hxb o;refine qL ?_;refine Zj [0,2,5,6,19] mixed (by kernel_rfl) (by rfl) (by rfl) fun K hK=>?_;simp+decide only[qa,ev,putD,VM,VO,VN,Ka,true_and,↓qh,qc,↓Qj,qO,Qm,↓qD,qm,Wv,↓qG,Qb,qz ag3,↓qA,ql,qZ,cond_false,qp,Xc,Ue,We,qz ag9,↓Xt,QD,YW Tryz.underlying9,Zc,VX,Km,Jr,qi,qE,rx];try simp(disch:=omega)only[wrap_i64]
 apply hK;clear hK K;refine qK (b:=_) rfl (fun hb1=>?_) (fun hb1=>?_)
 ·try simp only[decide_eq_true_eq]at hb1
  have hin:i+n<s.length:=by omega
  have hpn:Qo s ((i:Int)+n)=s.getD (i+n) 0:=by rw[show(i:Int)+(n:Int)=((i+n:Nat):Int) by omega,YK hin]
  have hpn1:Qo s ((i:Int)+((n:Int)+1))=Qo s ((i+n+1:Nat):Int):=by congr 1
  rw[qdn hin]at hgo;refine qV ?_;change Awp _ _ _ _ _ _ _;refine qL ?_;refine Qp ?_;refine qL ?_;refine awp_rseq [0,2,5,6,25] (by rfl) fun K hK=>?_;simp+decide only[ev,putD,VM,VO,Ka,true_and,↓qh,qc];refine qM (V:= .int .u8 (s.getD (i+n) 0).toNat) (by rfl) (by rfl) (by rw[<-hpn];exact Ut wz _ kx lf s mv tv i n hxb (by omega) (by omega) (by omega)) ?_;simp+decide only[qa,ev,qH,qF,putD,VM,VO,VN,Ka,true_and,↓qA,ql,qC,cond_false,qp,XH];apply hK;clear hK K;refine Ub [0,2,5,6] (fun m:Nat=>[(0, .ptr (.own kx) 0),(2, .ptr (.own k0q0) 0),(5, .ptr (.own k1q0) 0),(6, .int .i64 m)]) (fun m:Nat=>bldH H k1q0 [] st) (fun m:Nat=>n<=m/\i+m<s.length/\Zr (s.drop (i+m+1)) (st.bytes++[s.getD (i+m) 0]) (m+1)=qaO s i) ?_ ?_
  ·refine qK (b:=_) rfl (fun hb2=>?_) (fun hb2=>?_)
   ·try simp only[decide_eq_true_eq]at hb2
    have hb2':s.getD (i+n) 0=34:=(Zg _ 34).mp hb2;rw[hb2']at hgo;refine qL ?_;refine awp_rseq [0,2,5,6,30] (by rfl) fun K hK=>?_;simp+decide only[ev,qH,qF,putD,VM,VO,Ka,true_and,↓qh,qc,↓qA,ql,qC,cond_false,qp,Xc];try simp(disch:=omega)only[wrap_i64]
    refine qM (V:= .int .u8 (Qo s ((i:Int)+((n:Int)+1))).toNat) (by rfl) (by rfl) (Ut wz _ kx lf s mv tv i ((n:Int)+1) hxb (by omega) (by omega) (by omega)) ?_;simp+decide only[qa,ev,qH,qF,putD,VM,VO,VN,Ka,true_and,↓qA,ql,qC,cond_false,qp,qaP];apply hK;clear hK K;refine qK (b:=_) rfl (fun hb3=>?_) (fun hb3=>?_)
    ·try simp only[decide_eq_false_iff_not,Ji]at hb3
     have hb3':(s.drop (i+n+1)).head?≠some 34:=by
      intro e;rw[List.head?_drop]at e;obtain⟨e1,e2⟩:=List.getElem?_eq_some_iff.1 e;rw[hpn1,YK e1,Kn,e]at hb3;exact hb3 rfl
     rw[qdR hb3']at hgo;refine qL ?_;refine awp_rseq [2,5,6,32] (by rfl) fun K hK=>?_;refine qM (V:= .int .i64 st.bytes.length) (by rfl) (by rfl) (c_bLenT wz H k1q0 [] st hst) ?_;simp+decide only[qa,ev,qH,qF,putD,VM,VO,VN,Ka,true_and,↓qA,ql,qC,cond_false,qp,XH];apply hK;clear hK K;refine qK (b:=_) rfl (fun hb4=>?_) (fun hb4=>?_)
     ·try simp only[decide_eq_true_eq]at hb4
      have hne:st.bytes=[]:=Ke (by omega);have hgo':qaO s i= .err 4:=by rw[<-hgo,if_pos hne]
      refine XJ ?_;change Awp _ _ _ _ _ _ _;refine awp_rseq [2,3,4] (by rfl) fun K hK=>?_;simp+decide only[ev,qH,qF,putD,VM,VO,if_false,true_and,↓Qr,↓qY,qaV,evP,Vj];refine qo (by rfl) (by rfl) zqA QW (by rfl) (by rfl) zqD (Js _) (by rfl) ?_;simp only[VV];simp+decide only[qa,ev,qH,qF,putD,VM,VO,VN,Ka,true_and,↓qd,qb,setAt,VW,Ki,Jr,Nat.reduceAdd];apply hK;clear hK K;refine qN ?_;refine qW h zqC (?_) ?_
      ·simp+decide only[QC,qw,qj,VO,Ka,and_true,qw,qj,qg XY QW,Qc,qf,VX,Km,Jr,Nat.reduceAdd,qB,qi,qE,allLive,JS,qf,VX,Km,Jr,Nat.reduceAdd,qB,qi,qE,allLive,JS]
      simp+decide only[VO,Ka,and_true,QF,qw,qj,qg XY QW,Qc,qf,VX,Km,Jr,Nat.reduceAdd,qB,qi,qE,allLive,JS,qf,VX,Km,Jr,Nat.reduceAdd,qB,qi,qE,allLive,JS,nxA,nxR];rw[hgo'];rfl
     ·try simp only[decide_eq_false_iff_not]at hb4
      have hne:¬st.bytes=[]:=fun e=>hb4 (by rw[e];rfl);refine qV ?_;change Awp _ _ _ _ _ _ _;refine awp_rseq [2,3,4] (by rfl) fun K hK=>?_;refine QO (by rfl) (by rfl) (qsg wz H k1q0 [] st _ hk1q0 ht1q0 hst (by omega)) fun x8q0 h8q0 hx8q0=>?_;obtain⟨hv8,hh8⟩:=hx8q0;rw[hv8,hh8];rw[if_neg hne]at hgo;simp+decide only[ev,qH,qF,putD,VM,VO,Ka,true_and,↓Qr,↓qY,UA,evP,Kc,Vj,↓qh,qc,↓qA,ql,qC,cond_false,qp,Xc];try simp(disch:=omega)only[wrap_i64]
      refine qo (by rfl) (by rfl) zqA QW (by rfl) (by rfl) zqD (Js _) (by rfl) ?_;simp only[VV];simp+decide only[qa,ev,qH,qF,putD,VM,VO,VN,Ka,true_and,↓qd,qb,setAt,VW,Ki,Jr,Nat.reduceAdd];apply hK;clear hK K;refine qN ?_;try simp only[Qf,Qu]
      refine qW h zqC (?_) ?_
      ·simp+decide only[QC,qw,qj,VO,Ka,and_true,qw,qj,qg XY QW,Qc,qf,VX,Km,Jr,Nat.reduceAdd,qB,qi,qE,allLive,JS,qf,VX,Km,Jr,Nat.reduceAdd,qB,qi,qE,allLive,JS]
      simp+decide only[VO,Ka,and_true,QF,qw,qj,qg XY QW,Qc,qf,VX,Km,Jr,Nat.reduceAdd,qB,qi,qE,allLive,JS,qf,VX,Km,Jr,Nat.reduceAdd,qB,qi,qE,allLive,JS,nxA,nxR];rw[<-hgo];rfl
    ·try simp only[decide_eq_true_eq,VS]at hb3
     have hb3':Qo s ((i+n+1:Nat):Int)=34:=by rw[<-hpn1];exact(Zg _ 34).mp hb3
     have hin1:i+n+1<s.length:=qbB (by rw[hb3'];decide);rw[YK hin1]at hb3';rw[qdn hin1,hb3',qdO]at hgo;refine qV ?_;change Awp _ _ _ _ _ _ _;refine XL [0,2,5,6] (by rfl) ?_;simp+decide only[qa,ev,qH,qF,putD,VM,VO,VN,Ka,true_and,↓qh,qc,↓qA,ql,qC,cond_false,qp,Xc,↓qd,qb,nxA,nxR];try simp(disch:=omega)only[wrap_i64]
     try simp only[Qi]
     first
     |exact⟨n+1,rfl,Vl _,by omega,by omega,by rw[<-hgo,show i+(n+1)=i+n+1 by omega,hb3']⟩
     |exact⟨n,rfl,Vl _,by omega,by omega,by rw[<-hgo,qaG (fun e=>hb2 ((Zg _ 34).mpr e))]⟩
   ·try simp only[decide_eq_false_iff_not]at hb2
    refine qV ?_;try simp only[Qi]
    first
    |exact⟨n+1,rfl,Vl _,by omega,by omega,by rw[<-hgo,show i+(n+1)=i+n+1 by omega,hb3']⟩
    |exact⟨n,rfl,Vl _,by omega,by omega,by rw[<-hgo,qaG (fun e=>hb2 ((Zg _ 34).mpr e))]⟩
  ·rintro m ⟨hnm,him,hgm⟩
   have hpm:Qo s ((i:Int)+m)=s.getD (i+m) 0:=by rw[show(i:Int)+(m:Int)=((i+m:Nat):Int) by omega,YK him]
   refine XL [0,2,5,6] (by rfl) ?_;simp+decide only[ev,putD,VM,VO,Ka,true_and,↓qh,qc,nxA,nxR];refine qM (V:= .int .u8 (s.getD (i+m) 0).toNat) (by rfl) (by rfl) (by rw[<-hpm];exact Ut wz _ kx lf s mv tv i m hxb (by omega) (by omega) (by omega)) ?_;refine QO (by rfl) (by rfl) (qnG wz H k1q0 [] st _ qpb ht1q0 hk1q0 hst (s.getD (i+m) 0) (by omega)) fun x10q3 h10q3 hx10q3=>?_;obtain⟨hv10,st',hst',hbt',hh10⟩:=hx10q3;rw[hh10];simp+decide only[qa,putD,VM,VN,Ka];change Awp _ _ _ _ _ _ _;refine XL [0,2,5,6] (by rfl) ?_;simp+decide only[qa,ev,qH,qF,putD,VM,VO,VN,Ka,true_and,↓qh,qc,↓qA,ql,qC,cond_false,qp,Xc,↓qd,qb];try simp(disch:=omega)only[wrap_i64]
   try simp only[Qi]
   refine⟨(m+1,st'),rfl,Vl _,⟨by simp only;omega,hst',?_,by simp only;rw[hbt',Jb];simp;omega⟩,by simp only;omega⟩;simp only;rw[hbt',<-Nat.add_assoc];exact hgm
 ·try simp only[decide_eq_false_iff_not]at hb1
  have hend:qaO s i= .err 4:=by rw[<-hgo,List.drop_eq_nil_of_le (by omega),qdP]
  refine XJ ?_;change Awp _ _ _ _ _ _ _;refine awp_rseq [2,3,4] (by rfl) fun K hK=>?_;simp+decide only[ev,qH,qF,putD,VM,VO,if_false,true_and,↓Qr,↓qY,qaV,evP,Vj];refine qo (by rfl) (by rfl) zqA QW (by rfl) (by rfl) zqD (Js _) (by rfl) ?_;simp only[VV];simp+decide only[qa,ev,qH,qF,putD,VM,VO,VN,Ka,true_and,↓qd,qb,setAt,VW,Ki,Jr,Nat.reduceAdd];apply hK;clear hK K;refine qN ?_;refine qW h zqC (?_) ?_
  ·simp+decide only[QC,qw,qj,VO,Ka,and_true,qw,qj,qg XY QW,Qc,qf,VX,Km,Jr,Nat.reduceAdd,qB,qi,qE,allLive,JS,qf,VX,Km,Jr,Nat.reduceAdd,qB,qi,qE,allLive,JS]
  simp+decide only[VO,Ka,and_true,QF,qw,qj,qg XY QW,Qc,qf,VX,Km,Jr,Nat.reduceAdd,qB,qi,qE,allLive,JS,qf,VX,Km,Jr,Nat.reduceAdd,qB,qi,qE,allLive,JS,nxA,nxR];rw[hend];rfl
end Go.Proofs.YtlhhaagmakhilaaGreatDoor
namespace Go.Proofs.YtlhhaagmakhilaaGreatDoor
open Go.AM
open Go.Proofs
open Go.Col
open Go.Tok
open Go.RowKit (Below)
set_option maxRecDepth 100000
set_option maxHeartbeats 1000000 in
theorem c_next(wz:World)(h:AHeap)(kx:Nat)(lf:Bool)(s:Str)(mv tv:AVal)(i:Nat)(l:List TokC)(eb_x:h kx=some ⟨[.bool lf, .str s,mv, .int .i64 i,tv],0⟩)(ht:IsL wz h 5 tv (l.map QJ))(hl:l.length<=1099511627776)(h32:Qo s i≠32)(hs:s.length<=1099511627776):
 ACall Tryz.prog wz 83 [.ptr (.own kx) 0] h (fun r h'=>r=nxR (WH s i l)/\h'=h):=by
 have hs_h:Sub h h:=Vl h;have hi:=qbB h32;have hdr:(s.drop ((i:Int)).toNat).take (((s.length:Nat):Int).toNat-((i:Int)).toNat)=s.drop i:=by rw[Vq,Vq,Jq (by simp)]
 obtain⟨eqs,heqs⟩:∃e,e=List.isPrefixOf [61,61] (s.drop i):=⟨_,rfl⟩
 have hnx:WH s i l=if (ZN l).1=true/\eqs=false then YS s i (ZN l).2
  else if Qo s i=34 then qaO s i
  else if Qo s i=46/\Qo s (i+1)=32 then Tok.takeE s i 6 1
  else if eqs=true then Tok.takeE s i 7 2
  else if 0<(YZ s i).n\/(YZ s i).e≠0 then YZ s i
  else if ZJ (Qo s i)=true/\Qo s i≠45 then qff s i
  else qdJ s i:=by rw[heqs];rfl
 refine qP (n:=110) (rs:=[.cell 2 54, .tmp 3, .tmp 4]) Tryz.func83 rfl rfl rfl rfl (VL rfl) ?_;simp only[Qd];refine awp_rseq [0,2] (by rfl) fun K hK=>?_;refine Qk UO (cs:=[.int .u8 0, .str [], .int .i64 0, .int .i64 0, .bool false]) (by rfl) fun k0q0 hk0q0=>?_;have hn_0q0:h k0q0=none:=by first|assumption|(simp only[V7]at hk0q0;simp only[hk0q0])
 have hf_0q0:h k0q0=none:=Bg hs_h hn_0q0;have ne_0q0_x:k0q0≠kx:=Bh hn_0q0 eb_x;simp+decide only[qa,ev,qH,qF,putD,VM,VN,Ka,true_and,↓qd,qb];apply hK;clear hK K;refine qL ?_;refine awp_rseq [0,2,5,6] (by rfl) fun K hK=>?_;simp+decide only[ev,putD,VM,VO,Ka,true_and,↓qh,qc];refine qM (V:= .tuple [.bool (ZN l).1, .bool (ZN l).2]) (by rfl) (by rfl) (qju wz _ kx lf s mv tv i l (zqA) (ht.mono (zqB)) hl) ?_;simp+decide only[qa,ev,putD,VM,VO,VN,Ka,true_and,↓qh,qc,↓QV,QI,QT,KX,J8,VX,Km,↓qd,qb,VX,Km,Jr,Nat.reduceAdd];apply hK;clear hK K;refine WP [0,2,6,30] mixed (by kernel_rfl) (by rfl) fun K hK=>?_;simp+decide only[ev,putD,VM,VO,Ka,true_and,↓qcP,qc,↓qlh,vgP,qcp,qJ,qI,qy,implies_true,↓qdC,qO,Qm,qbM,qbN,↓UY,qm,Ue,ZH,ZI,We,↓qfK,Xz,qz ag9,qpN,qpO,Wv,qz ag3,↓qir,Zt,evO,qdf Tryz.underlying9,qaH,qeV,UH,cv_slice,cp_slice,qoK,qoL,QL,ne_eq,not_false_eq_true,ne_0q0_x.symm,Qz wz eb_x,VX,Km,Jr,qi,qE,hdr];repeat (with_reducible refine And.intro ?_ ?_;· first|trivial|omega|(intro hg;simp only[Kw,JV,Ji,VP,VQ,VS,decide_eq_true_eq,decide_eq_false_iff_not,XT]at hg;omega))
 refine qcR (V:= .bool eqs) (f:=_) (cap:=_) (xs:=_) (by first|rfl|(simp+decide only[gv,qJ,VO,Ka,QZ,qI])) (fun hg=>⟨rfl,?_⟩) (fun hg=>by rw[heqs];exact qoR wz _ (s.drop i) [61,61]) ?_
 ·try simp+decide only[gv,qJ,VO,Ka,qy]at hg
  simp+decide only[evs,ev,VO,Ka,hg,Qy,Be,Kc,Vj,qH,qF]
 simp+decide only[qbw,ev,qH,qF,putD,VM,VO,VN,Ka,true_and,gv,qJ,qy,↓vg_unOp,XP,vgP,qcp,qI,implies_true,Yk,qkT,qkV,↓qfG,Qs,Qg,Xn,Xp];apply hK;clear hK K;refine qK (b:=_) rfl (fun hb1=>?_) (fun hb1=>?_)
 ·try simp only[Ji,Kw]at hb1
  refine awp_rseq [2,3,4] (by rfl) fun K hK=>?_;simp+decide only[ev,putD,VM,VO,Ka,true_and,↓qh,qc];refine qM (V:=nxR (YS s i (ZN l).2)) (by rfl) (by rfl) (qsd wz _ kx lf s mv tv i _ (zqA) h32 hs) ?_;simp+decide only[ev,putD,VM,VO,Ka,true_and,↓QV,QI,QT,KX,J8,VX,Km,VX,Km,Jr,Nat.reduceAdd,nxA,nxR];refine qo (by rfl) (by rfl) zqA QW (by rfl) (by rfl) zqD (Js _) (by rfl) ?_;simp only[Vh,VV];simp+decide only[qa,ev,putD,VM,VO,VN,Ka,true_and,↓qd,qb,setAt,VW,Ki,Jr,Nat.reduceAdd];apply hK;clear hK K;refine qN ?_;try simp only[Qf]
  refine qW h zqC (?_) ?_
  ·simp+decide only[QC,qw,qj,VO,Ka,and_true,qw,qj,qg XY QW,Qc,qf,VX,Km,Jr,Nat.reduceAdd,qB,qi,qE,allLive,JS,qf,VX,Km,Jr,Nat.reduceAdd,qB,qi,qE,allLive,JS]
  simp+decide only[VO,Ka,and_true,QF,qw,qj,qg XY QW,Qc,qf,VX,Km,Jr,Nat.reduceAdd,qB,qi,qE,allLive,JS,qf,VX,Km,Jr,Nat.reduceAdd,qB,qi,qE,allLive,JS,nxA,nxR];rw[hnx,if_pos hb1]
 ·try simp only[VS,VP]at hb1
  have hb1':¬((ZN l).1=true/\eqs=false):=by
   rintro⟨q1,q2⟩;rcases hb1 with z|z
   ·rw[q1]at z;cases z
   ·rw[q2]at z;cases z
  rw[hnx,if_neg hb1'];refine qV ?_;change Awp _ _ _ _ _ _ _;refine qL ?_;refine awp_rseq [0,2,7] (by rfl) fun K hK=>?_;simp+decide only[ev,putD,VM,VO,Ka,true_and,↓qh,qc];refine qM (V:= .int .u8 (Qo s i).toNat) (by rfl) (by rfl) (qca wz _ kx lf s mv tv i (zqA) (by omega)) ?_;simp+decide only[qa,ev,putD,VM,VO,VN,Ka,true_and,↓qd,qb];apply hK;clear hK K;refine Qp ?_;refine awp_rseq [0,2,7,39] (by rfl) fun K hK=>?_;simp+decide only[qa,ev,qH,qF,putD,VM,VO,VN,Ka,true_and,↓qh,qc,↓qA,ql,qC,cond_false,qp,XH,↓qd,qb];apply hK;clear hK K;refine qK (b:=_) rfl (fun hb2=>?_) (fun hb2=>?_)
  ·try simp only[decide_eq_true_eq]at hb2
   have hb2':Qo s i=34:=(Zg _ 34).mp hb2;refine awp_rseq [2,3,4] (by rfl) fun K hK=>?_;simp+decide only[ev,putD,VM,VO,Ka,true_and,↓qh,qc];refine qM (V:=nxR (qaO s i)) (by rfl) (by rfl) (c_quote wz _ kx lf s mv tv i (zqA) hi hs) ?_;simp+decide only[ev,putD,VM,VO,Ka,true_and,↓QV,QI,QT,KX,J8,VX,Km,VX,Km,Jr,Nat.reduceAdd,nxA,nxR];refine qo (by rfl) (by rfl) zqA QW (by rfl) (by rfl) zqD (Js _) (by rfl) ?_;simp only[Vh,VV];simp+decide only[qa,ev,putD,VM,VO,VN,Ka,true_and,↓qd,qb,setAt,VW,Ki,Jr,Nat.reduceAdd];apply hK;clear hK K;refine qN ?_;try simp only[Qf,Qu]
   refine qW h zqC (?_) ?_
   ·simp+decide only[QC,qw,qj,VO,Ka,and_true,qw,qj,qg XY QW,Qc,qf,VX,Km,Jr,Nat.reduceAdd,qB,qi,qE,allLive,JS,qf,VX,Km,Jr,Nat.reduceAdd,qB,qi,qE,allLive,JS]
   simp+decide only[VO,Ka,and_true,QF,qw,qj,qg XY QW,Qc,qf,VX,Km,Jr,Nat.reduceAdd,qB,qi,qE,allLive,JS,ne_eq,qf,VX,Km,Jr,Nat.reduceAdd,qB,qi,qE,allLive,JS,nxA,nxR,Tok.takeE];rw[if_pos hb2'];try rfl
  ·try simp only[decide_eq_false_iff_not]at hb2
   have hb2':¬Qo s i=34:=fun q=>hb2 ((Zg _ 34).mpr q);rw[if_neg hb2'];refine awp_rseq [0,2,47] (by rfl) fun K hK=>?_;simp+decide only[ev,qH,qF,putD,VM,VO,Ka,true_and,↓qh,qc,↓qA,ql,qC,cond_false,qp,XH,↓Xe,agP,Qt,qJ,qI,qy,implies_true]
   (refine XW (V:= .int .u8 (Qo s (i+1)).toNat) (f:=_) (cap:=_) (xs:=_) (by first|rfl|(simp+decide only[gv,qJ,VO,Ka,QZ,qI])) (fun hg=>⟨rfl,?_⟩) (fun hg=>Ut wz _ kx lf s mv tv i 1 (zqA) (by omega) (by omega) (by omega)) ?_;· (simp+decide only[gv,qJ,VO,Ka,qy]at hg;simp+decide only[evs,ev,VO,Ka,hg,Qy,Be,Kc,Vj,qH,qF]<;>try rfl))
   simp+decide only[qa,ev,qH,qF,putD,VM,VO,VN,Ka,true_and,gv,qJ,qy,↓Xb,ql,agP,Qt,qI,implies_true,qC,cond_false,XZ,Za,qp,XH,↓QR,Qs,Qg,Xn,Xp,↓qd,qb];apply hK;clear hK K;refine qK (b:=_) rfl (fun hb3=>?_) (fun hb3=>?_)
   ·try simp only[decide_eq_true_eq,Kw]at hb3
    have hb3':Qo s i=46/\Qo s (i+1)=32:=⟨(Zg _ 46).mp hb3.1,(Zg _ 32).mp hb3.2⟩
    refine awp_rseq [2,3,4] (by rfl) fun K hK=>?_;simp+decide only[ev,putD,VM,VO,Ka,true_and,↓qh,qc];refine qM (V:=nxR (Tok.takeE s i 6 1)) (by rfl) (by rfl) (qeT wz _ kx lf s mv tv i 1 6 (zqA) (by omega) hs) ?_;simp+decide only[ev,putD,VM,VO,Ka,true_and,↓QV,QI,QT,KX,J8,VX,Km,VX,Km,Jr,Nat.reduceAdd,nxA,nxR,Tok.takeE];refine qo (by rfl) (by rfl) zqA QW (by rfl) (by rfl) zqD (Js _) (by rfl) ?_;simp only[Vh,VV];simp+decide only[qa,ev,putD,VM,VO,VN,Ka,true_and,↓qd,qb,setAt,VW,Ki,Jr,Nat.reduceAdd];apply hK;clear hK K;refine qN ?_;try simp only[Qf,Qu]
    refine qW h zqC (?_) ?_
    ·simp+decide only[QC,qw,qj,VO,Ka,and_true,qw,qj,qg XY QW,Qc,qf,VX,Km,Jr,Nat.reduceAdd,qB,qi,qE,allLive,JS,qf,VX,Km,Jr,Nat.reduceAdd,qB,qi,qE,allLive,JS]
    simp+decide only[VO,Ka,and_true,QF,qw,qj,qg XY QW,Qc,qf,VX,Km,Jr,Nat.reduceAdd,qB,qi,qE,allLive,JS,ne_eq,qf,VX,Km,Jr,Nat.reduceAdd,qB,qi,qE,allLive,JS,nxA,nxR,Tok.takeE];rw[if_pos hb3'];try rfl
   ·try simp only[decide_eq_false_iff_not,VP]at hb3
    have hb3':¬(Qo s i=46/\Qo s (i+1)=32):=fun q=>by
     rcases hb3 with z|z
     ·exact z ((Zg _ 46).mpr q.1)
     ·exact z ((Zg _ 32).mpr q.2)
    rw[if_neg hb3'];refine WP [0,2,60] mixed (by kernel_rfl) (by rfl) fun K hK=>?_;simp+decide only[ev,putD,VM,VO,Ka,true_and,↓qcP,qc,↓qbU,qO,Qm,↓Uu,qm,Ue,We,↓qev,Xz,qz ag9,Wv,qz ag3,↓qmt,Zt,evO,qdf Tryz.underlying9,qaH,qeV,UH,QL,ne_eq,not_false_eq_true,ne_0q0_x.symm,Qz wz eb_x,VX,Km,Jr,qi,qE,hdr];repeat (with_reducible refine And.intro ?_ ?_;· first|trivial|omega|(intro hg;simp only[Kw,JV,Ji,VP,VQ,VS,decide_eq_true_eq,decide_eq_false_iff_not,XT]at hg;omega))
    refine qit (V:= .bool eqs) (by rfl) (by rfl) (by rw[heqs];exact qoR wz _ (s.drop i) [61,61]) ?_;simp+decide only[qbw,ev,putD,VM,VO,VN,Ka,true_and,↓qco,qb];apply hK;clear hK K;refine qK (b:=_) rfl (fun hb4=>?_) (fun hb4=>?_)
    ·skip
     have h2:i+2<=s.length:=by
      rw[hb4]at heqs;have:=(Vv.1 heqs.symm).length_le;rw[K5]at this;simp at this;omega
     refine awp_rseq [2,3,4] (by rfl) fun K hK=>?_;simp+decide only[ev,putD,VM,VO,Ka,true_and,↓qh,qc];refine qM (V:=nxR (Tok.takeE s i 7 2)) (by rfl) (by rfl) (qeT wz _ kx lf s mv tv i 2 7 (zqA) h2 hs) ?_;simp+decide only[ev,putD,VM,VO,Ka,true_and,↓QV,QI,QT,KX,J8,VX,Km,VX,Km,Jr,Nat.reduceAdd,nxA,nxR,Tok.takeE];refine qo (by rfl) (by rfl) zqA QW (by rfl) (by rfl) zqD (Js _) (by rfl) ?_;simp only[Vh,VV];simp+decide only[qa,ev,putD,VM,VO,VN,Ka,true_and,↓qd,qb,setAt,VW,Ki,Jr,Nat.reduceAdd];apply hK;clear hK K;refine qN ?_;try simp only[Qf,Qu]
     refine qW h zqC (?_) ?_
     ·simp+decide only[QC,qw,qj,VO,Ka,and_true,qw,qj,qg XY QW,Qc,qf,VX,Km,Jr,Nat.reduceAdd,qB,qi,qE,allLive,JS,qf,VX,Km,Jr,Nat.reduceAdd,qB,qi,qE,allLive,JS]
     simp+decide only[VO,Ka,and_true,QF,qw,qj,qg XY QW,Qc,qf,VX,Km,Jr,Nat.reduceAdd,qB,qi,qE,allLive,JS,ne_eq,qf,VX,Km,Jr,Nat.reduceAdd,qB,qi,qE,allLive,JS,nxA,nxR,Tok.takeE];rw[if_pos hb4];try rfl
    ·skip
     have hb4':¬eqs=true:=by rw[hb4];decide
     rw[if_neg hb4'];refine qV ?_;change Awp _ _ _ _ _ _ _;refine qL ?_;refine awp_rseq [0,2,8,9,10] (by rfl) fun K hK=>?_;simp+decide only[ev,putD,VM,VO,Ka,true_and,↓qh,qc];refine qM (V:=nxR (YZ s i)) (by rfl) (by rfl) (c_number wz _ kx lf s mv tv i (zqA) hi hs) ?_;simp+decide only[ev,putD,VM,VO,Ka,true_and,↓qh,qc,↓QV,QI,QT,KX,J8,VX,Km,VX,Km,Jr,Nat.reduceAdd,nxA,nxR];refine Qk UO (cs:=[.int .u8 0, .str [], .int .i64 0, .int .i64 0, .bool false]) (by rfl) fun k11q6 hk11q6=>?_;have ne_11q6_0q0:k11q6≠k0q0:=by simp only[V7]at hk11q6;simp only[hk11q6,ne_eq,not_false_eq_true]
     have hn_11q6:h k11q6=none:=by first|assumption|(simp only[V7]at hk11q6;simp only[hk11q6])
     have hf_11q6:h k11q6=none:=Bg hs_h hn_11q6;have ne_11q6_x:k11q6≠kx:=Bh hn_11q6 eb_x;refine qo (by rfl) (by rfl) zqA QW (by rfl) (by rfl) zqD (Js _) (by rfl) ?_;simp only[Vh,VV];simp+decide only[qa,ev,putD,VM,VO,VN,Ka,true_and,↓qd,qb,setAt,VW,Ki,Jr,Nat.reduceAdd];apply hK;clear hK K;refine awp_rseq [0,2,8,9,10,88] (by rfl) fun K hK=>?_;simp+decide only[qa,ev,qH,qF,putD,VM,VO,VN,Ka,true_and,↓qh,qc,↓qA,ql,qC,cond_false,qp,UE,↓Xe,agP,Qt,qJ,qI,Qe,implies_true,↓Xb,XZ,Za,qaP,↓QR,Qs,Qg,XO,ZF];apply hK;clear hK K;refine qK (b:=_) rfl (fun hb5=>?_) (fun hb5=>?_)
     ·try simp only[decide_eq_true_eq,decide_eq_false_iff_not,Ji,JV]at hb5
      have hb5':0<(YZ s i).n\/(YZ s i).e≠0:=hb5.imp (fun q=>by omega) id;refine awp_rseq [2,3,4] (by rfl) fun K hK=>?_;simp+decide only[ev,putD,VM,VO,Ka,true_and,↓qG,Qb,qg XY QW,↓qh,qc,QP,qf,VX,Km,Jr,Nat.reduceAdd,qB,qi,qE,allLive,JS];refine qo (by rfl) (by rfl) zqA QW (by rfl) (by rfl) zqD (Js _) (by rfl) ?_;simp only[VV];simp+decide only[qa,ev,putD,VM,VO,VN,Ka,true_and,↓qd,qb,setAt,VW,Ki,Jr,Nat.reduceAdd];apply hK;clear hK K;refine qN ?_;try simp only[Qf]
      refine qW h zqC (?_) ?_
      ·simp+decide only[QC,qw,qj,VO,Ka,and_true,qw,qj,qg XY QW,Qc,qf,VX,Km,Jr,Nat.reduceAdd,qB,qi,qE,allLive,JS,qf,VX,Km,Jr,Nat.reduceAdd,qB,qi,qE,allLive,JS]
      simp+decide only[VO,Ka,and_true,QF,qw,qj,qg XY QW,Qc,qf,VX,Km,Jr,Nat.reduceAdd,qB,qi,qE,allLive,JS,ne_eq,qf,VX,Km,Jr,Nat.reduceAdd,qB,qi,qE,allLive,JS,nxA,nxR];rw[if_pos hb5'];try rfl
     ·try simp only[decide_eq_true_eq,decide_eq_false_iff_not,VS,VQ]at hb5
      have hb5':¬(0<(YZ s i).n\/(YZ s i).e≠0):=fun q=>q.elim (fun q=>hb5.1 (by omega)) (fun q=>q hb5.2);rw[if_neg hb5'];refine qV ?_;change Awp _ _ _ _ _ _ _;refine qL ?_;refine awp_rseq [0,2,99] (by rfl) fun K hK=>?_;simp+decide only[ev,putD,VM,VO,Ka,true_and,↓qh,qc];refine qM (V:= .int .u8 (Qo s i).toNat) (by rfl) (by rfl) (qca wz _ kx lf s mv tv i (zqA) (by omega)) ?_;refine qM (V:= .bool (ZJ (Qo s i))) (by rfl) (by rfl) (qgE wz _ _) ?_;simp+decide only[ev,putD,VM,VO,Ka,true_and,↓qh,qc,↓Xe,agP,Qt,qJ,qI,qy,implies_true]
      (refine XW (V:= .int .u8 (Qo s i).toNat) (f:=_) (cap:=_) (xs:=_) (by first|rfl|(simp+decide only[gv,qJ,VO,Ka,QZ,qI])) (fun hg=>⟨rfl,?_⟩) (fun hg=>qca wz _ kx lf s mv tv i (zqA) (by omega)) ?_;· (simp+decide only[gv,qJ,VO,Ka,qy]at hg;simp+decide only[evs,ev,VO,Ka,hg,Qy,Be,Kc,Vj,qH,qF]<;>try rfl))
      simp+decide only[qa,ev,qH,qF,putD,VM,VO,VN,Ka,true_and,gv,qJ,qy,↓Xb,ql,agP,Qt,qI,implies_true,qC,cond_false,XZ,Za,qp,qaP,↓QR,Qs,Qg,Xn,Xp];apply hK;clear hK K;refine qK (b:=_) rfl (fun hb6=>?_) (fun hb6=>?_)
      ·try simp only[decide_eq_false_iff_not,Ji,Kw]at hb6
       have hb6':ZJ (Qo s i)=true/\Qo s i≠45:=⟨hb6.1,fun q=>hb6.2 ((Zg _ 45).mpr q)⟩
       refine awp_rseq [2,3,4] (by rfl) fun K hK=>?_;simp+decide only[ev,putD,VM,VO,Ka,true_and,↓qh,qc];refine qM (V:=nxR (qff s i)) (by rfl) (by rfl) (c_name wz _ kx lf s mv tv i (zqA) hi (by rw[<-YK hi];exact hb6.1) hs) ?_;simp+decide only[ev,putD,VM,VO,Ka,true_and,↓QV,QI,QT,KX,J8,VX,Km,VX,Km,Jr,Nat.reduceAdd,nxA,nxR];refine qo (by rfl) (by rfl) zqA QW (by rfl) (by rfl) zqD (Js _) (by rfl) ?_;simp only[VV];simp+decide only[qa,ev,putD,VM,VO,VN,Ka,true_and,↓qd,qb,setAt,VW,Ki,Jr,Nat.reduceAdd];apply hK;clear hK K;refine qN ?_;try simp only[Qf]
       refine qW h zqC (?_) ?_
       ·simp+decide only[QC,qw,qj,VO,Ka,and_true,qw,qj,qg XY QW,Qc,qf,VX,Km,Jr,Nat.reduceAdd,qB,qi,qE,allLive,JS,qf,VX,Km,Jr,Nat.reduceAdd,qB,qi,qE,allLive,JS]
       simp+decide only[VO,Ka,and_true,QF,qw,qj,qg XY QW,Qc,qf,VX,Km,Jr,Nat.reduceAdd,qB,qi,qE,allLive,JS,ne_eq,qf,VX,Km,Jr,Nat.reduceAdd,qB,qi,qE,allLive,JS,nxA,nxR];rw[if_pos hb6'];try rfl
      ·try simp only[decide_eq_true_eq,VS,VP]at hb6
       have hb6':¬(ZJ (Qo s i)=true/\Qo s i≠45):=fun q=>by
        rcases hb6 with z|z
        ·rw[q.1]at z;cases z
        ·exact q.2 ((Zg _ 45).mp z)
       rw[if_neg hb6'];refine qV ?_;change Awp _ _ _ _ _ _ _;refine awp_rseq [2,3,4] (by rfl) fun K hK=>?_;simp+decide only[ev,putD,VM,VO,Ka,true_and,↓qh,qc];refine qM (V:=nxR (qdJ s i)) (by rfl) (by rfl) (c_sign wz _ kx lf s mv tv i (zqA) hi hs) ?_;simp+decide only[ev,putD,VM,VO,Ka,true_and,↓QV,QI,QT,KX,J8,VX,Km,VX,Km,Jr,Nat.reduceAdd,nxA,nxR];refine qo (by rfl) (by rfl) zqA QW (by rfl) (by rfl) zqD (Js _) (by rfl) ?_;simp only[VV];simp+decide only[qa,ev,putD,VM,VO,VN,Ka,true_and,↓qd,qb,setAt,VW,Ki,Jr,Nat.reduceAdd];apply hK;clear hK K;refine qN ?_;refine qW h zqC (?_) ?_
       ·simp+decide only[QC,qw,qj,VO,Ka,and_true,qw,qj,qg XY QW,Qc,qf,VX,Km,Jr,Nat.reduceAdd,qB,qi,qE,allLive,JS,qf,VX,Km,Jr,Nat.reduceAdd,qB,qi,qE,allLive,JS]
       simp+decide only[VO,Ka,and_true,QF,qw,qj,qg XY QW,Qc,qf,VX,Km,Jr,Nat.reduceAdd,qB,qi,qE,allLive,JS,qf,VX,Km,Jr,Nat.reduceAdd,qB,qi,qE,allLive,JS,nxA,nxR];try rfl
end Go.Proofs.YtlhhaagmakhilaaGreatDoor
namespace Go.Proofs.YtlhhaagmakhilaaGreatDoor
open Go.AM
open Go.Proofs
open Go.Col
set_option maxRecDepth 100000
def Xm(cb:Option Buf)(x:Rd):List AVal:=[QH 3 cb, .int .i64 x.line, .int .i64 x.col, .bool x.odd]
def rdH(kx:Nat)(B:AHeap)(cb mb:Option Buf)(x:Rd):AHeap:=Qv (Qv (B.set kx ⟨Xm cb x,0⟩) cb) mb
def Zm(p:CardC×AVal):List AVal:=[.bool p.1.left, .str p.1.text,p.2]
structure RdInv(wz:World)(h:AHeap)(kx:Nat)(B M:AHeap)(cb mb:Option Buf)(x:Rd):Prop where
 sub:Sub h B
 subM:Sub M B
 hk:B kx=none
 okc:bufOk (B.set kx ⟨Xm cb x,0⟩) 3 cb
 okm:bufOk (Qv (B.set kx ⟨Xm cb x,0⟩) cb) 3 mb
 cards:(x.cards=[]/\cb=none/\mb=none)\/∃(done:List (CardC×AVal)) (c:CardC) (kc:Nat),x.cards=done.map (·.1)++[c]/\cb=some ⟨kc,(done.map Zm).flatten++[.bool c.left, .str c.text,QH 3 mb]⟩/\Ws mb=(c.marks.map Uk).flatten/\∀p∈done,IsL wz M 3 p.2 (p.1.marks.map Uk)
theorem qjE{H:AHeap}{b:Option Buf}{j:Nat}(hj:Qv H b j=none)(c:Blk):(Qv H b).set j c=Qv (H.set j c) b/\H j=none:=by
 cases b with
 |none=>exact⟨rfl,hj⟩
 |some b=>
  have hne:j≠b.blk:=fun e=>by subst e;rw[show Qv H (some b)=H.set b.blk ⟨b.cells,0⟩from rfl,Vd]at hj;cases hj
  exact⟨Vi _ _ _ hne,by rw[show Qv H (some b)=H.set b.blk ⟨b.cells,0⟩from rfl,Vb _ _ hne]at hj;exact hj⟩
theorem qjD{H:AHeap}{es:Nat}{b:Option Buf}(hb:bufOk H es b){j:Nat}(hj:Qv H b j=none)(c:Blk):bufOk (H.set j c) es b:=by
 cases b with
 |none=>trivial
 |some b=>
  refine⟨?_,hb.2⟩;have hne:j≠b.blk:=fun e=>by subst e;rw[show Qv H (some b)=H.set b.blk ⟨b.cells,0⟩from rfl,Vd]at hj;cases hj
  rw[Vb _ _ hne.symm];exact hb.1
theorem qmf{H:AHeap}{es:Nat}{a b:Option Buf}(ha:bufOk H es a)(hb:bufOk (Qv H a) es b):Qv (Qv H a) b=Qv (Qv H b) a/\bufOk H es b/\bufOk (Qv H b) es a:=by
 cases a with
 |none=>exact⟨rfl,hb,trivial⟩
 |some a=>
  cases b with
  |none=>exact⟨rfl,trivial,ha⟩
  |some b=>
   have hne:b.blk≠a.blk:=fun e=>by
    have:=hb.1;rw[e,show Qv H (some a)=H.set a.blk ⟨a.cells,0⟩from rfl,Vd]at this;cases this
   have hb1:H b.blk=none:=by
    have:=hb.1
    rwa [show Qv H (some a)=H.set a.blk ⟨a.cells,0⟩from rfl,Vb _ _ hne]at this
   exact⟨Vi _ _ _ hne,⟨hb1,hb.2⟩,⟨(Vb _ _ hne.symm).trans ha.1,ha.2⟩⟩
theorem qig{wz:World}{h:AHeap}{kx:Nat}{B M:AHeap}{cb mb:Option Buf}{x:Rd}(hi:RdInv wz h kx B M cb mb x){j:Nat}(hj:rdH kx B cb mb x j=none)(c:Blk):
 (rdH kx B cb mb x).set j c=rdH kx (B.set j c) cb mb x/\RdInv wz h kx (B.set j c) M cb mb x/\j≠kx/\B j=none:=by
 unfold rdH at hj;obtain⟨e1,h1⟩:=qjE hj c;obtain⟨e2,h2⟩:=qjE h1 c;have hne:j≠kx:=fun e=>by subst e;rw[Vd]at h2;cases h2
 have h3:B j=none:=by rwa [Vb _ _ hne]at h2
 have e3:(B.set kx ⟨Xm cb x,0⟩).set j c=(B.set j c).set kx ⟨Xm cb x,0⟩:=Vi _ _ _ hne;refine⟨?_,⟨V3 hi.sub (hi.sub.none h3),V3 hi.subM (hi.subM.none h3),(Vb _ _ hne.symm).trans hi.hk,?_,?_,hi.cards⟩,hne,h3⟩
 ·unfold rdH
  rw[e1,e2,e3]
 ·rw[<-e3]
  exact qjD hi.okc h1 c
 ·rw[<-e3,<-e2]
  exact qjD hi.okm hj c
section
variable {wz:World} {h:AHeap} {kx:Nat} {B M:AHeap} {cb mb:Option Buf} {x:Rd}
theorem RdInv.at(hi:RdInv wz h kx B M cb mb x):rdH kx B cb mb x kx=some ⟨Xm cb x,0⟩:=ZU hi.okm (ZU hi.okc (Vd _ _ _))
theorem RdInv.other(hi:RdInv wz h kx B M cb mb x){j:Nat}{c:Blk}(hj:B j=some c):rdH kx B cb mb x j=some c:=
 ZU hi.okm (ZU hi.okc ((Vb _ _ (fun e=>by subst e;rw[hi.hk]at hj;cases hj)).trans hj))
theorem RdInv.above(hi:RdInv wz h kx B M cb mb x):Sub h (rdH kx B cb mb x):=fun _ _ hj=>hi.other (hi.sub _ _ hj)
theorem RdInv.put(hi:RdInv wz h kx B M cb mb x){j:Nat}{c:Blk}(hj:B j=some c)(hh:h j=none)(hM:M j=none)(d:Blk):(rdH kx B cb mb x).set j d=rdH kx (B.set j d) cb mb x/\RdInv wz h kx (B.set j d) M cb mb x:=by
 have hne:j≠kx:=fun e=>by subst e;rw[hi.hk]at hj;cases hj
 have hj1:B.set kx ⟨Xm cb x,0⟩ j=some c:=(Vb _ _ hne).trans hj;have e3:(B.set kx ⟨Xm cb x,0⟩).set j d=(B.set j d).set kx ⟨Xm cb x,0⟩:=Vi _ _ _ hne;refine⟨?_,⟨V3 hi.sub hh,V3 hi.subM hM,(Vb _ _ hne.symm).trans hi.hk,?_,?_,hi.cards⟩⟩
 ·unfold rdH
  rw[Wp hi.okm (ZU hi.okc hj1),Wp hi.okc hj1,e3]
 ·rw[<-e3]
  exact ZT hi.okc hj1 d
 ·rw[<-e3,<-Wp hi.okc hj1]
  exact ZT hi.okm (ZU hi.okc hj1) d
theorem qjr:∀p:CardC×AVal,(Zm p).length=3:=fun _=>rfl
theorem RdInv.many(hi:RdInv wz h kx B M cb mb x):(Ws cb).length / 3=x.cards.length:=by
 rcases hi.cards with⟨c1,c2,_⟩|⟨done,c',kc,c1,c2,c3,c4⟩
 ·rw[c1,c2];rfl
 ·rw[c1,c2]
  simp only[Ws,Jb,Jo,KX,J8];rw[Zp (es:=3) (by intro y hy;obtain⟨p,_,rfl⟩:=JG.1 hy;rfl),Jo];omega
theorem buf_len(P:Program){t e:TypeId}(ht:P.underlying t=some (.slice e))(es:Nat)(b:Option Buf):∀H:AHeap,Yn P H t (QH es b)=⟨True, .int .i64 ((Ws b).length / es:Nat)⟩:=by
 cases b with
 |none=>intro H;simp[QH,Ws,Yn,UK,qiO,ht]
 |some b=>intro H;simp only[QH,Ws,Yn,UK,qiO,ht,cond_false]
end
end Go.Proofs.YtlhhaagmakhilaaGreatDoor
namespace Go.Proofs.YtlhhaagmakhilaaGreatDoor
open Go.AM
open Go.Proofs
open Go.Col
open Go.Tok
open Go.RowKit (Below)
set_option maxRecDepth 100000
def qfN(c:CardC)(j:Nat)(t:Nx):TokC:=⟨t.kind,t.text,(atE c j).1,(atE c j).2.1,decide ((atE c j).2.1<12)⟩
def qkY(c:CardC)(i:Nat)(l:List TokC):List TokC×FaultC:=qdp c (c.text.length+1-i) i l
theorem Us(c:CardC)(f i:Nat)(l:List TokC):qdp c (f+1) i l=
 if c.text.length<=ZR c.text (ZN l).1 i then(l,okF)
 else if qgu (WH c.text (ZR c.text (ZN l).1 i) l) l.length≠0 then(l,⟨qgu (WH c.text (ZR c.text (ZN l).1 i) l) l.length,(atE c (ZR c.text (ZN l).1 i)).1,(atE c (ZR c.text (ZN l).1 i)).2.1⟩)
 else qdp c f (ZR c.text (ZN l).1 i+(WH c.text (ZR c.text (ZN l).1 i) l).n) (l++[qfN c (ZR c.text (ZN l).1 i) (WH c.text (ZR c.text (ZN l).1 i) l)]):=rfl
theorem qhS(c:CardC):∀(f g i:Nat) (l:List TokC),c.text.length<i+f->c.text.length<i+g->qdp c f i l=qdp c g i l
 |0,g,i,l,h,h'=>by
  have hj:=qdI c.text (ZN l).1 i;cases g with
  |zero=>rfl
  |succ g=>rw[Us,if_pos (by omega)];rfl
 |f+1,0,i,l,h,h'=>by
  have hj:=qdI c.text (ZN l).1 i;rw[Us,if_pos (by omega)];rfl
 |f+1,g+1,i,l,h,h'=>by
  have hj:=qdI c.text (ZN l).1 i;rw[Us,Us];split
  ·rfl
  ·rename_i hl
   split
   ·rfl
   ·rename_i he
    have hn:=qmZ (by omega) (qgt (Decidable.of_not_not he));have:=hn.n0;exact qhS c f g _ _ (by omega) (by omega)
theorem qoN(c:CardC)(i:Nat)(l:List TokC):qkY c i l=
 if c.text.length<=ZR c.text (ZN l).1 i then(l,okF)
 else if qgu (WH c.text (ZR c.text (ZN l).1 i) l) l.length≠0 then(l,⟨qgu (WH c.text (ZR c.text (ZN l).1 i) l) l.length,(atE c (ZR c.text (ZN l).1 i)).1,(atE c (ZR c.text (ZN l).1 i)).2.1⟩)
 else qkY c (ZR c.text (ZN l).1 i+(WH c.text (ZR c.text (ZN l).1 i) l).n) (l++[qfN c (ZR c.text (ZN l).1 i) (WH c.text (ZR c.text (ZN l).1 i) l)]):=by
 have hj:=qdI c.text (ZN l).1 i;by_cases h:c.text.length<i
 ·unfold qkY
  rw[show c.text.length+1-i=0 by omega,if_pos (by omega)];rfl
 ·unfold qkY
  rw[show c.text.length+1-i=(c.text.length-i)+1 by omega,Us];split
  ·rfl
  ·split
   ·rfl
   ·rename_i hl he
    have hn:=qmZ (by omega) (qgt (Decidable.of_not_not he));have:=hn.n0;exact qhS c _ _ _ _ (by omega) (by omega)
theorem qjs(c:CardC)(P:TokC->Prop)(hP:∀(j:Nat) (l:List TokC),j<c.text.length->Qo c.text j≠32->(WH c.text j l).e=0->P (qfN c j (WH c.text j l))):∀(f i:Nat) (l:List TokC),(∀t∈l,P t)->∀t∈(qdp c f i l).1,P t
 |0,i,l,h=>h
 |f+1,i,l,h=>by
  rw[Us];split
  ·exact h
  ·rename_i hl
   split
   ·exact h
   ·rename_i he
    refine qjs c P hP f _ _ fun t ht=>?_;rw[JI,BD]at ht;rcases ht with ht|rfl
    ·exact h t ht
    ·exact hP _ _ (by omega) (qiz (by omega)) (qgt (Decidable.of_not_not he))
theorem qsa(c:CardC)(P:TokC->Prop)(hP:∀(j:Nat) (l:List TokC),validC c=true->j<c.text.length->Qo c.text j≠32->(WH c.text j l).e=0->P (qfN c j (WH c.text j l)))(l:List TokC)(h:∀t∈l,P t):∀t∈(qap c l).1,P t:=by
 unfold qap;split
 ·exact h
 ·rename_i h0
  have hv:validC c=true:=by
   unfold atE at h0;split at h0
   ·rename_i q;exact q.1
   ·exact absurd (show((0:Int),(0:Int),(1:Int)).2.2≠0 by decide) h0
  exact qjs c P (fun j l a b d=>hP j l hv a b d) _ _ _ h
theorem qiB(P:TokC->Prop):∀(cs:List CardC),(∀c∈cs,∀(j:Nat) (l:List TokC),validC c=true->j<c.text.length->Qo c.text j≠32->(WH c.text j l).e=0->P (qfN c j (WH c.text j l)))->∀(l:List TokC),(∀t∈l,P t)->∀t∈(qbz cs l).1,P t
 |[],_,l,h=>h
 |c::r,hP,l,h=>by
  rw[qbz];split
  ·exact fun t ht=>by cases ht
  ·exact qiB P r (fun d hd=>hP d (by simp[hd])) _ (qsa c P (hP c (by simp)) l h)
theorem qhR(c:CardC):∀(f i:Nat) (l:List TokC),l.length<=65536->(qdp c f i l).1.length<=65536
 |0,i,l,h=>h
 |f+1,i,l,h=>by
  rw[Us];split
  ·exact h
  ·split
   ·exact h
   ·rename_i he
    refine qhR c f _ _ ?_;have hlt:¬65536<=l.length:=fun q=>by
     have h0:=qgt (Decidable.of_not_not he);unfold qgu at he;rw[if_pos ⟨h0,q⟩]at he;exact he (by decide)
    simp;omega
theorem qoM(c:CardC)(l:List TokC)(h:l.length<=65536):(qap c l).1.length<=65536:=by
 unfold qap;split
 ·exact h
 ·exact qhR c _ _ _ h
theorem qhA:∀(cs:List CardC) (l:List TokC),l.length<=65536->(qbz cs l).1.length<=65536
 |[],l,h=>h
 |c::r,l,h=>by
  rw[qbz];split
  ·exact Js _
  ·exact qhA r _ (qoM c l h)
def scH(kx:Nat)(B:AHeap)(tb:Option Buf)(lf:Bool)(s:Str)(mv:AVal)(i:Nat):AHeap:=Qv (B.set kx ⟨[.bool lf, .str s,mv, .int .i64 i,QH 5 tb],0⟩) tb
structure ScInv(kx:Nat)(B:AHeap)(tb:Option Buf)(l:List TokC):Prop where
 hk:B kx=none
 ok:∀c,bufOk (B.set kx c) 5 tb
 eq:Ws tb=(l.map QJ).flatten
theorem Xj{l:List TokC}:∀x∈l.map QJ,x.length=5:=fun x hx=>by obtain⟨y,_,rfl⟩:=JG.1 hx;rfl
section
variable {wz:World} {kx:Nat} {B:AHeap} {tb:Option Buf} {l:List TokC} {lf:Bool} {s:Str} {mv:AVal} {i:Nat}
theorem ScInv.at(hi:ScInv kx B tb l):scH kx B tb lf s mv i kx=some ⟨[.bool lf, .str s,mv, .int .i64 i,QH 5 tb],0⟩:=ZU (hi.ok _) (Vd _ _ _)
theorem ScInv.other(hi:ScInv kx B tb l){j:Nat}{c:Blk}(hj:B j=some c):scH kx B tb lf s mv i j=some c:=
 ZU (hi.ok _) ((Vb _ _ (fun e=>by subst e;rw[hi.hk]at hj;cases hj)).trans hj)
theorem ScInv.above(hi:ScInv kx B tb l):Sub B (scH kx B tb lf s mv i):=fun _ _ hj=>hi.other hj
theorem ScInv.toks(hi:ScInv kx B tb l)(c:Blk):IsL wz (Qv (B.set kx c) tb) 5 (QH 5 tb) (l.map QJ):=BF (hi.ok c) (by decide) hi.eq Xj (Vl _)
theorem ScInv.set(hi:ScInv kx B tb l)(c:Blk):(scH kx B tb lf s mv i).set kx c=Qv (B.set kx c) tb:=by
 unfold scH;rw[Wp (hi.ok _) (Vd _ _ _),Vh]
theorem ScInv.lay(hi:ScInv kx B tb l){j:Nat}(hj:scH kx B tb lf s mv i j=none)(c:Blk):
 (scH kx B tb lf s mv i).set j c=scH kx (B.set j c) tb lf s mv i/\ScInv kx (B.set j c) tb l/\j≠kx/\B j=none:=by
 have hj':=hj;unfold scH at hj;obtain⟨e1,h1⟩:=qjE hj c;have hne:j≠kx:=fun e=>by subst e;rw[Vd]at h1;cases h1
 have h3:B j=none:=by rwa [Vb _ _ hne]at h1
 have e3:∀d,(B.set kx d).set j c=(B.set j c).set kx d:=fun d=>Vi _ _ _ hne;refine⟨?_,⟨(Vb _ _ hne.symm).trans hi.hk,fun d=>?_,hi.eq⟩,hne,h3⟩
 ·unfold scH
  rw[e1,e3]
 ·rw[<-e3]
  refine qjD (hi.ok d) ?_ c;rw[<-ScInv.set hi (lf:=lf) (s:=s) (mv:=mv) (i:=i) d,Vb _ _ hne];exact hj'
theorem ScInv.down(hi:ScInv kx B tb l){B':AHeap}(hs:Sub B' B):ScInv kx B' tb l:=⟨hs.none hi.hk,fun c=>(hi.ok c).sub (V9 hs _ _),hi.eq⟩
theorem ScInv.none(hi:ScInv kx B tb l){B':AHeap}{j:Nat}{b:Blk}(hj:B j=some b)(hj':B' j=Option.none):scH kx B' tb lf s mv i j=Option.none:=by
 have hne:j≠kx:=fun e=>by rw[e,hi.hk]at hj;cases hj
 have hok:=hi.ok ⟨[],0⟩;unfold scH;cases tb with
 |none=>exact(Vb _ _ hne).trans hj'
 |some q=>
  have hq:j≠q.blk:=fun e=>by
   have:=hok.1;rw[<-e,Vb _ _ hne,hj]at this;cases this
  exact(Vb _ _ hq).trans ((Vb _ _ hne).trans hj')
theorem qln{B':AHeap}(hs:Sub B' B):Sub (scH kx B' tb lf s mv i) (scH kx B tb lf s mv i):=by
 unfold scH;cases tb with
 |none=>exact V9 hs _ _
 |some b=>exact V9 (V9 hs _ _) _ _
end
end Go.Proofs.YtlhhaagmakhilaaGreatDoor
namespace Go.Proofs.YtlhhaagmakhilaaGreatDoor
open Go.AM
open Go.Proofs
open Go.Col
open Go.Tok
open Go.RowKit (Below)
set_option maxRecDepth 100000
structure ScG where
 i:Nat
 l:List TokC
 tb:Option Buf
structure ScOk(kx:Nat)(B:AHeap)(c:CardC)(R:List TokC×FaultC)(g:ScG):Prop where
 inv:ScInv kx B g.tb g.l
 i:g.i<=c.text.length
 eq:qkY c g.i g.l=R
 len:g.l.length<=65536
set_option maxHeartbeats 1000000 in
theorem c_card(wz:World)(kx:Nat)(B:AHeap)(tb:Option Buf)(c:CardC)(mv:AVal)(l:List TokC)(hi:ScInv kx B tb l)(hm:IsL wz B 3 mv (c.marks.map Uk))(hml:c.marks.length<=4611686018427387904)(hct:c.text.length<=1099511627776)(hl:l.length<=65536):
 ACall Tryz.prog wz 65 [.ptr (.own kx) 0] (scH kx B tb c.left c.text mv 0)
  (fun v h'=>v=QA (qap c l).2/\(qap c l).1.length<=65536/\∃tb' i',h'=scH kx B tb' c.left c.text mv i'/\ScInv kx B tb' (qap c l).1):=by
 have hlm:=hm.live;obtain⟨H0,hH0⟩:∃H0,H0=scH kx B tb c.left c.text mv 0:=⟨_,rfl⟩
 have eb_x:H0 kx=some ⟨[.bool c.left, .str c.text,mv, .int .i64 (0:Nat),QH 5 tb],0⟩:=by rw[hH0];exact hi.at
 have hs_H0:Sub B H0:=by rw[hH0];exact hi.above
 have ht0:(if (atE c 0).2.2≠0 then(l,(⟨(atE c 0).2.2,0,0⟩:FaultC))else qkY c 0 l)=qap c l:=rfl;rw[<-hH0];refine qP (n:=82) (rs:=[.cell 2 35]) Tryz.func65 rfl rfl rfl rfl (VL rfl) ?_;simp only[Qd];refine awp_rseq [0,2] (by rfl) fun K hK=>?_;refine Qk qbT (cs:=[.int .i64 0, .int .i64 0, .int .i64 0]) (by rfl) fun k0q0 hk0q0=>?_;have hn_0q0:H0 k0q0=none:=by first|assumption|(simp only[V7]at hk0q0;simp only[hk0q0])
 have hf_0q0:B k0q0=none:=Bg hs_H0 hn_0q0;have ne_0q0_x:k0q0≠kx:=Bh hn_0q0 eb_x;simp+decide only[qa,putD,VM,VN,Ka];apply hK;clear hK K;refine qL ?_;refine awp_rseq [0,2,4] (by rfl) fun K hK=>?_;simp+decide only[ev,putD,VM,VO,Ka,true_and,↓qh,qc,↓Qj,qO,Qm,↓qD,qm,Ue,↓qG,Qb,qg qnP qcs,QL,ne_eq,not_false_eq_true,ne_0q0_x.symm,Qz wz eb_x,qf,VX,Km,Jr,Nat.reduceAdd,qB,qE,allLive,JS,hlm];refine qM (V:= .tuple [YR (atE c 0).1 (atE c 0).2.1, .int .i64 (atE c 0).2.2]) (by rfl) (by rfl) (c_At wz _ c mv 0 (hm.mono zqB) hml (by omega) (by omega)) ?_;simp+decide only[ev,putD,VM,VO,Ka,true_and,↓qh,qc,↓QV,QI,QT,KX,J8,VX,Km,VX,Km,Jr,Nat.reduceAdd,YR];refine Qk ze33 (cs:=[.int .i64 0, .int .i64 0]) (by rfl) fun k1q8 hk1q8=>?_;have ne_1q8_0q0:k1q8≠k0q0:=by simp only[V7]at hk1q8;simp only[hk1q8,ne_eq,not_false_eq_true]
 have hn_1q8:H0 k1q8=none:=by first|assumption|(simp only[V7]at hk1q8;simp only[hk1q8])
 have hf_1q8:B k1q8=none:=Bg hs_H0 hn_1q8;have ne_1q8_x:k1q8≠kx:=Bh hn_1q8 eb_x;refine qo (by rfl) (by rfl) zqA qbc (by rfl) (by rfl) zqD (Js _) (by rfl) ?_;simp only[Vh,VV];simp+decide only[qa,ev,putD,VM,VO,VN,Ka,true_and,↓qd,qb,setAt,VW,Ki,Jr];apply hK;clear hK K;refine awp_rseq [0,2,4,19] (by rfl) fun K hK=>?_;simp+decide only[qa,ev,qH,qF,putD,VM,VO,VN,Ka,true_and,↓qh,qc,↓qA,ql,qC,cond_false,qp,qaP];apply hK;clear hK K;refine qK (b:=_) rfl (fun hb1=>?_) (fun hb1=>?_)
 ·try simp only[decide_eq_false_iff_not,Ji]at hb1
  refine awp_rseq [2] (by rfl) fun K hK=>?_;simp+decide only[ev,qH,qF,putD,VM,VO,Ka,true_and,↓qh,qc,↓Qr,↓qY,qpU,evP,Kc,Vj];refine qo (by rfl) (by rfl) zqA QK (by rfl) (by rfl) zqD (Js _) (by rfl) ?_;simp only[VV];simp+decide only[qa,ev,putD,VO,VN,Ka,setAt,VW,Ki,Jr,Nat.reduceAdd];apply hK;clear hK K;refine qN ?_;try simp only[Qf]
  refine QS (?_) ?_
  ·simp+decide only[QC,qj,VO,if_true,and_true,qj,qg Xv QK,Qc,qf,VX,Km,Jr,Nat.reduceAdd,qi,allLive,JS,qf,VX,Km,Jr,Nat.reduceAdd,qi,allLive,JS]
  simp+decide only[VO,if_true,YH,qj,qg Xv QK,Qc,qf,VX,Km,Jr,Nat.reduceAdd,qi,allLive,JS,qf,VX,Km,Jr,Nat.reduceAdd,qi,allLive,JS,QA];rw[if_pos hb1]at ht0;rw[<-ht0];exact⟨scH kx B tb c.left c.text mv 0,by rw[<-hH0];exact zqB,rfl,hl,tb,0,rfl,hi⟩
 ·try simp only[decide_eq_true_eq,VS]at hb1
  have hv0:(atE c 0).2.2=0:=by simpa using hb1
  rw[if_neg (by rw[hv0];simp)]at ht0;obtain⟨a1,a2,a3,a4⟩:=hi.lay (j:=k0q0) (lf:=c.left) (s:=c.text) (mv:=mv) (i:=0) (by rw[<-hH0];exact hk0q0) ⟨[.int .i64 0, .int .i64 0, .int .i64 0],0⟩;obtain⟨B1,hB1⟩:∃B1,B1=B.set k0q0 ⟨[.int .i64 0, .int .i64 0, .int .i64 0],0⟩:=⟨_,rfl⟩
  rw[<-hB1]at a1 a2;have hB1s:Sub B B1:=by rw[hB1];exact Vg a4
  have hB1k:B1 k0q0=some ⟨[.int .i64 0, .int .i64 0, .int .i64 0],0⟩:=by rw[hB1];exact Vd _ _ _
  have hv:validC c=true:=by
   unfold atE at hv0;split at hv0
   ·rename_i q;exact q.1
   ·cases hv0
  refine BG (h':=scH kx B1 tb c.left c.text mv 0) (by rw[<-a1,<-hH0];exact Vg hk1q8) ?_;refine qV ?_;change Awp _ _ _ _ _ _ _;refine qL ?_;refine Qp ?_;refine XE [0,2] (fun g:ScG=>[(0, .ptr (.own kx) 0),(2, .ptr (.own k0q0) 0)]) (fun g:ScG=>scH kx B1 g.tb c.left c.text mv g.i) (fun g:ScG=>ScOk kx B1 c (qap c l) g) (fun g:ScG=>c.text.length-g.i) ⟨0,l,tb⟩ (by rfl) (Vl _) ⟨a2,Js _,ht0,hl⟩ ?_;rintro⟨i,l1,tb1⟩ ⟨i1,i2,i3,i4⟩;simp only at i1 i2 i3 i4|-
  have hjl:=qmC c.text (ZN l1).1 i i2;have hjg:=qdI c.text (ZN l1).1 i;have hnot:=qiz (s:=c.text) (next:=(ZN l1).1) (i:=i);have hstep:=qoN c i l1;have hsk:=c_skip wz (scH kx B1 tb1 c.left c.text mv i) kx c.left c.text mv (QH 5 tb1) i l1 i1.at (i1.toks _) (fun d=>by rw[i1.set];exact i1.toks d) (by omega) hct i2;have hst:=i1.set (lf:=c.left) (s:=c.text) (mv:=mv) (i:=i) ⟨[.bool c.left, .str c.text,mv, .int .i64 (ZR c.text (ZN l1).1 i),QH 5 tb1],0⟩;obtain⟨j,hj⟩:∃j,j=ZR c.text (ZN l1).1 i:=⟨_,rfl⟩
  rw[<-hj]at hjl hjg hnot hstep hsk hst;rw[i3]at hstep;have hval:atE c j=((atE c j).1,(atE c j).2.1,0):=by
   unfold atE;rw[if_pos ⟨hv,by omega,by omega⟩]
  refine qL ?_;refine awp_rseq [0,2,23] (by rfl) fun K hK=>?_;simp+decide only[ev,putD,VM,VO,Ka,true_and,↓qh,qc];refine QO (by rfl) (by rfl) (hsk) fun x4q1 h4q1 hx4q1=>?_;obtain⟨hv4,hh4⟩:=hx4q1;rw[hv4,hh4,hst];simp+decide only[qa,putD,VM,VN,Ka];apply hK;clear hK K;refine qK (b:=_) rfl (fun hb2=>?_) (fun hb2=>?_)
  ·try simp only[decide_eq_true_eq]at hb2
   refine qV ?_;change Awp _ _ _ _ _ _ _;refine Qp ?_;have hjlt:j<c.text.length:=by simpa using hb2
   have h32:=hnot hjlt;obtain⟨H1,hH1⟩:∃H1,H1=scH kx B1 tb1 c.left c.text mv j:=⟨_,rfl⟩
   have htk:IsL wz H1 5 (QH 5 tb1) (l1.map QJ):=by rw[hH1];exact i1.toks _
   replace eb_x:H1 kx=some ⟨[.bool c.left, .str c.text,mv, .int .i64 j,QH 5 tb1],0⟩:=by rw[hH1];exact i1.at
   have eb_0q0:H1 k0q0=some ⟨[.int .i64 0, .int .i64 0, .int .i64 0],0⟩:=by rw[hH1];exact i1.other hB1k
   have hs_H1:Sub B H1:=by rw[hH1];exact hB1s.trans i1.above
   have htl:=htk.live;have hlen:=htk.len Tryz.underlying26;rw[Jo]at hlen;rw[if_neg (by omega)]at hstep;obtain⟨t,ht⟩:∃t,t=WH c.text j l1:=⟨_,rfl⟩
   rw[<-ht]at hstep;show Awp _ _ _ _ _ _ (scH kx B1 tb1 c.left c.text mv j)
   rw[<-hH1];refine YM 13 [11] [0,2,5] mixed (by kernel_rfl) (by rfl) fun K hK=>?_;simp only[Kh,V6,VB,KP];simp+decide only[ev,putD,VM,VO,Ka,true_and,↓XD,qc,↓WI,qO,Qm,↓ZG,qm,Ue,↓Zn,Xz,qg qnP qcs,Wv,qz ag3,Qz wz eb_x,qf,VX,Km,Jr,Nat.reduceAdd,qB,qi,qE,allLive,JS,hlm];refine Xf (V:= .tuple [YR (atE c j).1 (atE c j).2.1, .int .i64 (atE c j).2.2]) (by rfl) (by rfl) (by first|trivial|(simp+decide only[Bb,Xu,and_true,true_and,QA,Uk,YR,qfi,nxA,nxR,Vd,JJ];done)|(simp[Bb,Xu,Bd];done)) (fun g hg=>c_At wz _ c mv j (hm.mono (hs_H1.trans hg)) hml (by omega) (by omega)) ?_;simp+decide only[ev,putD,VM,VO,Ka,true_and,↓XD,qc,↓qoA,QI,QT,KX,J8,VX,Km,VX,Km,Jr,Nat.reduceAdd,YR];refine qcG (by rfl) ?_;refine Qk ze33 (cs:=[.int .i64 0, .int .i64 0]) (by rfl) fun k5q12 hk5q12=>?_;have hn_5q12:H1 k5q12=none:=by first|assumption|(simp only[V7]at hk5q12;simp only[hk5q12])
   have hf_5q12:B k5q12=none:=Bg hs_H1 hn_5q12;have ne_5q12_x:k5q12≠kx:=Bh hn_5q12 eb_x;have ne_5q12_0q0:k5q12≠k0q0:=Bh hn_5q12 eb_0q0;rw[qa];try simp only[Yl]
   refine qo (by rfl) (by rfl) zqA qbc (by rfl) (by rfl) zqD (Js _) (by rfl) ?_;simp only[Vh,VV];simp+decide only[qa,ev,putD,VM,VO,VN,Ka,true_and,↓qd,qb,setAt,VW,Ki,Jr];apply hK;clear hK K;refine awp_rseq [0,2,5,7,8,9] (by rfl) fun K hK=>?_;simp+decide only[ev,putD,VM,VO,Ka,true_and,↓qh,qc];refine qM (V:=nxR t) (by rfl) (by rfl) (by rw[ht];exact c_next wz _ kx c.left c.text mv (QH 5 tb1) j l1 (zqA) (htk.mono zqB) (by omega) h32 hct) ?_;simp+decide only[ev,putD,VM,VO,Ka,true_and,↓qh,qc,↓QV,QI,QT,KX,J8,VX,Km,VX,Km,Jr,Nat.reduceAdd,nxA,nxR];refine Qk UO (cs:=[.int .u8 0, .str [], .int .i64 0, .int .i64 0, .bool false]) (by rfl) fun k6q6 hk6q6=>?_;have ne_6q6_5q12:k6q6≠k5q12:=by simp only[V7]at hk6q6;simp only[hk6q6,ne_eq,not_false_eq_true]
   have hn_6q6:H1 k6q6=none:=by first|assumption|(simp only[V7]at hk6q6;simp only[hk6q6])
   have hf_6q6:B k6q6=none:=Bg hs_H1 hn_6q6;have ne_6q6_x:k6q6≠kx:=Bh hn_6q6 eb_x;have ne_6q6_0q0:k6q6≠k0q0:=Bh hn_6q6 eb_0q0;refine qo (by rfl) (by rfl) zqA QW (by rfl) (by rfl) zqD (Js _) (by rfl) ?_;simp only[Vh,VV];simp+decide only[qa,ev,putD,VM,VO,VN,Ka,true_and,↓qd,qb,setAt,VW,Ki,Jr,Nat.reduceAdd];apply hK;clear hK K;refine qL ?_;refine awp_rseq [0,2,5,7,8,9,51] (by rfl) fun K hK=>?_;simp+decide only[qa,ev,qH,qF,putD,VM,VO,VN,Ka,true_and,↓qh,qc,↓qA,ql,qC,cond_false,qp,XH,↓Xe,agP,Qt,qJ,qI,qy,implies_true,↓Ym,qO,Qm,qbM,qbN,↓XI,qm,qdk,ZH,ZI,↓Zy,Zd,Ud,qgL,qz UJ,↓qaW,QD,qel,qem,↓Xb,XZ,Za,qav,↓QR,Qs,Qg,Xn,Xp,QL,ne_eq,not_false_eq_true,ne_5q12_x.symm,ne_6q6_x.symm,Qz wz eb_x,VX,Km,Jr,htl,hlen];apply hK;clear hK K;refine Ub [0,2,5,7,8,9] (fun z:Unit=>[(0, .ptr (.own kx) 0),(2, .ptr (.own k0q0) 0),(5, .ptr (.own k5q12) 0),(7, .ptr (.own k6q6) 0),(8, .int .i64 t.n),(9, .int .i64 (qgu t l1.length))]) (fun z:Unit=>(H1.set k5q12 ⟨[.int .i64 (atE c j).1, .int .i64 (atE c j).2.1],0⟩).set k6q6 ⟨[.int .u8 t.kind.toNat, .str t.text, .int .i64 0, .int .i64 0, .bool false],0⟩) (fun z:Unit=>True) ?_ ?_
   ·refine qK (b:=_) rfl (fun hb3=>?_) (fun hb3=>?_)
    ·try simp only[decide_eq_true_eq,Kw]at hb3
     have hee:qgu t l1.length=3:=by unfold qgu;rw[if_pos ⟨hb3.1,by omega⟩]
     refine XL [0,2,5,7,8,9] (by rfl) ?_;simp+decide only[qa,ev,qH,qF,putD,VM,VN,Ka,true_and,and_true,↓qd,qb,QA];try simp only[Qi]
     first
     |exact⟨(),by rw[hee];rfl,Vl _,trivial⟩
     |exact⟨(),by rw[hee];rfl,Vl _⟩
    ·try simp only[decide_eq_false_iff_not,VP]at hb3
     have hee:qgu t l1.length=t.e:=by unfold qgu;rw[if_neg (fun q=>hb3.elim (fun z=>z q.1) (fun z=>z (by omega)))]
     refine qV ?_;try simp only[Qi]
     first
     |exact⟨(),by rw[hee];rfl,Vl _,trivial⟩
     |exact⟨(),by rw[hee];rfl,Vl _⟩
   ·intro _ _
    refine qL ?_;refine awp_rseq [0,2,5,7,8,9,53] (by rfl) fun K hK=>?_;simp+decide only[qa,ev,qH,qF,putD,VM,VO,VN,Ka,true_and,↓qh,qc,↓qA,ql,qC,cond_false,qp,qaP];apply hK;clear hK K;refine qK (b:=_) rfl (fun hb4=>?_) (fun hb4=>?_)
    ·try simp only[decide_eq_false_iff_not,Ji]at hb4
     rw[if_pos hb4]at hstep;have hSB:Sub (scH kx B tb1 c.left c.text mv j) H1:=by rw[hH1];exact qln hB1s
     have hz0:(scH kx B tb1 c.left c.text mv j) k0q0=none:=i1.none hB1k a4;have hz5:=Bg hSB hn_5q12;have hz6:=Bg hSB hn_6q6;refine awp_rseq [2] (by rfl) fun K hK=>?_;simp+decide only[ev,qH,qF,putD,VM,VO,Ka,true_and,↓qh,qc,↓qG,Qb,qg qfF qbc,↓Qr,↓qY,UB,evP,Kc,Vj,QL,ne_eq,not_false_eq_true,ne_6q6_5q12.symm,QP,qf,VX,Km,Jr,qi,allLive,JS];refine qo (by rfl) (by rfl) zqA QK (by rfl) (by rfl) zqD (Js _) (by rfl) ?_;simp only[VV];simp+decide only[qa,ev,putD,VO,VN,Ka,setAt,VW,Ki,Jr,Nat.reduceAdd];apply hK;clear hK K;refine qN ?_;try simp only[Qf,Qu]
     refine QS (?_) ?_
     ·simp+decide only[QC,qj,VO,if_true,and_true,qj,qg Xv QK,Qc,qf,VX,Km,Jr,Nat.reduceAdd,qi,allLive,JS,qf,VX,Km,Jr,Nat.reduceAdd,qi,allLive,JS]
     simp+decide only[VO,if_true,YH,qj,qg Xv QK,Qc,qf,VX,Km,Jr,Nat.reduceAdd,qi,allLive,JS,qf,VX,Km,Jr,Nat.reduceAdd,qi,allLive,JS,QA];rw[hstep];exact⟨scH kx B tb1 c.left c.text mv j,zqB,rfl,i4,tb1,j,rfl,i1.down hB1s⟩
    ·try simp only[decide_eq_true_eq,VS]at hb4
     have hez:qgu t l1.length=0:=by simpa using hb4
     rw[if_neg (by rw[hez];simp)]at hstep;have hte:=qgt hez;have hlt:l1.length<65536:=by
      unfold qgu at hez;split at hez
      ·cases hez
      ·rename_i q;exact Nat.lt_of_not_le fun z=>q ⟨hte,z⟩
     have hnk:NxOk c.text j t:=by
      rw[ht]at hte|-
      exact next_ok hjlt (by rwa [YK hjlt]at h32) hte
     have hn0:=hnk.n0;have hn1:=hnk.n1;refine qV ?_;change Awp _ _ _ _ _ _ _;refine qfD 5 [1,2,3] [k5q12] [0,2,7,8] mixed (by kernel_rfl) (by rfl) fun K hK=>?_;simp only[Kh,V6,VB,KP];simp+decide only[Yl,ev,qH,qF,putD,VM,VO,Ka,true_and,↓Zn,Xz,qg qfF qbc,↓ZG,qm,qoF,qz ag3,↓qec,ql,qC,cond_false,qp,Zc,qhf,QL,ne_eq,not_false_eq_true,ne_6q6_5q12.symm,QP,qf,VX,Km,Jr,qi,allLive,JS];refine And.intro (by simp(decide:=true) [qci,ev,VO]) ?_;refine qbs ?_;refine qo (by rfl) (by rfl) zqA qbc (by rfl) (by rfl) zqD (Js _) (by rfl) ?_;simp only[Vh,VV];rw[qa];refine And.intro (by intro k hk;simp only[KW,Bj,or_false]at hk;first|rfl|(first|subst hk|(rcases hk with rfl|rfl|rfl|rfl|rfl));all_goals (simp[Bd,ne_6q6_5q12.symm]<;>rfl)) ?_;simp+decide only[ev,putD,VM,VO,Ka,true_and,↓qlF,qm,fa54_3,setAt,VW,Ki,Jr,Nat.reduceAdd];refine qbs ?_;refine qo (by rfl) (by rfl) zqA sz4 (by rfl) (by rfl) zqD (Js _) (by rfl) ?_;simp only[Vh,VV];rw[qa];refine And.intro (by intro k hk;simp only[KW,Bj,or_false]at hk;first|rfl|(first|subst hk|(rcases hk with rfl|rfl|rfl|rfl|rfl));all_goals (simp[Bd,ne_6q6_5q12.symm]<;>rfl)) ?_;simp+decide only[qjd,ev,putD,VO,VN,Ka,setAt,VW,Ki];apply hK;clear hK K;refine YM 7 [0] [0,2,8] mixed (by kernel_rfl) (by rfl) fun K hK=>?_;simp only[Kh,V6,VB,KP];simp+decide only[ev,putD,VM,VO,Ka,true_and,↓XD,qc,↓WI,qO,Qm,↓ZG,qm,qdk,↓Zn,Xz,qz UJ,qg XY QW,QL,ne_eq,not_false_eq_true,ne_5q12_x.symm,ne_6q6_x.symm,Qz wz eb_x,QP,qf,VX,Km,Jr,Nat.reduceAdd,qB,qi,qE,allLive,JS,htl];refine qcG (by rfl) ?_;refine Qn (cs:=QJ (qfN c j t)) (by kernel_rfl) fun k12q6 hk12q6=>?_;have ne_12q6_5q12:k12q6≠k5q12:=by simp only[V7]at hk12q6;simp only[hk12q6,ne_eq,not_false_eq_true]
     have ne_12q6_6q6:k12q6≠k6q6:=by simp only[V7]at hk12q6;simp only[hk12q6,ne_eq,not_false_eq_true]
     have hn_12q6:H1 k12q6=none:=by first|assumption|(simp only[V7]at hk12q6;simp only[hk12q6])
     have hf_12q6:B k12q6=none:=Bg hs_H1 hn_12q6;have ne_12q6_x:k12q6≠kx:=Bh hn_12q6 eb_x;have ne_12q6_0q0:k12q6≠k0q0:=Bh hn_12q6 eb_0q0;rw[qa];try simp only[Yl]
     refine Xw (es:=5) (zs:=l1.map QJ) (xs:=[QJ (qfN c j t)]) (hZ:=B1.set kx ⟨[.bool c.left, .str c.text,mv, .int .i64 j,QH 5 tb1],0⟩) (b:=tb1) (by rfl) (by rfl) Tryz.underlying26 Tryz.underlying26 (fun k e=>by cases e) QW qhn UO (by rfl) (by decide) (by rfl) (i1.ok _) i1.eq Xj (by rw[show Qv (B1.set kx ⟨[.bool c.left, .str c.text,mv, .int .i64 j,QH 5 tb1],0⟩) tb1=H1 from hH1.symm];exact zqB) (by rfl) (V8 (Vd _ _ _) (by simp[QJ]) (by rfl) (by rfl) (.exact 1) (KJ _)) (by rfl) (by simp;omega) (by simp;omega) fun tb2 h12 o1 o2 o3=>?_;have hlv2:=QY 5 tb2;simp+decide only[ev,putD,VM,VO,Ka,true_and,↓Qj,qO,Qm,↓qD,qm,qdk,Jr];refine qo (v:=QH 5 tb2) (by rfl) (by rfl) (o3 _ _ (ZU o1 (Vd _ _ _))) sz26 hlv2 (by cases tb2<;>rfl) (by cases tb2<;>simp[QH]) (Js _) (by cases tb2<;>rfl) ?_;rw[show(QH 5 tb2).cells=[QH 5 tb2] by cases tb2<;>rfl];simp only[setAt,VW,Ki];simp+decide only[qa,putD,VN,Ka];apply hK;clear hK K;have j1:ScInv kx B1 tb2 (l1++[qfN c j t]):=⟨i1.hk,fun d=>by have:=ZT o1 (Vd _ _ _) d;rwa [Vh]at this,by rw[o2,Ba];rfl⟩
     have hfor:Sub (scH kx B1 tb2 c.left c.text mv j) (h12.set kx ⟨[.bool c.left, .str c.text,mv, .int .i64 j,QH 5 tb2],0⟩):=by
      have:=V9 o3 kx ⟨[.bool c.left, .str c.text,mv, .int .i64 j,QH 5 tb2],0⟩;rw[Wp o1 (Vd _ _ _),Vh]at this;exact this
     refine BG (h':=scH kx B1 tb2 c.left c.text mv j) hfor ?_;have r13:=fun o=>Qz wz (j1.at (lf:=c.left) (s:=c.text) (mv:=mv) (i:=j)) o;refine XL [0,2] (by rfl) ?_;simp+decide only[ev,putD,VM,VO,Ka,true_and,↓qh,qc,↓Qj,qO,Qm,↓qD,qm,Wv,↓qG,Qb,qz ag3,↓qA,ql,qZ,cond_false,qp,Xc,VX,Km,Jr,qi,QA,r13];try simp(disch:=omega)only[wrap_i64]
     refine qo (v:= .int .i64 ((j:Int)+t.n)) (by rfl) (by rfl) j1.at sz3 (by rfl) (by rfl) (by simp) (Js _) (by rfl) ?_;simp only[setAt,VV,VW,Ki];rw[j1.set,show(j:Int)+(t.n:Int)=((j+t.n:Nat):Int) by omega];simp+decide only[qa,putD,VN,Ka];try simp only[Qi,YO]
     exact⟨⟨j+t.n,l1++[qfN c j t],tb2⟩,rfl,Vl _,⟨j1,hn1,hstep.symm,by simp only[Jb,KX,J8];omega⟩,by simp only;omega⟩
  ·try simp only[decide_eq_false_iff_not]at hb2
   refine XJ ?_;change Awp _ _ _ _ _ _ _;have hjge:¬j<c.text.length:=by simpa using hb2
   obtain⟨H1,hH1⟩:∃H1,H1=scH kx B1 tb1 c.left c.text mv j:=⟨_,rfl⟩
   have eb_0q0:H1 k0q0=some ⟨[.int .i64 0, .int .i64 0, .int .i64 0],0⟩:=by rw[hH1];exact i1.other hB1k
   have hs_H1:Sub B H1:=by rw[hH1];exact hB1s.trans i1.above
   rw[if_pos (by omega)]at hstep;show Awp _ _ _ _ _ _ (scH kx B1 tb1 c.left c.text mv j)
   rw[<-hH1];refine awp_rseq [2] (by rfl) fun K hK=>?_;simp+decide only[ev,qH,qF,putD,VM,VO,if_false,true_and,↓Qr,↓qY,ZV,evP,Vj];refine qo (by rfl) (by rfl) zqA QK (by rfl) (by rfl) zqD (Js _) (by rfl) ?_;simp only[VV];simp+decide only[qa,ev,putD,VO,VN,Ka,setAt,VW,Ki,Jr,Nat.reduceAdd];apply hK;clear hK K;refine qN ?_;refine QS (?_) ?_
   ·simp+decide only[QC,qj,VO,if_true,and_true,qj,qg Xv QK,Qc,qf,VX,Km,Jr,Nat.reduceAdd,qi,allLive,JS,qf,VX,Km,Jr,Nat.reduceAdd,qi,allLive,JS]
   simp+decide only[VO,if_true,YH,qj,qg Xv QK,Qc,qf,VX,Km,Jr,Nat.reduceAdd,qi,allLive,JS,qf,VX,Km,Jr,Nat.reduceAdd,qi,allLive,JS,QA];have hSB:Sub (scH kx B tb1 c.left c.text mv j) H1:=by rw[hH1];exact qln hB1s
   have hz0:(scH kx B tb1 c.left c.text mv j) k0q0=none:=i1.none hB1k a4;rw[hstep];exact⟨scH kx B tb1 c.left c.text mv j,zqB,rfl,i4,tb1,j,rfl,i1.down hB1s⟩
end Go.Proofs.YtlhhaagmakhilaaGreatDoor
namespace Go.Proofs.YtlhhaagmakhilaaGreatDoor
open Go.AM
open Go.Proofs
open Go.Col
set_option maxRecDepth 100000
theorem qeY{x:Rd}{l:List CardC}{c:CardC}(hx:x.cards=l++[c])(line col:Int)(t:Str):addE x line col t=⟨l++[qfb c line col t],line,col,qch (c.text++t)⟩:=by
 unfold addE;rw[hx];simp
theorem qho(es:Nat)(b:Buf):QH es (some b)= .slice (.own b.blk) 0 (b.cells.length / es) (.grow es):=rfl
theorem qoY(wz:World)(h:AHeap)(kx:Nat)(B M:AHeap)(cb mb:Option Buf)(x:Rd)(hi:RdInv wz h kx B M cb mb x)(hx:x.cards≠[])(line col:Int)(t:Str)(hb:∀c∈x.cards,c.text.length<=549755813888/\c.marks.length<=549755813888)(hn:x.cards.length<=549755813888)(ht:t.length<=80):
 ACall Tryz.prog wz 80 [.ptr (.own kx) 0, .int .i64 line, .int .i64 col, .str t] (rdH kx B cb mb x)
  (fun v h'=>v= .tuple []/\∃cb' mb',h'=rdH kx B cb' mb' (addE x line col t)/\RdInv wz h kx B M cb' mb' (addE x line col t)):=by
 rcases hi.cards with⟨c1,_⟩|⟨done,c,kc,c1,c2,c3,c4⟩
 ·exact absurd c1 hx
 have hD:((done.map Zm).flatten).length=done.length*3:=by
  rw[Zp (es:=3) (by intro y hy;obtain⟨p,_,rfl⟩:=JG.1 hy;rfl),Jo]
 have hlen:x.cards.length=done.length+1:=by rw[c1];simp
 have hcm:c∈x.cards:=by rw[c1];simp
 obtain⟨b1,b2⟩:=hb c hcm;have hokc:=hi.okc;have hokm:=hi.okm;have hL:((done.map Zm).flatten++[.bool c.left, .str c.text,QH 3 mb]).length / 3=done.length+1:=by
  rw[Jb,hD];simp only[KX,J8];omega
 have hv:QH 3 cb= .slice (.own kc) 0 (done.length+1) (.grow 3):=by
  rw[c2,qho,hL]
 subst c2;have hkc:kc≠kx:=fun e=>by
  have:=hokc.1;simp only[e,Vd]at this;cases this
 have hBc:B kc=none:=by
  have:=hokc.1
  rwa [Vb _ _ hkc]at this
 have call:=c_add wz (Qv (B.set kx ⟨Xm (some ⟨kc,(done.map Zm).flatten++[.bool c.left, .str c.text,QH 3 mb]⟩) x,0⟩) (some ⟨kc,(done.map Zm).flatten++[.bool c.left, .str c.text,QH 3 mb]⟩)) kx kc (done.map Zm).flatten done.length mb c x.line x.col x.odd line col t
  (by rw[show Qv (B.set kx ⟨Xm (some ⟨kc,(done.map Zm).flatten++[.bool c.left, .str c.text,QH 3 mb]⟩) x,0⟩) (some ⟨kc,(done.map Zm).flatten++[.bool c.left, .str c.text,QH 3 mb]⟩)=(B.set kx ⟨Xm (some ⟨kc,(done.map Zm).flatten++[.bool c.left, .str c.text,QH 3 mb]⟩) x,0⟩).set kc ⟨(done.map Zm).flatten++[.bool c.left, .str c.text,QH 3 mb],0⟩from rfl,Vb _ _ hkc.symm,Vd];unfold Xm;rw[hv])
  (Vd _ _ _) hD hokm c3 (by omega) (by omega) (by omega)
 refine call.mono fun v h' hr=>?_;obtain⟨e1,mb',e2,o1,o2⟩:=hr;have hadd:=qeY c1 line col t;have hL':((done.map Zm).flatten++[.bool c.left, .str (qfb c line col t).text,QH 3 mb']).length / 3=done.length+1:=by
  rw[Jb,hD];simp only[KX,J8];omega
 have hcells:Xm (some ⟨kc,(done.map Zm).flatten++[.bool c.left, .str (qfb c line col t).text,QH 3 mb']⟩) (addE x line col t)=[.slice (.own kc) 0 (done.length+1) (.grow 3), .int .i64 line, .int .i64 col, .bool (qch (c.text++t))]:=by
  unfold Xm;rw[hadd,qho,hL']
 have hH:(((Qv (B.set kx ⟨Xm (some ⟨kc,(done.map Zm).flatten++[.bool c.left, .str c.text,QH 3 mb]⟩) x,0⟩) (some ⟨kc,(done.map Zm).flatten++[.bool c.left, .str c.text,QH 3 mb]⟩)).set kx ⟨[.slice (.own kc) 0 (done.length+1) (.grow 3), .int .i64 line, .int .i64 col, .bool (qch (c.text++t))],0⟩).set kc ⟨(done.map Zm).flatten++[.bool c.left, .str (qfb c line col t).text,QH 3 mb'],0⟩)
  =Qv (B.set kx ⟨Xm (some ⟨kc,(done.map Zm).flatten++[.bool c.left, .str (qfb c line col t).text,QH 3 mb']⟩) (addE x line col t),0⟩) (some ⟨kc,(done.map Zm).flatten++[.bool c.left, .str (qfb c line col t).text,QH 3 mb']⟩):=by
  rw[hcells];simp only[Qv];rw[Vi _ _ _ hkc.symm,Vh,Vh]
 rw[hH]at e2 o1;refine⟨e1,_,mb',e2,⟨hi.sub,hi.subM,hi.hk,?_,o1, .inr ⟨done,qfb c line col t,kc,by rw[hadd],?_,o2,c4⟩⟩⟩
 ·refine⟨(Vb _ _ hkc).trans hBc,?_,?_⟩
  ·rw[Jb,hD]
   simp only[KX,J8];omega
  ·have hlv:=hokc.2.2
   rw[qai,Kw]at hlv|-
   refine⟨hlv.1,?_⟩;show(true && (true && ((QH 3 mb').live && true)))=true
   rw[QY];rfl
 ·have hleft:(qfb c line col t).left=c.left:=rfl
  rw[hleft]
theorem qmg{H:AHeap}{es:Nat}{b:Option Buf}{j:Nat}{c d:Blk}(hb:bufOk (H.set j c) es b):Qv (H.set j d) b=(Qv H b).set j d/\bufOk H es b/\Qv H b j=H j:=by
 cases b with
 |none=>exact⟨rfl,trivial,rfl⟩
 |some b=>
  have hne:b.blk≠j:=fun e=>by
   have:=hb.1;rw[e,Vd]at this;cases this
  have h1:H b.blk=none:=by have:=hb.1;rwa [Vb _ _ hne]at this
  exact⟨Vi _ _ _ hne,⟨h1,hb.2⟩,Vb _ _ hne.symm⟩
theorem RdInv.chunks{wz:World}{h:AHeap}{kx:Nat}{B M:AHeap}{cb mb:Option Buf}{x:Rd}(hi:RdInv wz h kx B M cb mb x):∃zs:List (List AVal),Ws cb=zs.flatten/\(∀z∈zs,z.length=3)/\zs.length=x.cards.length:=by
 rcases hi.cards with⟨c1,c2,_⟩|⟨done,c,kc,c1,c2,c3,c4⟩
 ·exact⟨[],by rw[c2];rfl,by simp,by rw[c1];rfl⟩
 ·refine⟨done.map Zm++[[.bool c.left, .str c.text,QH 3 mb]],by rw[c2];simp[Ws],?_,by rw[c1];simp⟩
  intro z hz;rw[JI]at hz;rcases hz with hz|hz
  ·obtain⟨p,_,rfl⟩:=JG.1 hz;rfl
  ·rw[BD.1 hz];rfl
theorem RdInv.push{wz:World}{h:AHeap}{kx:Nat}{B M:AHeap}{cb mb:Option Buf}{x:Rd}(hi:RdInv wz h kx B M cb mb x)(left:Bool){cb':Option Buf}{h5:AHeap}
 (o1:bufOk (Qv (B.set kx ⟨Xm cb x,0⟩) mb) 3 cb') (o2:Ws cb'=Ws cb++[.bool left, .str [], .nilSlice]) (o3:Sub (Qv (Qv (B.set kx ⟨Xm cb x,0⟩) mb) cb') h5):
 RdInv wz h kx (Qv B mb) (Qv M mb) cb' none ⟨x.cards++[⟨left,[],[]⟩],x.line,x.col,x.odd⟩/\Sub (rdH kx (Qv B mb) cb' none ⟨x.cards++[⟨left,[],[]⟩],x.line,x.col,x.odd⟩) (h5.set kx ⟨Xm cb' ⟨x.cards++[⟨left,[],[]⟩],x.line,x.col,x.odd⟩,0⟩)/\(∀j c,B j=some c->Qv B mb j=some c)/\∀j c,B j=some c->M j=none->Qv M mb j=none:=by
 obtain⟨q1,q2,q3⟩:=qmf hi.okc hi.okm;obtain⟨p1,p2,p3⟩:=qmg (d:=⟨Xm cb x,0⟩) q2;have hsub:Sub B (Qv B mb):=BH p2;rw[p1]at o1 o3;obtain⟨r1,r2,r3⟩:=qmg (d:=⟨Xm cb' ⟨x.cards++[⟨left,[],[]⟩],x.line,x.col,x.odd⟩,0⟩) o1;obtain⟨s1,_,_⟩:=qmg (d:=⟨Xm cb x,0⟩) o1;have pM:bufOk M 3 mb:=p2.sub hi.subM;have hsubM:Sub M (Qv M mb):=BH pM;have hMB:Sub (Qv M mb) (Qv B mb):=by
  cases mb with
  |none=>exact hi.subM
  |some b=>exact V9 hi.subM _ _
 refine⟨⟨hi.sub.trans hsub,hMB,p3.trans hi.hk,?_,trivial, .inr ?_⟩,?_,fun j c hj=>hsub _ _ hj,fun j c hj hM=>?_⟩
 ·have:=ZT o1 (Vd _ _ _) ⟨Xm cb' ⟨x.cards++[⟨left,[],[]⟩],x.line,x.col,x.odd⟩,0⟩
  rwa [Vh]at this
 ·have hsome:∃kc,cb'=some ⟨kc,Ws cb++[.bool left, .str [], .nilSlice]⟩:=by
   cases cb' with
   |none=>simp[Ws]at o2
   |some b=>exact⟨b.blk,by rw[<-o2];rfl⟩
  obtain⟨kc',hcb'⟩:=hsome;rcases hi.cards with⟨c1,c2,c3⟩|⟨done,c,kc,c1,c2,c3,c4⟩
  ·refine⟨[],⟨left,[],[]⟩,kc',by rw[c1];rfl,by rw[hcb',c2];rfl,rfl,by simp⟩
  ·refine⟨done++[(c,QH 3 mb)],⟨left,[],[]⟩,kc',by rw[c1];simp,?_,rfl,?_⟩
   ·rw[hcb',c2]
    simp[Ws,Zm,QH]
   ·intro p hp
    rw[JI]at hp;rcases hp with hp|hp
    ·exact(c4 p hp).mono hsubM
    ·rw[BD.1 hp]
     exact BF pM (by decide) c3 (by intro y hy;obtain⟨m,_,rfl⟩:=JG.1 hy;rfl) (Vl _)
 ·show Sub (Qv ((Qv B mb).set kx ⟨Xm cb' ⟨x.cards++[⟨left,[],[]⟩],x.line,x.col,x.odd⟩,0⟩) cb') _
  rw[r1];rw[s1]at o3;have:=V9 o3 kx ⟨Xm cb' ⟨x.cards++[⟨left,[],[]⟩],x.line,x.col,x.odd⟩,0⟩
  rwa [Vh]at this
 ·cases mb with
  |none=>exact hM
  |some b=>
   have:j≠b.blk:=fun e=>by
    have:=p2.1;rw[<-e,hj]at this;cases this
   exact(Vb _ _ this).trans hM
end Go.Proofs.YtlhhaagmakhilaaGreatDoor
namespace Go.Proofs.YtlhhaagmakhilaaGreatDoor
open Go.AM
open Go.Proofs
open Go.Col
set_option maxRecDepth 100000
theorem take1{x:Rd}{r:RowC}(h1:r.more=false)(h2:x.odd=true):takeE x r=(x,⟨4,x.line,x.col⟩):=by unfold takeE;rw[h1,h2];rfl
theorem take2{x:Rd}{r:RowC}(h1:r.more=false)(h2:x.odd=false):takeE x r=(addE ⟨x.cards++[⟨decide (r.col<12),[],[]⟩],x.line,x.col,x.odd⟩ r.line r.col r.text,okF):=by unfold takeE;rw[h1,h2];rfl
theorem take3{x:Rd}{r:RowC}(h1:r.more=true)(h2:x.cards=[]):takeE x r=(x,⟨6,r.line,7⟩):=by unfold takeE;rw[h1,if_neg (by simp),if_neg (by simp),if_pos h2]
theorem take4{x:Rd}{r:RowC}(h1:r.more=true)(h2:x.cards≠[])(h3:r.col<12\/(x.odd=true/\r.text.getD 0 0≠34)):takeE x r=(x,⟨4,r.line,r.col⟩):=by unfold takeE;rw[h1,if_neg (by simp),if_neg (by simp),if_neg h2,if_pos h3]
theorem take5{x:Rd}{r:RowC}(h1:r.more=true)(h2:x.cards≠[])(h3:¬(r.col<12\/(x.odd=true/\r.text.getD 0 0≠34)))(h4:x.odd=true):takeE x r=(addE x r.line (r.col+1) (r.text.drop 1),okF):=by unfold takeE;rw[h1,if_neg (by simp),if_neg (by simp),if_neg h2,if_neg h3,if_pos h4]
theorem take6{x:Rd}{r:RowC}(h1:r.more=true)(h2:x.cards≠[])(h3:¬(r.col<12\/(x.odd=true/\r.text.getD 0 0≠34)))(h4:x.odd=false):takeE x r=(addE x r.line r.col r.text,okF):=by unfold takeE;rw[h1,if_neg (by simp),if_neg (by simp),if_neg h2,if_neg h3,if_neg (by rw[h4];decide)]
theorem c_take(wz:World)(h:AHeap)(kx:Nat)(B M:AHeap)(cb mb:Option Buf)(x:Rd)(hi:RdInv wz h kx B M cb mb x)(r:RowC)(hb:∀c∈x.cards,c.text.length<=549755813887/\c.marks.length<=549755813887)(hn:x.cards.length<=549755813887)(ht:r.text.length<=80)(ht0:r.text≠[])(hc0:0<=r.col)(hc1:r.col<=80):
 ACall Tryz.prog wz 62 [.ptr (.own kx) 0,qiE r] (rdH kx B cb mb x)
  (fun v h'=>v=QA (takeE x r).2/\∃B' M' cb' mb',h'=rdH kx B' cb' mb' (takeE x r).1/\RdInv wz h kx B' M' cb' mb' (takeE x r).1/\Sub B B'/\∀j,B j≠none->M j=none->M' j=none):=by
 have hlvc:=QY 3 cb;have hmany:=hi.many;have hlen:=buf_len Tryz.prog Tryz.underlying101 3 cb;rw[hmany]at hlen;have htp:0<r.text.length:=List.length_pos_iff.2 ht0;refine qP (n:=100) (rs:=[.cell 4 35]) Tryz.func62 rfl rfl rfl rfl (VL rfl) ?_;simp only[Qd];refine awp_rseq [0,3,4] (by rfl) fun K hK=>?_;refine YN (by rfl) (by rfl) (by rfl) fun k0q0 hk0q0=>?_;try have hf_0q0:(rdH kx B cb mb x) k0q0=none:=by first|assumption|(simp only[V7]at hk0q0;simp only[hk0q0])
 skip;refine Qk qbT (cs:=[.int .i64 0, .int .i64 0, .int .i64 0]) (by rfl) fun k0q1 hk0q1=>?_;have ne_0q1_0q0:k0q1≠k0q0:=by simp only[V7]at hk0q1;simp only[hk0q1,ne_eq,not_false_eq_true]
 try have hf_0q1:(rdH kx B cb mb x) k0q1=none:=by first|assumption|(simp only[V7]at hk0q1;simp only[hk0q1])
 simp+decide only[qa,ev,putD,VM,VO,VN,Ka,VV,Jr,qiE];obtain⟨a1,a2,a3,a4⟩:=qig hi hk0q0 ⟨[.int .i64 r.line, .bool r.more, .str r.text, .int .i64 r.col],0⟩;have hk1':rdH kx (B.set k0q0 ⟨[.int .i64 r.line, .bool r.more, .str r.text, .int .i64 r.col],0⟩) cb mb x k0q1=none:=by rw[<-a1];exact hk0q1
 obtain⟨b1,b2,b3,b4⟩:=qig a2 hk1' ⟨[.int .i64 0, .int .i64 0, .int .i64 0],0⟩;have hheap:((rdH kx B cb mb x).set k0q0 ⟨[.int .i64 r.line, .bool r.more, .str r.text, .int .i64 r.col],0⟩).set k0q1 ⟨[.int .i64 0, .int .i64 0, .int .i64 0],0⟩=rdH kx ((B.set k0q0 ⟨[.int .i64 r.line, .bool r.more, .str r.text, .int .i64 r.col],0⟩).set k0q1 ⟨[.int .i64 0, .int .i64 0, .int .i64 0],0⟩) cb mb x:=by rw[a1,b1]
 have hat:(((rdH kx B cb mb x).set k0q0 ⟨[.int .i64 r.line, .bool r.more, .str r.text, .int .i64 r.col],0⟩).set k0q1 ⟨[.int .i64 0, .int .i64 0, .int .i64 0],0⟩) kx=some ⟨Xm cb x,0⟩:=by rw[hheap];exact b2.at
 have hrx:=fun o=>Qz wz hat o;apply hK;clear hK K;refine qL ?_;refine Qp ?_;refine awp_rseq [0,3,4,13] (by rfl) fun K hK=>?_;simp+decide only[qa,ev,qH,qF,putD,VM,VO,VN,Ka,true_and,↓qD,qm,qpJ,↓qG,Qb,qz ag4,↓Yz,XP,Yk,↓qh,qc,↓Xe,agP,Qt,qJ,qI,qy,implies_true,↓Ym,qO,Qm,qbM,qbN,↓XI,qdl,ZH,ZI,↓Zy,Zd,Ud,qgL,↓QR,Qs,Qg,Xn,Xp,↓qd,qb,QL,ne_eq,not_false_eq_true,ne_0q1_0q0.symm,QP,VX,Km,Jr,qB,hrx,Xm];apply hK;clear hK K;refine qK (b:=_) rfl (fun hb1=>?_) (fun hb1=>?_)
 ·try simp only[Ji,Kw]at hb1
  refine awp_rseq [4] (by rfl) fun K hK=>?_;simp+decide only[ev,qH,qF,putD,VM,VO,Ka,true_and,↓qh,qc,↓Qj,qO,Qm,↓qD,qm,qgs,↓qG,Qb,qg qfF qbc,↓Qr,↓qY,UB,evP,Kc,Vj,qf,VX,Km,Jr,Nat.reduceAdd,qi,allLive,JS,hrx,Xm];refine qo (by rfl) (by rfl) zqA QK (by rfl) (by rfl) zqD (Js _) (by rfl) ?_;simp only[Vh,VV];simp+decide only[qa,ev,putD,VO,VN,Ka,setAt,VW,Ki,Jr,Nat.reduceAdd];apply hK;clear hK K;refine qN ?_;try simp only[Qf,Qu]
  refine qW (rdH kx B cb mb x) zqC (?_) ?_
  ·simp+decide only[QC,qj,VO,if_true,and_true,qj,qg Xv QK,Qc,qf,VX,Km,Jr,Nat.reduceAdd,qi,allLive,JS,qf,VX,Km,Jr,Nat.reduceAdd,qi,allLive,JS]
  simp+decide only[VO,if_true,YH,qj,qg Xv QK,Qc,qf,VX,Km,Jr,Nat.reduceAdd,qi,allLive,JS,ne_eq,qf,VX,Km,Jr,Nat.reduceAdd,qi,allLive,JS,QA];rw[take1 hb1.1 hb1.2];exact⟨rfl,B,M,cb,mb,rfl,hi,Vl _,fun _ _ h=>h⟩
 ·try simp only[VS,VP]at hb1
  refine awp_rseq [0,3,4,28] (by rfl) fun K hK=>?_;simp+decide only[qa,ev,putD,VM,VO,VN,Ka,true_and,↓qD,qm,qpJ,↓qG,Qb,qz ag4,↓Yz,XP,Yk,↓qd,qb,QL,ne_eq,not_false_eq_true,ne_0q1_0q0.symm,QP,VX,Km,Jr,qB];apply hK;clear hK K;refine qK (b:=_) rfl (fun hb2=>?_) (fun hb2=>?_)
  ·try simp only[Ji]at hb2
   rw[hheap];obtain⟨B₁,hB₁⟩:∃B₁,B₁=(B.set k0q0 ⟨[.int .i64 r.line, .bool r.more, .str r.text, .int .i64 r.col],0⟩).set k0q1 ⟨[.int .i64 0, .int .i64 0, .int .i64 0],0⟩:=⟨_,rfl⟩
   rw[<-hB₁]at b2|-
   have e0:B₁ k0q0=some ⟨[.int .i64 r.line, .bool r.more, .str r.text, .int .i64 r.col],0⟩:=by rw[hB₁,Vb _ _ ne_0q1_0q0.symm,Vd]
   have e1:B₁ k0q1=some ⟨[.int .i64 0, .int .i64 0, .int .i64 0],0⟩:=by rw[hB₁,Vd]
   have s0:=fun o=>Qz wz (b2.other e0) o;have sx:=fun o=>Qz wz b2.at o;obtain⟨q1,q2,q3⟩:=qmf b2.okc b2.okm;obtain⟨zs,z1,z2,z3⟩:=b2.chunks;refine YM 10 [0] [0,3,4] mixed (by kernel_rfl) (by rfl) fun K hK=>?_;simp only[Kh,V6,VB,KP];simp+decide only[ev,qH,qF,putD,VM,VO,Ka,true_and,↓XD,qc,↓WI,qO,Qm,↓ZG,qm,qbj,↓Zn,Xz,qz qhU,qeO,qz ag3,↓qec,ql,qC,cond_false,qp,Zc,↓Un,↓qY,bld129_0,evP,Kc,Vj,VX,Km,Jr,qi,Xm,hlvc,s0,sx];refine qcG (by rfl) ?_;refine Qn (cs:=[.bool (decide (r.col<12)), .str [], .nilSlice]) (by kernel_rfl) fun k5q9 hk5q9=>?_;try have hf_5q9:(rdH kx B cb mb x) k5q9=none:=by first|assumption|(simp only[V7]at hk5q9;simp only[hk5q9])
   rw[qa];try simp only[Yl]
   refine Xw (es:=3) (zs:=zs) (xs:=[[.bool (decide (r.col<12)), .str [], .nilSlice]]) (hZ:=Qv (B₁.set kx ⟨Xm cb x,0⟩) mb) (b:=cb) (by rfl) (by rfl) Tryz.underlying101 Tryz.underlying101 (fun k e=>by cases e) qcs by129 ze129 (by rfl) (by decide) (by rfl) q3 z1 z2 (by rw[<-q1];exact Vg hk5q9) (by rfl) (V8 (Vd _ _ _) (by simp) (by rfl) (by rfl) (.exact 1) (KJ _)) (by rfl) (by simp;omega) (by simp;omega) fun cb' h5 o1 o2 o3=>?_;have hlv':=QY 3 cb';simp+decide only[ev,putD,VM,VO,Ka,true_and,↓Qj,qO,Qm,↓qD,qm,qbj,Jr];refine qo (v:=QH 3 cb') (by rfl) (by rfl) (o3 _ _ (ZU o1 (ZU q2 (Vd _ _ _)))) sz101 hlv' (by cases cb'<;>rfl) (by cases cb'<;>simp[Xm,QH]) (Js _) (by cases cb'<;>rfl) ?_;rw[show(QH 3 cb').cells=[QH 3 cb'] by cases cb'<;>rfl];simp only[setAt,Xm,VW];simp+decide only[qa,putD,VN,Ka];apply hK;clear hK K;obtain⟨i1,u1,u2,u3⟩:=b2.push (decide (r.col<12)) o1 (by rw[o2,List.flatten_append,<-z1];rfl) o3;refine BG (h':=rdH kx (Qv B₁ mb) cb' none ⟨x.cards++[⟨decide (r.col<12),[],[]⟩],x.line,x.col,x.odd⟩) u1 ?_;have t0:=fun o=>Qz wz (i1.other (u2 _ _ e0)) o;have hb':∀c∈x.cards++[⟨decide (r.col<12),[],[]⟩],c.text.length<=549755813888/\c.marks.length<=549755813888:=by
    intro c hc;rw[JI]at hc;rcases hc with hc|hc
    ·have:=hb c hc
     omega
    ·rw[BD.1 hc]
     exact⟨by simp,by simp⟩
   refine XL [4] (by rfl) ?_;simp+decide only[ev,putD,VM,VO,Ka,true_and,↓qh,qc,↓qD,qm,qgr,↓qG,Qb,qz ag3,qeO,qij,qz ag9,ne_eq,VX,Km,Jr,qi,qE,QA,t0];refine QO (by rfl) (by rfl) (qoY wz h kx _ _ cb' none _ i1 (by simp) r.line r.col r.text hb' (by simp;omega) ht) fun x6q7 h6q7 hx6q7=>?_;obtain⟨-,cb2,mb2,rfl,i2⟩:=hx6q7;have hz:=i2.other (u2 _ _ e1);have hsB:Sub B (Qv B₁ mb):=fun j c hj=>u2 _ _ (by rw[hB₁];exact V3 (V3 (Vl _) a4) (by rwa [Vb _ _ ne_0q1_0q0]at b4) j c hj);have hsM:∀j,B j≠none->M j=none->Qv M mb j=none:=fun j hj hM=>by
    cases hjc:B j with
    |none=>exact absurd hjc hj
    |some c=>exact u3 j c (by rw[hB₁];exact V3 (V3 (Vl _) a4) (by rwa [Vb _ _ ne_0q1_0q0]at b4) j c hjc) hM
   have hfin:=take2 (x:=x) (r:=r) (by simpa using hb2) (by simpa[hb2]using hb1);simp+decide only[qa,putD,VM,VN,Ka];change Awp _ _ _ _ _ _ _;refine awp_rseq [4] (by rfl) fun K hK=>?_;simp+decide only[ev,qH,qF,putD,VM,VO,if_false,true_and,↓Qr,↓qY,ZV,evP,Vj];refine qo (v:= .agg [.int .i64 0, .int .i64 0, .int .i64 0]) (by rfl) (by rfl) hz QK (by rfl) (by rfl) (by simp[]) (Js _) (by rfl) ?_;simp only[setAt,VV,VW,Ki,Jr,Nat.reduceAdd];rw[YB hz];simp+decide only[qa,putD,VN,Ka];apply hK;clear hK K;refine qN ?_;refine QS (?_) ?_
   ·simp+decide only[QC,qj,VO,if_true,and_true,qj,qg Xv QK,qf,VX,Km,Jr,Nat.reduceAdd,qi,allLive,JS,qf,VX,Km,Jr,Nat.reduceAdd,qi,allLive,JS,Qz wz hz]
   simp+decide only[VO,if_true,YH,qj,qg Xv QK,qf,VX,Km,Jr,Nat.reduceAdd,qi,allLive,JS,qf,VX,Km,Jr,Nat.reduceAdd,qi,allLive,JS,Qz wz hz];refine⟨_,Vl _,?_⟩;rw[hfin];exact⟨rfl,_,_,_,_,rfl,i2,hsB,hsM⟩
  ·try simp only[VS]at hb2
   refine awp_rseq [0,3,4,53] (by rfl) fun K hK=>?_;simp+decide only[qa,ev,qH,qF,putD,VM,VO,VN,Ka,true_and,↓qh,qc,↓Qj,qO,Qm,↓qD,qm,qbj,↓qG,Qb,qz qhU,↓Xt,QD,↓qA,ql,qC,cond_false,qp,XH,↓qd,qb,VX,Jr,hrx,Xm,hlvc,hlen];apply hK;clear hK K;refine qK (b:=_) rfl (fun hb3=>?_) (fun hb3=>?_)
   ·try simp only[decide_eq_true_eq]at hb3
    refine awp_rseq [4] (by rfl) fun K hK=>?_;simp+decide only[ev,putD,VM,VO,Ka,true_and,↓qD,qm,qgr,↓qG,Qb,qz ag3,QL,ne_eq,not_false_eq_true,ne_0q1_0q0.symm,QP,VX,Jr,qi];refine qM (V:=QA ⟨6,r.line,7⟩) (by rfl) (by rfl) (qgG wz _ 6 r.line 7) ?_;refine qo (by rfl) (by rfl) zqA QK (by rfl) (by rfl) zqD (Js _) (by rfl) ?_;simp only[Vh,VV];simp+decide only[qa,ev,putD,VM,VO,VN,Ka,setAt,VW,Ki,Jr,Nat.reduceAdd,QA];apply hK;clear hK K;refine qN ?_;try simp only[Qf,Qu]
    refine qW (rdH kx B cb mb x) zqC (?_) ?_
    ·simp+decide only[QC,qj,VO,if_true,and_true,qj,qg Xv QK,Qc,qf,VX,Km,Jr,Nat.reduceAdd,qi,allLive,JS,qf,VX,Km,Jr,Nat.reduceAdd,qi,allLive,JS]
    simp+decide only[VO,if_true,YH,qj,qg Xv QK,Qc,qf,VX,Km,Jr,Nat.reduceAdd,qi,allLive,JS,ne_eq,qf,VX,Km,Jr,Nat.reduceAdd,qi,allLive,JS,QA];rw[take3 (by simpa using hb2) (Ke (by omega))];exact⟨rfl,B,M,cb,mb,rfl,hi,Vl _,fun _ _ h=>h⟩
   ·try simp only[decide_eq_false_iff_not]at hb3
    have hm:r.more=true:=by simpa using hb2
    have hne:x.cards≠[]:=fun e=>hb3 (by rw[e];rfl);refine awp_rseq [0,3,4,63] (by rfl) fun K hK=>?_;simp+decide only[qa,ev,qH,qF,putD,VM,VO,VN,Ka,true_and,↓qD,qm,qeO,↓qG,Qb,qz ag3,↓qA,ql,qC,cond_false,qp,Zc,↓qh,qc,↓Xe,agP,Qt,qJ,qI,QZ,YD,qy,Qe,qnu,implies_true,↓Ym,qO,Qm,qbM,qbN,↓XI,qdl,ZH,ZI,↓Zy,Zd,Ud,qce,qpW,qz ag4,qij,qz ag9,↓qnN,qeE,qdg Tryz.underlying9,qkU,qkW,↓Xb,XZ,Za,qaP,↓qgK,Qs,Qg,XO,qgA,Xp,ZF,qgy,qgz,↓QR,↓qd,qb,QL,ne_eq,not_false_eq_true,ne_0q1_0q0.symm,QP,VX,Km,Jr,qB,qi,qE,hrx,Xm,Int.toNat_zero];repeat (with_reducible refine And.intro ?_ ?_;· first|trivial|omega|(intro hg;simp only[Kw,JV,Ji,VP,VQ,VS,decide_eq_true_eq,decide_eq_false_iff_not,XT]at hg;omega))
    apply hK;clear hK K;refine qK (b:=_) rfl (fun hb4=>?_) (fun hb4=>?_)
    ·try simp only[decide_eq_true_eq,decide_eq_false_iff_not,Ji,Kw,JV]at hb4
     refine awp_rseq [4] (by rfl) fun K hK=>?_;simp+decide only[ev,putD,VM,VO,Ka,true_and,↓qD,qm,qgr,↓qG,Qb,qz ag3,qeO,QL,ne_eq,not_false_eq_true,ne_0q1_0q0.symm,QP,VX,Km,Jr,qi];refine qM (V:=QA ⟨4,r.line,r.col⟩) (by rfl) (by rfl) (qgG wz _ 4 r.line r.col) ?_;refine qo (by rfl) (by rfl) zqA QK (by rfl) (by rfl) zqD (Js _) (by rfl) ?_;simp only[Vh,VV];simp+decide only[qa,ev,putD,VM,VO,VN,Ka,setAt,VW,Ki,Jr,Nat.reduceAdd,QA];apply hK;clear hK K;refine qN ?_;try simp only[Qf,Qu]
     refine qW (rdH kx B cb mb x) zqC (?_) ?_
     ·simp+decide only[QC,qj,VO,if_true,and_true,qj,qg Xv QK,Qc,qf,VX,Km,Jr,Nat.reduceAdd,qi,allLive,JS,qf,VX,Km,Jr,Nat.reduceAdd,qi,allLive,JS]
     simp+decide only[VO,if_true,YH,qj,qg Xv QK,Qc,qf,VX,Km,Jr,Nat.reduceAdd,qi,allLive,JS,ne_eq,qf,VX,Km,Jr,Nat.reduceAdd,qi,allLive,JS,QA];rw[take4 hm hne (hb4.imp id (fun e=>⟨e.1,fun q=>e.2 (by rw[q];rfl)⟩))];exact⟨rfl,B,M,cb,mb,rfl,hi,Vl _,fun _ _ h=>h⟩
    ·try simp only[decide_eq_true_eq,decide_eq_false_iff_not,VS,VP,VQ]at hb4
     have hnq:¬(r.col<12\/(x.odd=true/\r.text.getD 0 0≠34)):=by
      rintro(e|⟨e1,e2⟩)
      ·exact hb4.1 e
      ·rcases hb4.2 with e|e
       ·rw[e1]at e;cases e
       ·exact e2 ((Zg _ 34).mp e)
     refine awp_rseq [0,3,4,84] (by rfl) fun K hK=>?_;simp+decide only[qa,ev,putD,VM,VO,VN,Ka,true_and,↓qh,qc,↓Qj,qO,Qm,↓qD,qm,qdl,↓qG,Qb,qz ag4,↓qd,qb,VX,Km,Jr,qB,hrx,Xm];apply hK;clear hK K;refine qK (b:=_) rfl (fun hb5=>?_) (fun hb5=>?_)
     ·skip
      rw[hheap];obtain⟨B₁,hB₁⟩:∃B₁,B₁=(B.set k0q0 ⟨[.int .i64 r.line, .bool r.more, .str r.text, .int .i64 r.col],0⟩).set k0q1 ⟨[.int .i64 0, .int .i64 0, .int .i64 0],0⟩:=⟨_,rfl⟩
      rw[<-hB₁]at b2|-
      have e0:B₁ k0q0=some ⟨[.int .i64 r.line, .bool r.more, .str r.text, .int .i64 r.col],0⟩:=by rw[hB₁,Vb _ _ ne_0q1_0q0.symm,Vd]
      have e1:B₁ k0q1=some ⟨[.int .i64 0, .int .i64 0, .int .i64 0],0⟩:=by rw[hB₁,Vd]
      have s0:=fun o=>Qz wz (b2.other e0) o;have sx:=fun o=>Qz wz b2.at o;have hcut:(r.text.drop (1:Int).toNat).take ((r.text.length:Int).toNat-(1:Int).toNat)=r.text.drop 1:=by
       rw[Vq,show Int.toNat 1=1 from rfl,Jq (by simp)]
      refine qaJ 9 mixed (by kernel_rfl) (by rfl) (by rfl) ?_;simp+decide only[ev,qH,qF,putD,VM,VO,Ka,true_and,↓qh,qc,↓qD,qm,qgr,↓qG,Qb,qz ag3,qeO,↓qA,ql,qC,cond_false,qp,Xc,qij,qz ag9,ne_eq,VX,Km,Jr,qi,qE,QA,s0];try simp(disch:=omega)only[wrap_i64]
      try simp+decide only[ev,qH,qF,putD,VM,VO,Ka,true_and,↓WU,Zt,evO,qdf Tryz.underlying9,qaH,qeV,UH,hcut]
      repeat (with_reducible refine And.intro ?_ ?_;· first|trivial|omega|(intro hg;simp only[Kw,JV,Ji,VP,VQ,VS,decide_eq_true_eq,decide_eq_false_iff_not,XT]at hg;omega))
      refine QO (by rfl) (by rfl) (qoY wz h kx _ _ cb mb _ b2 hne r.line (r.col+1) (r.text.drop 1) (by intro c hc;have:=hb c hc;omega) (by omega) (by simp;omega)) fun x12q9 h12q9 hx12q9=>?_;obtain⟨-,cb2,mb2,rfl,i2⟩:=hx12q9;have hz:=i2.other e1;have hsB:Sub B B₁:=fun j c hj=>by rw[hB₁];exact V3 (V3 (Vl _) a4) (by rwa [Vb _ _ ne_0q1_0q0]at b4) j c hj
      have hsM:∀j,B j≠none->M j=none->M j=none:=fun _ _ h=>h;have hfin:=take5 (x:=x) (r:=r) hm hne hnq hb5;simp+decide only[qa,putD,VM,if_false];change Awp _ _ _ _ _ _ _;refine awp_rseq [4] (by rfl) fun K hK=>?_;simp+decide only[ev,qH,qF,putD,VM,VO,if_false,true_and,↓Qr,↓qY,ZV,evP,Vj];refine qo (v:= .agg [.int .i64 0, .int .i64 0, .int .i64 0]) (by rfl) (by rfl) hz QK (by rfl) (by rfl) (by simp[]) (Js _) (by rfl) ?_;simp only[setAt,VV,VW,Ki,Jr,Nat.reduceAdd];rw[YB hz];simp+decide only[qa,putD,VN,Ka];apply hK;clear hK K;refine qN ?_;refine QS (?_) ?_
      ·simp+decide only[QC,qj,VO,if_true,and_true,qj,qg Xv QK,qf,VX,Km,Jr,Nat.reduceAdd,qi,allLive,JS,qf,VX,Km,Jr,Nat.reduceAdd,qi,allLive,JS,Qz wz hz]
      simp+decide only[VO,if_true,YH,qj,qg Xv QK,qf,VX,Km,Jr,Nat.reduceAdd,qi,allLive,JS,qf,VX,Km,Jr,Nat.reduceAdd,qi,allLive,JS,Qz wz hz];refine⟨_,Vl _,?_⟩;rw[hfin];exact⟨rfl,_,_,_,_,rfl,i2,hsB,hsM⟩
     ·skip
      rw[hheap];obtain⟨B₁,hB₁⟩:∃B₁,B₁=(B.set k0q0 ⟨[.int .i64 r.line, .bool r.more, .str r.text, .int .i64 r.col],0⟩).set k0q1 ⟨[.int .i64 0, .int .i64 0, .int .i64 0],0⟩:=⟨_,rfl⟩
      rw[<-hB₁]at b2|-
      have e0:B₁ k0q0=some ⟨[.int .i64 r.line, .bool r.more, .str r.text, .int .i64 r.col],0⟩:=by rw[hB₁,Vb _ _ ne_0q1_0q0.symm,Vd]
      have e1:B₁ k0q1=some ⟨[.int .i64 0, .int .i64 0, .int .i64 0],0⟩:=by rw[hB₁,Vd]
      have s0:=fun o=>Qz wz (b2.other e0) o;have sx:=fun o=>Qz wz b2.at o;refine XL [4] (by rfl) ?_;simp+decide only[ev,putD,VM,VO,Ka,true_and,↓qh,qc,↓qD,qm,qgr,↓qG,Qb,qz ag3,qeO,qij,qz ag9,ne_eq,VX,Km,Jr,qi,qE,QA,s0];refine QO (by rfl) (by rfl) (qoY wz h kx _ _ cb mb _ b2 hne r.line r.col r.text (by intro c hc;have:=hb c hc;omega) (by omega) ht) fun x1q7 h1q7 hx1q7=>?_;obtain⟨-,cb2,mb2,rfl,i2⟩:=hx1q7;have hz:=i2.other e1;have hsB:Sub B B₁:=fun j c hj=>by rw[hB₁];exact V3 (V3 (Vl _) a4) (by rwa [Vb _ _ ne_0q1_0q0]at b4) j c hj
      have hsM:∀j,B j≠none->M j=none->M j=none:=fun _ _ h=>h;have hfin:=take6 (x:=x) (r:=r) hm hne hnq hb5;simp+decide only[qa,putD,VM,VN,Ka];change Awp _ _ _ _ _ _ _;refine awp_rseq [4] (by rfl) fun K hK=>?_;simp+decide only[ev,qH,qF,putD,VM,VO,if_false,true_and,↓Qr,↓qY,ZV,evP,Vj];refine qo (v:= .agg [.int .i64 0, .int .i64 0, .int .i64 0]) (by rfl) (by rfl) hz QK (by rfl) (by rfl) (by simp[]) (Js _) (by rfl) ?_;simp only[setAt,VV,VW,Ki,Jr,Nat.reduceAdd];rw[YB hz];simp+decide only[qa,putD,VN,Ka];apply hK;clear hK K;refine qN ?_;refine QS (?_) ?_
      ·simp+decide only[QC,qj,VO,if_true,and_true,qj,qg Xv QK,qf,VX,Km,Jr,Nat.reduceAdd,qi,allLive,JS,qf,VX,Km,Jr,Nat.reduceAdd,qi,allLive,JS,Qz wz hz]
      simp+decide only[VO,if_true,YH,qj,qg Xv QK,qf,VX,Km,Jr,Nat.reduceAdd,qi,allLive,JS,qf,VX,Km,Jr,Nat.reduceAdd,qi,allLive,JS,Qz wz hz];refine⟨_,Vl _,?_⟩;rw[hfin];exact⟨rfl,_,_,_,_,rfl,i2,hsB,hsM⟩
end Go.Proofs.YtlhhaagmakhilaaGreatDoor
namespace Go.Proofs.YtlhhaagmakhilaaGreatDoor
open Go.AM
open Go.Proofs
open Go.Col
set_option maxRecDepth 100000
theorem c_clipM(wz:World)(h:AHeap)(v:AVal)(xs:List (List AVal))(hv:IsL wz h 3 v xs):ACall Tryz.prog wz 63 [v] h (fun r h'=>r=Yd v/\h'=h):=by
 have hlen:=hv.len Tryz.underlying124;have h3:=hv.slice3 Tryz.underlying124 qfO .i64 .i64 none rfl;refine qP (n:=9) (rs:=[.tmp 2]) Tryz.func63 rfl rfl rfl rfl (VL rfl) ?_;simp only[Qd];refine awp_rseq [0] (by rfl) fun K hK=>?_;simp+decide only[qa,ev,qH,qF,putD,VM,VN,Ka,true_and,↓qd,qb];apply hK;clear hK K;refine awp_rseq [2] (by rfl) fun K hK=>?_;simp+decide only[qa,ev,putD,VM,VO,VN,Ka,true_and,↓qh,qc,↓Xt,QD,↓WU,Zt,evO,↓qd,qb,hlen,h3];apply hK;clear hK K;refine qN ?_;refine qW _ (Vl _) (qR (Qa)) ?_;simp+decide only[VO,if_true,and_true,Ql];all_goals first|rfl|exact⟨rfl,rfl⟩|(simp+decide only[Ka, *];done)|(trace_state;fail)
theorem qpS(wz:World)(h:AHeap)(v:AVal)(xs:List (List AVal))(hv:IsL wz h 3 v xs):ACall Tryz.prog wz 64 [v] h (fun r h'=>r=Yd v/\h'=h):=by
 have hlen:=hv.len Tryz.underlying101;have h3:=hv.slice3 Tryz.underlying101 qcs .i64 .i64 none rfl;refine qP (n:=9) (rs:=[.tmp 2]) Tryz.func64 rfl rfl rfl rfl (VL rfl) ?_;simp only[Qd];refine awp_rseq [0] (by rfl) fun K hK=>?_;simp+decide only[qa,ev,qH,qF,putD,VM,VN,Ka,true_and,↓qd,qb];apply hK;clear hK K;refine awp_rseq [2] (by rfl) fun K hK=>?_;simp+decide only[qa,ev,putD,VM,VO,VN,Ka,true_and,↓qh,qc,↓Xt,QD,↓WU,Zt,evO,↓qd,qb,hlen,h3];apply hK;clear hK K;refine qN ?_;refine qW _ (Vl _) (qR (Qa)) ?_;simp+decide only[VO,if_true,and_true,Ql];all_goals first|rfl|exact⟨rfl,rfl⟩|(simp+decide only[Ka, *];done)|(trace_state;fail)
structure RdSm(N:Nat)(x:Rd):Prop where
 many:x.cards.length<=N
 small:∀c∈x.cards,c.text.length<=80*N/\c.marks.length<=N
theorem RdSm.next{N:Nat}{x:Rd}(h:RdSm N x):RdSm (N+1) x:=⟨by have:=h.many;omega,fun c hc=>by have:=h.small c hc;omega⟩
theorem qjP{c:CardC}{N:Nat}(h:c.text.length<=80*N/\c.marks.length<=N)(line col:Int)(t:Str)(ht:t.length<=80):(qfb c line col t).text.length<=80*(N+1)/\(qfb c line col t).marks.length<=N+1:=by
 have h1:=qmz t;unfold qfb;simp only[Jb];constructor
 ·split<;>omega
 ·split<;>(try split)<;>(try simp only[Jb,KX,J8])<;>omega
theorem qjO{N:Nat}{x:Rd}(h:RdSm N x)(line col:Int)(t:Str)(ht:t.length<=80):RdSm (N+1) (addE x line col t):=by
 rcases List.eq_nil_or_concat x.cards with e|⟨l,c,e⟩
 ·have:addE x line col t=x:=by unfold addE;rw[e];rfl
  rw[this];exact h.next
 ·rw[List.concat_eq_append]at e
  rw[qeY e];have hm:=h.many;rw[e]at hm;simp only[Jb,KX,J8]at hm;refine⟨by simp;omega,fun d hd=>?_⟩;rw[JI]at hd;rcases hd with hd|hd
  ·have:=h.small d (by rw[e];simp[hd])
   omega
  ·rw[BD.1 hd]
   exact qjP (h.small c (by rw[e];simp)) line col t ht
theorem qdE{N:Nat}{x:Rd}(h:RdSm N x){r:RowC}(ht:r.text.length<=80):RdSm (N+1) (takeE x r).1:=by
 unfold takeE;split
 ·exact h.next
 split
 ·have hp:RdSm N x:=h
  have h':RdSm (N+1) ⟨x.cards++[⟨decide (r.col<12),[],[]⟩],x.line,x.col,x.odd⟩:=by
   refine⟨by have:=h.many;simp;omega,fun c hc=>?_⟩;rw[JI]at hc;rcases hc with hc|hc
   ·exact h.next.small c hc
   ·rw[BD.1 hc]
    simp
  refine⟨?_,?_⟩
  ·have:=h.many
   rw[qeY (x:=⟨x.cards++[⟨decide (r.col<12),[],[]⟩],x.line,x.col,x.odd⟩) rfl];simp;omega
  ·intro c hc
   rw[qeY (x:=⟨x.cards++[⟨decide (r.col<12),[],[]⟩],x.line,x.col,x.odd⟩) rfl]at hc;simp only[JI,BD]at hc;rcases hc with hc|rfl
   ·exact h.next.small c hc
   ·exact qjP ⟨by simp,by simp⟩ _ _ _ ht
 split
 ·exact h.next
 split
 ·exact h.next
 split
 ·exact qjO h _ _ _ (by simp;omega)
 ·exact qjO h _ _ _ ht
theorem qhK{s:Str}{line:Int}{dbg:Bool}:(Um s line dbg).1.text.length<=65/\((Um s line dbg).2.1=true->(Um s line dbg).1.text≠[]/\0<=(Um s line dbg).1.col/\(Um s line dbg).1.col<=73):=by
 by_cases h80:80<s.length
 ·have:Um s line dbg=(qkw,false,⟨5,line,81⟩):=by unfold Um;rw[if_pos h80]
  rw[this];simp[qkw]
 ·cases hb:qcb s with
  |some i=>
   have:Um s line dbg=(qkw,false,⟨4,line,(i:Int)+1⟩):=by unfold Um;rw[if_neg h80,hb]
   rw[this];simp[qkw]
  |none=>
   rw[qiZ h80 hb];have h1:(qkc s line).text.length<=65:=V5 (qmA _) (by simp;omega);have h2:(qkc s line).col=73-(qkc s line).text.length:=rfl;split
   ·exact⟨h1,by simp⟩
   split
   ·refine⟨h1,fun h=>?_⟩
    simp only[Kw,Ji,decide_eq_false_iff_not]at h;exact⟨h.2,by simp only;omega,by simp only;omega⟩
   split
   ·refine⟨h1,fun h=>?_⟩
    simp only[Ji,decide_eq_false_iff_not]at h;exact⟨h,by simp only;omega,by simp only;omega⟩
   ·exact⟨h1,by simp⟩
theorem qdH:∀s:Str,(XU s).length<=s.length+1
 |[]=>by simp[XU]
 |b::s=>by
  have:=qdH s;unfold XU;split
  ·simp;omega
  ·split<;>simp_all<;>omega
theorem qcS(s:Str):(Yw s).length<=s.length:=by
 unfold Yw;split<;>simp
def IsCards(wz:World)(h:AHeap)(v:AVal)(cs:List CardC):Prop:=∃ps:List (CardC×AVal),ps.map (·.1)=cs/\IsL wz h 3 v (ps.map Zm)/\∀p∈ps,IsL wz h 3 p.2 (p.1.marks.map Uk)
theorem IsCards.mono{wz:World}{h h':AHeap}{v:AVal}{cs:List CardC}(hc:IsCards wz h v cs)(hs:Sub h h'):IsCards wz h' v cs:=by
 obtain⟨ps,h1,h2,h3⟩:=hc;exact⟨ps,h1,h2.mono hs,fun p hp=>(h3 p hp).mono hs⟩
end Go.Proofs.YtlhhaagmakhilaaGreatDoor
namespace Go.Proofs.YtlhhaagmakhilaaGreatDoor
open Go.AM
open Go.Proofs
open Go.Col
set_option maxRecDepth 100000
def qnW(wz:World)(h:AHeap)(text:Str)(dbg:Bool)(v:AVal)(h':AHeap):Prop:=∃cv,v= .tuple [cv,QA (UD text dbg).2]/\IsCards wz h' cv (UD text dbg).1/\Sub h h'
structure RdL where
 i:Nat
 B:AHeap
 M:AHeap
 cb:Option Buf
 mb:Option Buf
 x:Rd
theorem Ua(f:FaultC):(decide (f.e=0) && (decide (f.line=0) && decide (f.col=0)))=decide (f=okF):=by
 obtain⟨a,b,c⟩:=f;rw[Kz];simp[okF]
theorem qog{s:Str}{l:List Str}{n:Int}{x:Rd}{dbg:Bool}{r:RowC}{f:FaultC}(hp:Um s n dbg=(r,false,f))(hf:f=okF):Wt dbg (s::l) n x=Wt dbg l (n+1) x:=by
 rw[Wt,hp];simp only;rw[if_pos ⟨hf,trivial⟩]
theorem qmH{s:Str}{l:List Str}{n:Int}{x:Rd}{dbg:Bool}{r:RowC}{cn:Bool}{f:FaultC}(hp:Um s n dbg=(r,cn,f))(hf:f≠okF):Wt dbg (s::l) n x=(x,f):=by
 rw[Wt,hp];simp only;rw[if_neg (fun e=>hf e.1),if_neg hf]
theorem qri{s:Str}{l:List Str}{n:Int}{x:Rd}{dbg:Bool}{r:RowC}{f:FaultC}(hp:Um s n dbg=(r,true,f))(hf:f=okF)(hg:(takeE x r).2≠okF):Wt dbg (s::l) n x=((takeE x r).1,(takeE x r).2):=by
 rw[Wt,hp];simp only;rw[if_neg (fun e=>by cases e.2),if_pos hf,if_neg hg]
theorem qof{s:Str}{l:List Str}{n:Int}{x:Rd}{dbg:Bool}{r:RowC}{f:FaultC}(hp:Um s n dbg=(r,true,f))(hf:f=okF)(hg:(takeE x r).2=okF):Wt dbg (s::l) n x=Wt dbg l (n+1) (takeE x r).1:=by
 rw[Wt,hp];simp only;rw[if_neg (fun e=>by cases e.2),if_pos hf,if_pos hg]
theorem qhB{text:Str}{dbg:Bool}(hl:text.length<=1048576){x:Rd}{f:FaultC}(h:Wt dbg (XU (Yw text)) 1 .start=(x,f))(hf:f≠okF):UD text dbg=([],f):=by
 unfold UD;rw[if_neg (by omega),h];simp only;rw[if_pos hf]
theorem qhy:∀(s:Str),∀l∈XU s,l.length<=s.length
 |[],l,h=>by simp[XU]at h;subst h;simp
 |b::s,l,h=>by
  have ih:=qhy s;unfold XU at h;split at h
  ·rcases KW.1 h with rfl|h
   ·simp
   ·have:=ih l h;simp;omega
  ·split at h
   ·rename_i e
    simp only[BD]at h;subst h;simp
   ·rename_i l0 ls e
    rcases KW.1 h with rfl|h
    ·have:=ih l0 (by rw[e];simp);simp;omega
    ·have:=ih l (by rw[e];simp[h]);simp;omega
theorem qks{text:Str}{dbg:Bool}(hl:text.length<=1048576){x:Rd}(h:Wt dbg (XU (Yw text)) 1 .start=(x,okF))(ho:x.odd=true):UD text dbg=([],⟨4,x.line,x.col⟩):=by
 unfold UD;rw[if_neg (by omega),h];simp only;rw[if_neg (by simp),if_pos ho]
theorem qmI{text:Str}{dbg:Bool}(hl:text.length<=1048576){x:Rd}(h:Wt dbg (XU (Yw text)) 1 .start=(x,okF))(ho:x.odd=false):UD text dbg=(x.cards,okF):=by
 unfold UD;rw[if_neg (by omega),h];simp only;rw[if_neg (by simp),if_neg (by rw[ho];decide)]
theorem qsM(wz:World)(h B0:AHeap)(hs0:Sub h B0)(kr kx:Nat)(text:Str)(dbg:Bool)(hl:text.length<=1048576)(er:B0 kr=some ⟨[.int .i64 0, .int .i64 0, .int .i64 0],0⟩)(hr:h kr=none)
 (B M:AHeap) (cb mb:Option Buf) (x:Rd) (ri:RdInv wz B0 kx B M cb mb x) (hcards:x.cards=[]) (hrl:Wt dbg (XU (Yw text)) 1 .start=(x,okF)):
 Awp Tryz.prog wz 82 (UL 5 (qie (UL 1 (qfC Tryz.f49)))) (qeH (qdN Tryz.prog wz [.tmp 4, .cell 5 35] (qnW wz h text dbg))) [(5, .ptr (.own kr) 0),(6, .ptr (.own kx) 0)] (rdH kx B cb mb x):=by
 obtain⟨rfl,rfl⟩:cb=none/\mb=none:=by
  rcases ri.cards with e|⟨done,c,kc,e,_⟩
  ·exact e.2
  ·rw[hcards]at e;simp at e
 have rix:=fun o=>Qz wz ri.at o;have hnil:QH 3 none= .nilSlice:=rfl;change Awp _ _ _ (Code.seq _ _) _ _ _;refine qL ?_;refine awp_rseq [5,6,55] (by rfl) fun K hK=>?_;simp+decide only[qa,ev,putD,VM,VO,VN,Ka,true_and,↓qD,qm,qdl,↓qG,Qb,qz ag4,VX,Km,Jr,qB,rix,Xm,hnil];apply hK;clear hK K;refine qK (b:=_) rfl (fun hb1=>?_) (fun hb1=>?_)
 ·skip
  have hres:=qks hl hrl hb1;refine Zi 4 [4,5] mixed (by kernel_rfl) (by rfl) (by rfl) fun K hK=>?_;simp+decide only[ev,qH,qF,putD,VM,VO,Ka,true_and,↓qD,qm,qgs,↓qG,Qb,qg qfF qbc,↓Qr,↓qY,UB,evP,Kc,Vj,↓qd,qb,qf,VX,Km,Jr,Nat.reduceAdd,qi,allLive,JS,rix,Xm,hnil];refine qo (v:= .agg [.int .i64 4, .int .i64 x.line, .int .i64 x.col]) (by rfl) (by rfl) (ri.other (ri.sub _ _ er)) QK (by rfl) (by rfl) (by simp[]) (Js _) (by rfl) ?_;simp only[setAt,VV,VW,Ki,Jr,Nat.reduceAdd];simp+decide only[qa,putD,VN,Ka];apply hK;clear hK K;refine qN ?_;try simp only[Qf,Wd]
  refine qW h (V3 (hs0.trans ri.above) hr) (?_) ?_
  ·simp+decide only[QC,qw,qj,VO,Ka,and_true,qw,qj,qg Xv QK,Qc,qf,VX,Km,Jr,Nat.reduceAdd,qi,allLive,JS,qf,VX,Km,Jr,Nat.reduceAdd,qi,allLive,JS]
  simp+decide only[VO,Ka,Xi,qw,qj,qg Xv QK,Qc,qf,VX,Km,Jr,Nat.reduceAdd,qi,allLive,JS,qf,VX,Km,Jr,Nat.reduceAdd,qi,allLive,JS];exact⟨.nilSlice,by rw[hres];rfl,by rw[hres];exact⟨[],rfl, .nil,by simp⟩,Vl _⟩
 ·skip
  have hres:=qmI hl hrl hb1;refine qV ?_;change Awp _ _ _ _ _ _ _;refine qL ?_;refine awp_rseq [5,6,61,62] (by rfl) fun K hK=>?_;simp+decide only[qa,ev,qH,qF,putD,VM,VO,VN,Ka,true_and,↓qD,qm,qbj,↓qG,Qb,qz qhU,↓Xt,QD,qdU Tryz.underlying101,↓qh,qc,VX,Jr,QU,rix,Xm,hnil];apply hK;clear hK K;refine Qp ?_;refine XE [5,6,61,62] (fun g:Unit=>[(5, .ptr (.own kr) 0),(6, .ptr (.own kx) 0),(61, .int .i64 0),(62, .int .i64 0)]) (fun g:Unit=>rdH kx B none none x) (fun g:Unit=>True) (fun g:Unit=>0) () (by rfl) (Vl _) trivial ?_;intro _ _;refine awp_rseq [5,6,61,62,63] (by rfl) fun K hK=>?_;simp+decide only[qa,ev,putD,VM,VO,VN,Ka,true_and,↓qA,ql,qZ,cond_false,qp,Zc];apply hK;clear hK K;refine qL (qK (b:=_) rfl (fun hb2=>?_) (fun hb2=>?_))
  ·exact absurd hb2 (by decide)
  ·try simp only[decide_eq_false_iff_not]at hb2
   refine XJ ?_;change Awp _ _ _ _ _ _ _;refine awp_rseq [4,5] (by rfl) fun K hK=>?_;simp+decide only[ev,putD,VM,VO,Ka,true_and,↓qD,qm,qbj,↓qG,Qb,qz qhU,VX,Jr,QU,rix,Xm,hnil];refine qM (V:= .nilSlice) (by rfl) (by rfl) ((qpS wz _ .nilSlice [] .nil)) ?_;simp+decide only[ev,qH,qF,putD,VM,VO,Ka,true_and,↓Qr,↓qY,ZV,evP,Vj,↓qd,qb];refine qo (v:= .agg [.int .i64 0, .int .i64 0, .int .i64 0]) (by rfl) (by rfl) (ri.other (ri.sub _ _ er)) QK (by rfl) (by rfl) (by simp[]) (Js _) (by rfl) ?_;simp only[setAt,VV,VW,Ki,Jr,Nat.reduceAdd];simp+decide only[qa,putD,VN,Ka];apply hK;clear hK K;refine qN ?_;try simp only[Wd]
   refine qW h (V3 (hs0.trans ri.above) hr) (?_) ?_
   ·simp+decide only[QC,qw,qj,VO,Ka,and_true,qw,qj,qg Xv QK,Qc,qf,VX,Km,Jr,Nat.reduceAdd,qi,allLive,JS,qf,VX,Km,Jr,Nat.reduceAdd,qi,allLive,JS]
   simp+decide only[VO,Ka,Xi,qw,qj,qg Xv QK,Qc,qf,VX,Km,Jr,Nat.reduceAdd,qi,allLive,JS,qf,VX,Km,Jr,Nat.reduceAdd,qi,allLive,JS];exact⟨.nilSlice,by rw[hres];rfl,by rw[hres,hcards];exact⟨[],rfl, .nil,by simp⟩,Vl _⟩
theorem okCap{wz:World}{h:AHeap}{v:AVal}{xs:List (List AVal)}(hb:IsL wz h 3 v xs):(Yd v).okIn (fun k=>(h k).isSome):=by
 cases hb with
 |nil=>trivial
 |mk l o n c xs hn hw hc hl hcap=>
  cases l with
  |base b=>trivial
  |own k=>
   simp only[Yd,Bb];intro h0;cases hk:h k with
   |some b=>rfl
   |none=>
    obtain⟨m,rfl⟩:∃m,n=m+1:=⟨n-1,by omega⟩
    rw[show(m+1)*3=(m*3+2)+1 by omega,qf]at hc;rw[<-hc]at hl;simp[allLive,rd,hk,AVal.live]at hl
def qdB(p:CardC×AVal):CardC×AVal:=(p.1,Yd p.2)
theorem qeN(l:List (CardC×AVal)):(l.map Zm).flatten.length=l.length*3:=by
 rw[Zp (es:=3) (by intro y hy;obtain⟨p,_,rfl⟩:=JG.1 hy;rfl),Jo]
theorem qnn:∀(l:List (CardC×AVal)) (i:Nat) (v:AVal) (hi:i<l.length),setAt (l.map Zm).flatten (i*3+2) [v]=((l.set i ((l[i]).1,v)).map Zm).flatten
 |p::l,0,v,_=>rfl
 |p::l,i+1,v,hi=>by
  have ih:=qnn l i v (by simpa using hi);simp only[setAt]at ih|-
  simp only[Kc,List.flatten_cons,Ki,List.getElem_cons_succ];rw[<-ih,VG _ _ (by rw[qjr];omega),qjr,show(i+1)*3+2-3=i*3+2 by omega]
theorem flat_get(l:List (CardC×AVal))(i:Nat)(hi:i<l.length):(l.map Zm).flatten.getD (i*3+2) .dead=(l[i]).2:=by
 rw[Kn,qef (es:=3) (by intro y hy;obtain⟨p,_,rfl⟩:=JG.1 hy;rfl) (by rw[Jo];exact hi) (by decide)];simp[Kn,hi,Zm]
def psi(ps:List (CardC×AVal))(i:Nat):List (CardC×AVal):=(ps.take i).map qdB++ps.drop i
theorem qih(ps:List (CardC×AVal))(i:Nat):(psi ps i).length=ps.length:=by
 unfold psi;simp;omega
theorem qpC(ps:List (CardC×AVal))(i:Nat)(hi:i<ps.length):(psi ps i)[i]'(by rw[qih];exact hi)=ps[i]:=by
 unfold psi;rw[List.getElem_append_right (by simp;omega)];simp[Nat.min_eq_left (Nat.le_of_lt hi)]
theorem qsV(ps:List (CardC×AVal))(i:Nat)(hi:i<ps.length):(psi ps i).set i (qdB ps[i])=psi ps (i+1):=by
 unfold psi;have hl:((ps.take i).map qdB).length=i:=by simp;omega
 rw[VG _ _ (by omega),hl,Nat.sub_self,J4 hi,VW,VJ,Jz hi,Option.toList_some,Ba,List.append_assoc];rfl
theorem qsi{H:AHeap}{es:Nat}{b:Option Buf}{c:Buf}(h:bufOk H es b)(e:b=some c):H c.blk=none:=by subst e;exact h.1
theorem bufH_blk{H:AHeap}{b:Option Buf}{c:Buf}(e:b=some c):Qv H b=H.set c.blk ⟨c.cells,0⟩:=by subst e;rfl
theorem qsL(wz:World)(h B0:AHeap)(hs0:Sub h B0)(kr kx:Nat)(text:Str)(dbg:Bool)(hl:text.length<=1048576)(er:B0 kr=some ⟨[.int .i64 0, .int .i64 0, .int .i64 0],0⟩)(hr:h kr=none)
 (B M:AHeap) (cb mb:Option Buf) (x:Rd) (ri:RdInv wz B0 kx B M cb mb x) (hcards:x.cards≠[]) (hsm:x.cards.length<=1099511627776) (hrl:Wt dbg (XU (Yw text)) 1 .start=(x,okF)):
 Awp Tryz.prog wz 82 (UL 5 (qie (UL 1 (qfC Tryz.f49)))) (qeH (qdN Tryz.prog wz [.tmp 4, .cell 5 35] (qnW wz h text dbg))) [(5, .ptr (.own kr) 0),(6, .ptr (.own kx) 0)] (rdH kx B cb mb x):=by
 obtain⟨ps,kc,hps,hcb,hv,hL,hMM,hMk⟩:∃(ps:List (CardC×AVal)) (kc:Nat),ps.map (·.1)=x.cards/\cb=some ⟨kc,(ps.map Zm).flatten⟩/\QH 3 cb= .slice (.own kc) 0 ps.length (.grow 3)/\(∀p∈ps,IsL wz (Qv M mb) 3 p.2 (p.1.marks.map Uk))/\Qv M mb kc=none/\Sub (Qv M mb) (rdH kx B cb mb x):=by
  rcases ri.cards with⟨e,_⟩|⟨done,c,kc,e1,e2,e3,e4⟩
  ·exact absurd e hcards
  ·obtain⟨q1,q2,q3⟩:=qmf ri.okc ri.okm
   obtain⟨p1,p2,p3⟩:=qmg (d:=⟨Xm cb x,0⟩) q2;have pM:=p2.sub ri.subM;have hf:(done.map Zm).flatten++[.bool c.left, .str c.text,QH 3 mb]=((done++[(c,QH 3 mb)]).map Zm).flatten:=by simp[Zm]
   have hkc:(Qv (B.set kx ⟨Xm cb x,0⟩) mb) kc=none:=qsi q3 e2;have hkx:kc≠kx:=fun e=>by
    rw[p1,e,Vd]at hkc;cases hkc
   have hMB:Sub (Qv M mb) (Qv B mb):=by
    cases mb with
    |none=>exact ri.subM
    |some b=>exact V9 ri.subM _ _
   have hkcB:Qv B mb kc=none:=by rwa [p1,Vb _ _ hkx]at hkc
   refine⟨done++[(c,QH 3 mb)],kc,by rw[e1];simp,by rw[e2,hf],?_,fun p hp=>?_,hMB.none hkcB,?_⟩
   ·rw[e2,qho,hf,qeN]
    simp
   ·rw[JI]at hp
    rcases hp with hp|hp
    ·exact(e4 p hp).mono (BH pM)
    ·rw[BD.1 hp]
     exact BF pM (by decide) e3 (by intro y hy;obtain⟨m,_,rfl⟩:=JG.1 hy;rfl) (Vl _)
   ·refine Sub.trans hMB ?_
    unfold rdH;rw[q1,bufH_blk e2];refine Sub.trans ?_ (Vg hkc);rw[p1];exact Vg (by rw[p3];exact ri.hk)
 have hkcx:(rdH kx B cb mb x) kc=some ⟨(ps.map Zm).flatten,0⟩:=by
  have:=ri.okm;unfold rdH;exact ZU ri.okm (by rw[hcb];exact Vd _ _ _)
 have hkx:=ri.at;have hne:kx≠kc:=fun e=>by
  rw[<-e,hkx]at hkcx;have:=congrArg (fun o=>(o.map fun b=>b.cells.length).getD 0) hkcx;simp only[KH,VK,Xm,KX,J8,qeN]at this;omega
 have hlenp:ps.length=x.cards.length:=by rw[<-hps,Jo]
 have hkr:=ri.other (ri.sub _ _ er);have hrc:kr≠kc:=fun e=>by
  rw[e,hkcx]at hkr;have:=congrArg (fun o=>(o.map fun b=>b.cells.length).getD 0) hkr;simp only[KH,VK,KX,J8,qeN]at this;have h1:ps.length=1:=by omega
  match ps,h1 with
  |[p],_=>simp[Zm]at hkr
 have hhc:h kc=none:=by
  cases hc:h kc with
  |none=>rfl
  |some b=>
   have:=ri.sub _ _ (hs0 _ _ hc);have h2:=ri.okc;rw[hcb]at h2;have:=(Vb B ⟨Xm (some ⟨kc,(ps.map Zm).flatten⟩) x,0⟩ hne.symm).symm.trans h2.1
   simp_all
 obtain⟨H0,hH0⟩:∃H0,H0=rdH kx B cb mb x:=⟨_,rfl⟩
 have hsub:Sub h H0:=by rw[hH0];exact hs0.trans ri.above
 rw[<-hH0]at hkcx hkx hkr hMk|-
 have rix:=fun o=>Qz wz hkx o;change Awp _ _ _ (Code.seq _ _) _ _ _;refine qL ?_;refine awp_rseq [5,6,55] (by rfl) fun K hK=>?_;simp+decide only[qa,ev,putD,VM,VO,VN,Ka,true_and,↓qD,qm,qdl,↓qG,Qb,qz ag4,VX,Km,Jr,qB,rix,Xm,hv];apply hK;clear hK K;refine qK (b:=_) rfl (fun hb1=>?_) (fun hb1=>?_)
 ·skip
  have hres:=qks hl hrl hb1;refine Zi 4 [4,5] mixed (by kernel_rfl) (by rfl) (by rfl) fun K hK=>?_;simp+decide only[ev,qH,qF,putD,VM,VO,Ka,true_and,↓qD,qm,qgs,↓qG,Qb,qg qfF qbc,↓Qr,↓qY,UB,evP,Kc,Vj,↓qd,qb,qf,VX,Km,Jr,Nat.reduceAdd,qi,allLive,JS,rix,Xm,hv];refine qo (v:= .agg [.int .i64 4, .int .i64 x.line, .int .i64 x.col]) (by rfl) (by rfl) hkr QK (by rfl) (by rfl) (by simp[]) (Js _) (by rfl) ?_;simp only[setAt,VV,VW,Ki,Jr,Nat.reduceAdd];simp+decide only[qa,putD,VN,Ka];apply hK;clear hK K;refine qN ?_;try simp only[Qf,Wd]
  refine qW h (V3 hsub hr) (?_) ?_
  ·simp+decide only[QC,qw,qj,VO,Ka,and_true,qw,qj,qg Xv QK,Qc,qf,VX,Km,Jr,Nat.reduceAdd,qi,allLive,JS,qf,VX,Km,Jr,Nat.reduceAdd,qi,allLive,JS]
  simp+decide only[VO,Ka,Xi,qw,qj,qg Xv QK,Qc,qf,VX,Km,Jr,Nat.reduceAdd,qi,allLive,JS,qf,VX,Km,Jr,Nat.reduceAdd,qi,allLive,JS];exact⟨.nilSlice,by rw[hres];rfl,by rw[hres];exact⟨[],rfl, .nil,by simp⟩,Vl _⟩
 ·skip
  have hres:=qmI hl hrl hb1;refine qV ?_;change Awp _ _ _ _ _ _ _;refine qL ?_;refine awp_rseq [5,6,61,62] (by rfl) fun K hK=>?_;simp+decide only[qa,ev,qH,qF,putD,VM,VO,VN,Ka,true_and,↓qD,qm,qbj,↓qG,Qb,qz qhU,↓Xt,QD,ZK Tryz.underlying101,↓qh,qc,VX,Jr,qaf,rix,Xm,hv];apply hK;clear hK K;refine Qp ?_;refine XE [5,6,61,62] (fun i:Nat=>[(5, .ptr (.own kr) 0),(6, .ptr (.own kx) 0),(61, .int .i64 ps.length),(62, .int .i64 i)]) (fun i:Nat=>H0.set kc ⟨((psi ps i).map Zm).flatten,0⟩) (fun i:Nat=>i<=ps.length) (fun i:Nat=>ps.length-i) 0 (by rfl) (by rw[show psi ps 0=ps from rfl,YB hkcx];exact Vl _) (Js _) ?_;intro i hi;have hkxi:=(Vb H0 ⟨((psi ps i).map Zm).flatten,0⟩ hne).trans hkx;have rii:=fun o=>Qz wz hkxi o;refine awp_rseq [5,6,61,62,63] (by rfl) fun K hK=>?_;simp+decide only[qa,ev,putD,VM,VO,VN,Ka,true_and,↓qA,ql,qZ,cond_false,qp,Zc];apply hK;clear hK K;refine qL (qK (b:=_) rfl (fun hb2=>?_) (fun hb2=>?_))
  ·try simp only[decide_eq_true_eq]at hb2
   have hi':i<ps.length:=by omega
   have hg:((psi ps i).map Zm).flatten.getD (i*3+2) .dead=(ps[i]).2:=by rw[flat_get _ _ (by rw[qih];exact hi'),qpC ps i hi']
   have hMi:Sub (Qv M mb) (H0.set kc ⟨((psi ps i).map Zm).flatten,0⟩):=V3 hMk hMM;have hLi:=(hL _ (List.getElem_mem hi')).mono hMi;have hlv:=hLi.live;have hok:Bb (fun k=>((H0.set kc ⟨((psi ps i).map Zm).flatten,0⟩) k).isSome) (Yd (ps[i]).2):=okCap hLi;refine qV ?_;change Awp _ _ _ _ _ _ _;refine qL ?_;refine Qp ?_;refine awp_rseq [5,6,13,61,62] (by rfl) fun K hK=>?_;simp+decide only[qa,ev,putD,VM,VO,VN,Ka,true_and,↓qh,qc,↓qd,qb];apply hK;clear hK K;refine qds 12 [] mixed (by kernel_rfl) (by rfl) ?_;simp only[Kh,V6,VB,KP];simp+decide only[ev,putD,VM,VO,Ka,true_and,↓ZG,qm,qbj,↓Zn,Xz,qz qhU,↓XD,qc,↓qbh,Qh Tryz.underlying101 qcs,WZ,qbi,qz qjN,QP,VX,Jr,qaf,rii,Xm,hv,Vq,hg,hlv];repeat (with_reducible refine And.intro ?_ ?_;· first|trivial|omega|(intro hg;simp only[Kw,JV,Ji,VP,VQ,VS,decide_eq_true_eq,decide_eq_false_iff_not,XT]at hg;omega))
   refine Xf (V:=Yd (ps[i]).2) (by rfl) (by rfl) (by first|trivial|(simp+decide only[Bb,Xu,and_true,true_and,QA,Uk,YR,qfi,qiE,Vd,JJ];done)|(simp[Bb,Xu,Bd];done)) (fun g hg=>c_clipM wz _ _ _ (by first|exact hLi|exact hLi.mono hg)) ?_;simp+decide only[Yl,ev,putD,VM,VO,Ka,true_and,↓qbh,Qh Tryz.underlying101 qcs,WZ,↓ZG,qm,qbi,Jr,Vq];repeat (with_reducible refine And.intro ?_ ?_;· first|trivial|omega|(intro hg;simp only[Kw,JV,Ji,VP,VQ,VS,decide_eq_true_eq,decide_eq_false_iff_not,XT]at hg;omega))
   have hcl:=hLi.clip;have hset:setAt ((psi ps i).map Zm).flatten (i*3+2) [Yd (ps[i]).2]=((psi ps (i+1)).map Zm).flatten:=by
    rw[qnn _ _ _ (by rw[qih];exact hi'),qpC ps i hi',<-qsV ps i hi'];rfl
   refine qo (v:=Yd (ps[i]).2) (by rfl) (by rfl) (Vd _ _ _) sz124 hcl.live (by rw[hcl.cells];rfl) (by simp only[];rw[qeN,qih];omega) (Js _) (by rw[hcl.cells];simp[QG,hcl.scal]) ?_;rw[Vh,hcl.cells];simp only[];rw[hset];simp+decide only[qa,putD];change Awp _ _ _ _ _ _ _;refine XL [5,6,61,62] (by rfl) ?_;simp+decide only[qa,ev,qH,qF,putD,VM,VO,VN,Ka,true_and,↓qA,ql,qC,cond_false,qp,Xc,↓qh,qc];try simp(disch:=omega)only[wrap_i64]
   try simp only[Qi]
   exact⟨i+1,rfl,Vl _,by omega,by omega⟩
  ·try simp only[decide_eq_false_iff_not]at hb2
   obtain rfl:i=ps.length:=by omega
   have hpsi:psi ps ps.length=ps.map qdB:=by simp[psi]
   rw[hpsi]at hkxi rii|-
   have hlive:∀p∈ps,IsL wz (H0.set kc ⟨((ps.map qdB).map Zm).flatten,0⟩) 3 (Yd p.2) (p.1.marks.map Uk):=fun p hp=>((hL p hp).mono (V3 hMk hMM)).clip;have hLc:IsL wz (H0.set kc ⟨((ps.map qdB).map Zm).flatten,0⟩) 3 (.slice (.own kc) 0 ps.length (.grow 3)) ((ps.map qdB).map Zm):=by
    have:=V8 (wz:=wz) (es:=3) (xs:=(ps.map qdB).map Zm) (Vd H0 kc ⟨((ps.map qdB).map Zm).flatten,0⟩) (by intro y hy;obtain⟨p,_,rfl⟩:=JG.1 hy;rfl) rfl (Yc.2 (by
     intro y hy;obtain⟨p,hp,rfl⟩:=JG.1 hy;obtain⟨q,hq,rfl⟩:=JG.1 hp;show(true && (true && ((Yd q.2).live && true)))=true
     rw[(hlive q hq).live];rfl)) (.grow 3) rfl
    simpa using this
   have hkr':=(Vb H0 ⟨((ps.map qdB).map Zm).flatten,0⟩ hrc).trans hkr;refine XJ ?_;change Awp _ _ _ _ _ _ _;refine awp_rseq [4,5] (by rfl) fun K hK=>?_;simp+decide only[ev,putD,VM,VO,Ka,true_and,↓qD,qm,qbj,↓qG,Qb,qz qhU,VX,Jr,qaf,rii,Xm,hv];refine qM (V:= .slice (.own kc) 0 ps.length (.exact ps.length)) (by rfl) (by rfl) (qpS wz _ _ _ hLc) ?_;simp+decide only[ev,qH,qF,putD,VM,VO,Ka,true_and,↓Qr,↓qY,ZV,evP,Vj,↓qd,qb];refine qo (v:= .agg [.int .i64 0, .int .i64 0, .int .i64 0]) (by rfl) (by rfl) hkr' QK (by rfl) (by rfl) (by simp[]) (Js _) (by rfl) ?_;simp only[setAt,VV,VW,Ki,Jr,Nat.reduceAdd];rw[YB hkr'];simp+decide only[qa,putD,VN,Ka];apply hK;clear hK K;refine qN ?_;try simp only[Wd]
   refine qW (H0.set kc ⟨((ps.map qdB).map Zm).flatten,0⟩) (Vl _) (?_) ?_
   ·simp+decide only[QC,qw,qj,VO,Ka,and_true,qw,qj,qg Xv QK,qf,VX,Km,Jr,Nat.reduceAdd,qi,allLive,JS,qf,VX,Km,Jr,Nat.reduceAdd,qi,allLive,JS,Qz wz hkr']
   simp+decide only[VO,Ka,Xi,qw,qj,qg Xv QK,qf,VX,Km,Jr,Nat.reduceAdd,qi,allLive,JS,qf,VX,Km,Jr,Nat.reduceAdd,qi,allLive,JS,Qz wz hkr'];exact⟨_,by rw[hres];rfl,by rw[hres];exact⟨ps.map qdB,by rw[List.map_map];exact hps,hLc.clip,fun p hp=>by obtain⟨q,hq,rfl⟩:=JG.1 hp;exact hlive q hq⟩,V3 hsub hhc⟩
theorem readEnd(wz:World)(h B0:AHeap)(hs0:Sub h B0)(kr kx:Nat)(text:Str)(dbg:Bool)(hl:text.length<=1048576)(er:B0 kr=some ⟨[.int .i64 0, .int .i64 0, .int .i64 0],0⟩)(hr:h kr=none)
 (B M:AHeap) (cb mb:Option Buf) (x:Rd) (ri:RdInv wz B0 kx B M cb mb x) (hsm:x.cards.length<=1099511627776) (hrl:Wt dbg (XU (Yw text)) 1 .start=(x,okF)):
 Awp Tryz.prog wz 82 (UL 5 (qie (UL 1 (qfC Tryz.f49)))) (qeH (qdN Tryz.prog wz [.tmp 4, .cell 5 35] (qnW wz h text dbg))) [(5, .ptr (.own kr) 0),(6, .ptr (.own kx) 0)] (rdH kx B cb mb x):=by
 by_cases hc:x.cards=[]
 ·exact qsM wz h B0 hs0 kr kx text dbg hl er hr B M cb mb x ri hc hrl
 ·exact qsL wz h B0 hs0 kr kx text dbg hl er hr B M cb mb x ri hc hsm hrl
end Go.Proofs.YtlhhaagmakhilaaGreatDoor
