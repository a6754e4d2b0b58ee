/-
  Texts of this proof, joined: CoD, TkF, TkG, TkH, TkI, TkJ, LbA, LbB, TkK, TkL, CoE, TkM, TkN, CoF, CoG, CoH, CoI.
  Conditions: none.
-/
import Derived.Test.YtlhhaagmakhilaaGreatDoorWb
import Derived.Lib.SlicesS
import Derived.Lib.IndexLaws
import Derived.Shelf.Strings.SlTrimAscii
set_option linter.unusedSimpArgs false
set_option linter.unnecessarySimpa false
set_option linter.unusedVariables false
open Nat renaming le_of_ble_eq_true->VN,le_trans->V7,le_refl->KL,zero_add->Js,zero_le->Jt,add_zero->K7
open Go.AM.Slots renaming put->VO,keep->VP,get->VQ
open Go.AM.Sub renaming refl->Vm,set->Vh,set_both->Bb,none->Bi,bldH->BB,trans_set->V5,buf->BJ
open List renaming length_reverse->V6,getD_cons_zero->VZ,getD_cons_succ->Kn,set_cons_zero->VY,set_cons_succ->Kj,map_cons->Ke,map_nil->Vk,take_succ_cons->Ki,take_zero->V8,drop_succ_cons->VE,drop_zero->KQ,map_append->Bd,length_append->Jc,append_nil->Bg,map_eq_nil_iff->VW,length_map->Jp,eq_nil_of_length_eq_zero->Kg,getD->Ko,take_of_length_le->Jr,mem_map->JH,contains_iff_mem->JX,getElem?_eq_none->Kr,getElem?_eq_getElem->JA,length_cons->KY,length_nil->J9,length_take->K5,mem_cons->KX,not_mem_nil->Bn,dropWhile_cons->Bo,all_cons->KE,all_reverse->Bp,length_drop->K6,drop_eq_getElem_cons->J5,take_append_drop->Bq,find?_append->Br,find?_cons->Bu,take_add_one->VL,isPrefixOf_iff_prefix->Vw,mem_append->JJ,mem_singleton->BG,set_append_right->VI
open Bool renaming and_eq_true->Ky,or_eq_true->JW,not_eq_true'->Jj,and_eq_false_iff->VS,or_eq_false_iff->VT,not_eq_false'->VU,and_true->JU,eq_iff_iff->KA,true_and->Vg
open Go.AM.AVal renaming cells->VX,okIn->Be
open Go.AM.AHeap renaming set_same->Ve,set_ne->Vd,set_set->Vi,set_none->V9,set->Bf,ne_some->Bj,set_comm->Vj
open Go.AM.IsL renaming own->Ba,buf->BH
open Option renaming isSome_some->JK,none_or->Bt,map_eq_some_iff->Kc,map_some->KI,getD_some->VM
open Go.Proofs.Tryz renaming slices_Contains_string_empty->Bh
open Int renaming toNat_natCast->Vr,add_sub_assoc->Bl
open Go.AM.Bld renaming head->Bv,slice_live->Bw,slice_nil->Bz,bytes_nil->BA,slice_some->BC,bytes_some->BD,slice_cells->BF
open Go.AM.Awp renaming forget->BI
namespace Go.Proofs.YtlhhaagmakhilaaGreatDoor
open Go.AM
open Go.Proofs
open Go.Col
set_option maxRecDepth 100000
def qkD(r:RowC):AVal:= .agg [.int .i64 r.line, .bool r.more, .str r.text, .int .i64 r.col]
theorem qtZ(s:Str):quotes s<=s.length:=List.countP_le_length
theorem qBD(wz:World)(h:AHeap)(s:Str)(hl:s.length<=4611686018427387904):ACall Tryz.prog wz 101 [.str s] h (fun v h'=>v= .bool (qdi s)/\h'=h):=by
 have hq:=qtZ s;refine qU (n:=7) (rs:=[.tmp 2]) Tryz.func101 rfl rfl rfl rfl (VN rfl) ?_;simp only[Qg];refine awp_rseq [0] (by rfl) fun K hK=>?_;simp+decide only[qa,ev,qH,qG,putD,VO,VP,Ka,Kb,↓qd,qb];apply hK;clear hK K;refine awp_rseq [2] (by rfl) fun K hK=>?_;simp+decide only[ev,putD,VO,VQ,Ka,Kb,↓qg,qc];refine qO (V:= .int .i64 (quotes s)) (by rfl) (by rfl) (qAc wz _ s 34) ?_;simp+decide only[qa,ev,qH,qG,putD,VO,VQ,VP,Ka,Kb,↓qw,qm,qA,cond_false,qo,qkP,Za,↓qd,qb];apply hK;clear hK K;refine qL ?_;refine Qb _ (Vm _) (qN (Qc)) ?_;simp+decide only[VQ,if_true,and_true,Qs];unfold qdi;congr 1;rw[Int.tmod_eq_emod_of_nonneg (by omega)];apply decide_eq_decide.2;omega
theorem qie(p:UInt8->Bool)(s:Str):(s.dropWhile p).length<=s.length:=(List.dropWhile_sublist p).length_le
theorem qoR(s:Str):(qhn s).length<=s.length:=by
 unfold qhn;rw[V6];exact V7 (qie _ _) (by rw[V6];exact KL _)
theorem qCG(wz:World)(H:AHeap)(kx kc:Nat)(D:List AVal)(m:Nat)(mb:Option Buf)(c:CardC)(xl xc:Int)(xo:Bool)(line col:Int)(t:Str)
 (hkx:H kx=some ⟨[.slice (.own kc) 0 (m+1) (.grow 3), .int .i64 xl, .int .i64 xc, .bool xo],0⟩) (hkc:H kc=some ⟨D++[.bool c.left, .str c.text,QH 3 mb],0⟩) (hD:D.length=m*3)
 (hok:bufOk H 3 mb) (hmb:Yh mb=(c.marks.map UY).flatten) (hl:c.text.length+t.length<=1099511627776) (hml:c.marks.length<=1099511627776) (hmm:m<=1099511627776):
 ACall Tryz.prog wz 80 [.ptr (.own kx) 0, .int .i64 line, .int .i64 col, .str t] (Ql H mb)
  (fun v h'=>v= .tuple []/\∃mb',h'=Ql ((H.set kx ⟨[.slice (.own kc) 0 (m+1) (.grow 3), .int .i64 line, .int .i64 col, .bool (qdi (c.text++t))],0⟩).set kc ⟨D++[.bool c.left, .str (qgA c line col t).text,QH 3 mb'],0⟩) mb'/\
    bufOk ((H.set kx ⟨[.slice (.own kc) 0 (m+1) (.grow 3), .int .i64 line, .int .i64 col, .bool (qdi (c.text++t))],0⟩).set kc ⟨D++[.bool c.left, .str (qgA c line col t).text,QH 3 mb'],0⟩) 3 mb'/\Yh mb'=((qgA c line col t).marks.map UY).flatten):=by
 have hne:kx≠kc:=fun e=>by
  subst e;rw[hkx]at hkc;have:=congrArg (fun o=>(o.map fun b=>b.cells.length).getD 0) hkc;simp[hD]at this;omega
 have rx:=qgC wz hok hkx;have rc:=qgC wz hok hkc;have hidx:((((m+1:Nat):Int))-1).toNat=m:=by omega
 have hlv:=QP 3 mb;refine qU (n:=72) (rs:=[]) Tryz.func80 rfl rfl rfl rfl (VN rfl) ?_;simp only[Qg];refine Zt [0,1,2,3,8] mixed (by kernel_rfl) (by rfl) (by rfl) fun K hK=>?_;simp+decide only[ev,qH,qG,putD,VO,VQ,Ka,Kb,↓qg,qc,↓Qo,qV,QA,↓qB,ql,qcg,↓qF,qY,qz qjI,↓Xe,Qw,Zh Tryz.underlying101,↓qw,qm,qA,cond_false,qo,qaI,VZ,Js,Nat.reduceAdd,qaY,rx];try simp(disch:=omega)only[wrap_i64]
 try simp+decide only[qa,ev,putD,VO,VQ,VP,Ka,Kb,↓QE,qY,qW Tryz.underlying101 qdr,↓qd,qb,Js,hidx]
 repeat (with_reducible refine And.intro ?_ ?_;· first|trivial|omega|(intro hg;simp only[Ky,JW,Jj,VS,VT,VU,decide_eq_true_eq,decide_eq_false_iff_not,XY]at hg;omega))
 apply hK;clear hK K;refine awp_rseq [0,1,2,3,8] (by rfl) fun K hK=>?_;simp+decide only[ev,putD,VO,VQ,Ka,Kb,↓qg,qc,↓Qo,qV,QA,↓qB,ql,WH,↓qF,qY,qz ag9,↓qw,qm,qR,cond_false,Zj,qfn,VZ,Kn,qE,rc,qhT hD];repeat (with_reducible refine And.intro ?_ ?_;· first|trivial|omega|(intro hg;simp only[Ky,JW,Jj,VS,VT,VU,decide_eq_true_eq,decide_eq_false_iff_not,XY]at hg;omega))
 refine qO (V:= .bool (qdi (c.text++t))) (by rfl) (by rfl) (qBD wz _ _ (by simp;omega)) ?_;simp+decide only[ev,putD,VO,VQ,Ka,Kb,↓Qo,qV,QA,↓qB,ql,qev,Js];refine qp (v:= .bool (qdi (c.text++t))) (by rfl) (by rfl) (ZY hok hkx) sz4 (by rfl) (by rfl) (by simp) (Jt _) (by rfl) ?_;simp only[setAt,VX,VY,Kj];rw[Wv hok hkx];simp+decide only[qa,putD,VP,Ka];have hok1:=Yk hok hkx ⟨[.slice (.own kc) 0 (m+1) (.grow 3), .int .i64 xl, .int .i64 xc, .bool (qdi (c.text++t))],0⟩;have hkx1:=Ve H kx ⟨[.slice (.own kc) 0 (m+1) (.grow 3), .int .i64 xl, .int .i64 xc, .bool (qdi (c.text++t))],0⟩;have hkc1:=(Vd H ⟨[.slice (.own kc) 0 (m+1) (.grow 3), .int .i64 xl, .int .i64 xc, .bool (qdi (c.text++t))],0⟩ hne.symm).trans hkc;have rx1:=qgC wz hok1 hkx1;apply hK;clear hK K;refine qJ ?_;refine awp_rseq [0,1,2,3,8,34] (by rfl) fun K hK=>?_;simp+decide only[qa,ev,putD,VO,VQ,VP,Ka,Kb,↓qg,qc,↓Qo,qV,QA,↓qB,ql,qev,↓qF,qY,qz ag4,↓YI,Zl,YC,VZ,Kn,Js,qD,rx1];apply hK;clear hK K;refine UH [0,1,2,3,8] (fun t':Str=>[(0, .ptr (.own kx) 0),(1, .int .i64 line),(2, .int .i64 col),(3, .str t'),(8, .ptr (.own kc) (m*3))]) (fun t':Str=>Ql (H.set kx ⟨[.slice (.own kc) 0 (m+1) (.grow 3), .int .i64 xl, .int .i64 xc, .bool (qdi (c.text++t))],0⟩) mb) (fun t':Str=>t'=if qdi (c.text++t)=true then t else qhn t) ?_ ?_
 ·refine qI (b:=_) rfl (fun hb1=>?_) (fun hb1=>?_)
  ·try simp only[Jj]at hb1
   refine XW [0,1,2,3,8] (by rfl) ?_;simp+decide only[ev,putD,VO,VQ,Ka,Kb,↓qg,qc];refine qO (V:= .str (qhn t)) (by rfl) (by rfl) (qzU wz _ t (by omega)) ?_;simp+decide only[qa,ev,putD,VO,VQ,VP,Ka,Kb,↓qd,qb];try simp only[Qj]
   first|exact⟨qhn t,rfl,Vm _,by rw[hb1];rfl⟩|exact⟨t,rfl,Vm _,by rw[hb1];rfl⟩
  ·try simp only[VU]at hb1
   refine qP ?_;try simp only[Qj]
   first|exact⟨qhn t,rfl,Vm _,by rw[hb1];rfl⟩|exact⟨t,rfl,Vm _,by rw[hb1];rfl⟩
 ·intro t' ht'
  have htl:t'.length<=t.length:=by
   rw[ht'];have:=qoR t;split<;>omega
  have ha:qgA c line col t=⟨c.left,c.text++t',if t'=[]then c.marks else c.marks++[⟨c.text.length,line,col⟩]⟩:=by rw[ht'];rfl
  refine awp_rseq [0,3,8] (by rfl) fun K hK=>?_;simp+decide only[ev,qH,qG,putD,VO,VQ,Ka,Kb,↓qg,qc,↓Qu,↓Qa,qdP,evP,Ke,Vk,↓Qo,qV,QA,↓qB,ql,qia,Js];refine qp (v:= .agg [.int .i64 line, .int .i64 col]) (by rfl) (by rfl) (ZY hok1 hkx1) qbd (by rfl) (by rfl) (by simp[]) (Jt _) (by rfl) ?_;simp only[setAt,VX,VY,Kj,Nat.reduceAdd];rw[Wv hok1 hkx1,Vi];simp+decide only[qa,putD,VP,Ka];obtain⟨H2,hH2⟩:∃H2,H2=H.set kx ⟨[.slice (.own kc) 0 (m+1) (.grow 3), .int .i64 line, .int .i64 col, .bool (qdi (c.text++t))],0⟩:=⟨_,rfl⟩
  have hok2:bufOk H2 3 mb:=by rw[hH2];exact Yk hok hkx _
  have hkx2:H2 kx=some ⟨[.slice (.own kc) 0 (m+1) (.grow 3), .int .i64 line, .int .i64 col, .bool (qdi (c.text++t))],0⟩:=by rw[hH2];exact Ve _ _ _
  have hkc2:H2 kc=some ⟨D++[.bool c.left, .str c.text,QH 3 mb],0⟩:=by rw[hH2];exact(Vd _ _ hne.symm).trans hkc
  rw[<-hH2];have rx2:=qgC wz hok2 hkx2;have rc2:=qgC wz hok2 hkc2;apply hK;clear hK K;refine qJ ?_;refine awp_rseq [0,3,8,44] (by rfl) fun K hK=>?_;simp+decide only[qa,ev,qH,qG,putD,VO,VQ,VP,Ka,Kb,↓qg,qc,↓qw,qm,WO,cond_false,Zj,qeo];apply hK;clear hK K;refine qI (b:=_) rfl (fun hb2=>?_) (fun hb2=>?_)
  ·try simp only[decide_eq_false_iff_not,Jj]at hb2
   refine qeD 16 [0] mixed (by kernel_rfl) (by rfl) ?_;simp only[Ki,V8,VE,KQ];simp+decide only[ev,qH,qG,putD,VO,VQ,Ka,Kb,↓Zd,qc,↓Uh,qV,QA,↓Yd,ql,qcf,↓ZN,XU,qz qlP,WH,qz ag9,↓qwL,Qw,WB Tryz.underlying9,qia,qh qeG qbd,↓qac,↓Qa,qsD,evP,Ke,Vk,qf,VZ,Kn,Js,Nat.reduceAdd,qi,qE,allLive,JU,rx2,rc2,hlv,qhT hD];refine qdH (by rfl) ?_;refine Qr (cs:=[.int .i64 c.text.length, .int .i64 line, .int .i64 col]) (by kernel_rfl) fun k6q15 hk6q15=>?_;try have hf_6q15:((Ql H mb)) k6q15=none:=by first|assumption|(simp only[V9]at hk6q15;simp only[hk6q15])
   rw[qa];try simp only[YK]
   refine Xt (es:=3) (zs:=c.marks.map UY) (xs:=[[.int .i64 c.text.length, .int .i64 line, .int .i64 col]]) (hZ:=H2) (b:=mb) (by rfl) (by rfl) Tryz.underlying124 Tryz.underlying124 (fun k e=>by cases e) qhp qCK qvy (by rfl) (by decide) (by rfl) hok2 hmb (by simp[UY]) (Vh hk6q15) (by rfl) (Ba (Ve _ _ _) (by simp) (by rfl) (by rfl) (.exact 1) (KL _)) (by rfl) (by simp;omega) (by simp;omega) fun mb' h6 o1 o2 o3=>?_;have hlv':=QP 3 mb';simp+decide only[ev,putD,VO,VQ,Ka,Kb,↓Qo,qV,QA,↓qB,ql,qcf];refine qp (v:=QH 3 mb') (by rfl) (by rfl) (o3 _ _ (ZY o1 hkc2)) qAI hlv' (by cases mb'<;>rfl) (by cases mb'<;>simp[hD,QH]) (Jt _) (by cases mb'<;>rfl) ?_;simp only[];rw[show(QH 3 mb').cells=[QH 3 mb'] by cases mb'<;>rfl,qds hD];simp only[setAt,VY,Kj];simp+decide only[qa,putD];change Awp _ _ _ _ _ _ _;refine XW [] (by rfl) ?_;simp+decide only[ev,putD,VO,VQ,Ka,Kb,↓qg,qc,↓Qo,qV,QA,↓qB,ql,WH,↓qF,qY,qz ag9,↓qw,qm,qR,cond_false,Zj,qfn,QT,VZ,Kn,qE,qhT hD];repeat (with_reducible refine And.intro ?_ ?_;· first|trivial|omega|(intro hg;simp only[Ky,JW,Jj,VS,VT,VU,decide_eq_true_eq,decide_eq_false_iff_not,XY]at hg;omega))
   skip;first
   |refine qp (v:= .str (c.text++t')) (by rfl) (by rfl) (Ve _ _ _) sz9 (by rfl) (by rfl) (by simp[hD]) (Jt _) (by rfl) ?_
   |refine qp (v:= .str (c.text++t')) (by rfl) (by rfl) (ZY hok2 hkc2) sz9 (by rfl) (by rfl) (by simp[VX,hD]) (Jt _) (by rfl) ?_
   simp only[VX];rw[qds hD];simp only[setAt,VY,Kj];simp+decide only[qa,putD,VP,if_false];refine qfZ (Qc) ?_;simp+decide only[Kb,qga];refine⟨Ql (H2.set kc ⟨D++[.bool c.left, .str (c.text++t'),QH 3 mb'],0⟩) mb',?_,mb',?_,?_,?_⟩
   ·rw[Vi,<-Wv o1 hkc2]
    exact Bb o3 _ _
   ·rw[hH2,ha]
   ·rw[ha,<-hH2]
    exact Yk o1 hkc2 _
   ·rw[ha,o2,if_neg hb2,Bd]
    rfl
  ·try simp only[decide_eq_true_eq,VU]at hb2
   refine qP ?_;change Awp _ _ _ _ _ _ _;refine XW [] (by rfl) ?_;simp+decide only[ev,putD,VO,VQ,Ka,Kb,↓qg,qc,↓Qo,qV,QA,↓qB,ql,WH,↓qF,qY,qz ag9,↓qw,qm,qR,cond_false,Zj,qfn,VZ,Kn,qE,rc2,qhT hD];repeat (with_reducible refine And.intro ?_ ?_;· first|trivial|omega|(intro hg;simp only[Ky,JW,Jj,VS,VT,VU,decide_eq_true_eq,decide_eq_false_iff_not,XY]at hg;omega))
   skip;first
   |refine qp (v:= .str (c.text++t')) (by rfl) (by rfl) (Ve _ _ _) sz9 (by rfl) (by rfl) (by simp[VX,hD]) (Jt _) (by rfl) ?_
   |refine qp (v:= .str (c.text++t')) (by rfl) (by rfl) (ZY hok2 hkc2) sz9 (by rfl) (by rfl) (by simp[hD]) (Jt _) (by rfl) ?_
   simp only[VX];rw[qds hD];simp only[setAt,VY,Kj];simp+decide only[qa,putD,VP,if_false];refine qfZ (Qc) ?_;simp+decide only[Kb,qga];refine⟨Ql (H2.set kc ⟨D++[.bool c.left, .str (c.text++t'),QH 3 mb],0⟩) mb,?_,mb,?_,?_,?_⟩
   ·rw[<-Wv hok2 hkc2]
    exact Vm _
   ·rw[hH2,ha]
   ·rw[ha,<-hH2]
    exact Yk hok2 hkc2 _
   ·rw[ha,hmb,if_pos hb2]
theorem ZJ(b c:UInt8):((b.toNat:Int)=(c.toNat:Int))=(b=c):=by
 apply propext;constructor
 ·intro h
  exact UInt8.toNat_inj.1 (by omega)
 ·rintro rfl;rfl
theorem qwh{s:Str}(h:s.length<=80):72<=(qcB s).length/\(qcB s).length<=80:=by
 unfold qcB sp;rw[Jc,List.length_replicate];omega
theorem qoS(s:Str):(qkr s).length<=s.length:=qie _ _
theorem qlJ(s:Str):(qdc s=none/\qsF s= -1)\/∃i,qdc s=some i/\qsF s=(i:Int)/\i<s.length:=by
 unfold qsF;cases h:qdc s with
 |none=>exact .inl ⟨rfl,rfl⟩
 |some i=>exact .inr ⟨i,rfl,rfl,(List.findIdx?_eq_some_iff_findIdx_eq.1 h).1⟩
theorem qld{s:Str}{line:Int}{dbg:Bool}(h80:¬80<s.length)(hb:qdc s=none):qaa s line dbg=
 if (qcB s).getD 6 0=42\/(qcB s).getD 6 0=47 then(qmd s line,false,okF)
 else if (qcB s).getD 6 0=68\/(qcB s).getD 6 0=100 then(qmd s line,dbg && !decide ((qmd s line).text=[]),okF)
 else if (qcB s).getD 6 0=32\/(qcB s).getD 6 0=45 then(qmd s line,!decide ((qmd s line).text=[]),okF)
 else(qmd s line,false,⟨4,line,7⟩):=by
 unfold qaa;rw[if_neg h80,hb]
theorem qBB(wz:World)(h:AHeap)(s:Str)(line:Int)(dbg:Bool)(hl:s.length<=9223372036854775807)(l0:0<=line)(l1:line<=1099511627776):ACall Tryz.prog wz 61 [.str s, .int .i64 line, .bool dbg] h (fun v h'=>v= .tuple [qkD (qaa s line dbg).1, .bool (qaa s line dbg).2.1,QC (qaa s line dbg).2.2]/\h'=h):=by
 have w6:(6:Int).toNat=6:=rfl;have w7:(7:Int).toNat=7:=rfl;have w72:(72:Int).toNat=72:=rfl;have w8:(8:Int)+((65:Nat):Int)=73:=rfl;refine qU (n:=79) (rs:=[.cell 6 120, .tmp 7, .cell 8 35]) Tryz.func61 rfl rfl rfl rfl (VN rfl) ?_;simp only[Qg];refine awp_rseq [0,1,2,6,8] (by rfl) fun K hK=>?_;refine Qi qvz (cs:=[.int .i64 0, .bool false, .str [], .int .i64 0]) (by rfl) fun k0q0 hk0q0=>?_;try have hf_0q0:h k0q0=none:=by first|assumption|(simp only[V9]at hk0q0;simp only[hk0q0])
 simp+decide only[ev,qH,qG,putD,VO,if_false,Kb,↓qd,qb,Js,Nat.reduceAdd];refine Qi qaE (cs:=[.int .i64 0, .int .i64 0, .int .i64 0]) (by rfl) fun k0q2 hk0q2=>?_;have ne_0q2_0q0:k0q2≠k0q0:=by simp only[V9]at hk0q2;simp only[hk0q2,ne_eq,not_false_eq_true]
 try have hf_0q2:h k0q2=none:=by first|assumption|(simp only[V9]at hk0q2;simp only[hk0q2])
 simp+decide only[qa,putD,VO,VP,Ka];apply hK;clear hK K;refine qJ ?_;refine awp_rseq [0,1,2,6,8,16] (by rfl) fun K hK=>?_;simp+decide only[qa,ev,qH,qG,putD,VO,VQ,VP,Ka,Kb,↓qg,qc,↓Xe,Qw,WB Tryz.underlying9,↓qw,qm,qA,cond_false,qo,qau];apply hK;clear hK K;refine qI (b:=_) rfl (fun hb1=>?_) (fun hb1=>?_)
 ·try simp only[decide_eq_true_eq]at hb1
  refine awp_rseq [6,7,8] (by rfl) fun K hK=>?_;simp+decide only[ev,qH,qG,putD,VO,VQ,Ka,Kb,↓Qu,↓Qa,qtH,evP,Vk,↓qg,qc];refine qO (V:=QC ⟨5,line,81⟩) (by rfl) (by rfl) (qir wz _ 5 line 81) ?_;refine qp (by rfl) (by rfl) zqA YE (by rfl) (by rfl) zqD (Jt _) (by rfl) ?_;simp only[VX];simp+decide only[ev,qH,qG,putD,VO,VQ,Ka,Kb,↓qd,qb,setAt,VY,Kj,Js,Nat.reduceAdd,QC];refine qp (by rfl) (by rfl) zqA QN (by rfl) (by rfl) zqD (Jt _) (by rfl) ?_;simp only[VX];simp+decide only[qa,ev,putD,VQ,VP,Ka,setAt,VY,Kj,Js,Nat.reduceAdd];apply hK;clear hK K;refine qL ?_;try simp only[Qe]
  refine Qb h zqC (?_) ?_
  ·simp+decide only[QG,qy,qj,VQ,Ka,and_true,qy,qj,qh Uj YE,qh Xw QN,qZ,qf,VZ,Kn,Js,Nat.reduceAdd,qD,qi,qE,allLive,JU,QZ,ne_eq,not_false_eq_true,ne_0q2_0q0.symm,qf,VZ,Kn,Js,Nat.reduceAdd,qD,qi,qE,allLive,JU]
  simp+decide only[VQ,Ka,and_true,QJ,qy,qj,qh Uj YE,qh Xw QN,qZ,qf,VZ,Kn,Js,Nat.reduceAdd,qD,qi,qE,allLive,JU,QZ,ne_eq,not_false_eq_true,ne_0q2_0q0.symm,qf,VZ,Kn,Js,Nat.reduceAdd,qD,qi,qE,allLive,JU,QC,qkD];unfold qaa;rw[if_pos (by omega)];rfl
 ·try simp only[decide_eq_false_iff_not]at hb1
  have h80:¬80<s.length:=by omega
  refine qP ?_;change Awp _ _ _ _ _ _ _;refine qJ ?_;refine awp_rseq [0,1,2,6,8,9] (by rfl) fun K hK=>?_;simp+decide only[ev,putD,VO,VQ,Ka,Kb,↓qg,qc];refine qO (V:= .int .i64 (qsF s)) (by rfl) (by rfl) (qCF wz _ s) ?_;simp+decide only[qa,ev,putD,VO,VQ,VP,Ka,Kb,↓qd,qb];apply hK;clear hK K;refine awp_rseq [0,1,2,6,8,9,23] (by rfl) fun K hK=>?_;simp+decide only[qa,ev,qH,qG,putD,VO,VQ,VP,Ka,Kb,↓qg,qc,↓qw,qm,qA,cond_false,qo,Ua];apply hK;clear hK K;refine qI (b:=_) rfl (fun hb2=>?_) (fun hb2=>?_)
  ·try simp only[decide_eq_true_eq]at hb2
   obtain⟨i,hi1,hi2,hi3⟩:=(qlJ s).resolve_left (fun e=>by omega);rw[hi2];refine awp_rseq [6,7,8] (by rfl) fun K hK=>?_;simp+decide only[ev,qH,qG,putD,VO,VQ,Ka,Kb,↓Qu,↓Qa,qtH,evP,Vk,↓qg,qc,↓qw,qm,qA,cond_false,qo,Xa];try simp(disch:=omega)only[wrap_i64]
   refine qO (V:=QC ⟨4,line,(i:Int)+1⟩) (by rfl) (by rfl) (qir wz _ 4 line ((i:Int)+1)) ?_;refine qp (by rfl) (by rfl) zqA YE (by rfl) (by rfl) zqD (Jt _) (by rfl) ?_;simp only[VX];simp+decide only[ev,qH,qG,putD,VO,VQ,Ka,Kb,↓qd,qb,setAt,VY,Kj,Js,Nat.reduceAdd,QC];refine qp (by rfl) (by rfl) zqA QN (by rfl) (by rfl) zqD (Jt _) (by rfl) ?_;simp only[VX];simp+decide only[qa,ev,putD,VQ,VP,Ka,setAt,VY,Kj,Js,Nat.reduceAdd];apply hK;clear hK K;refine qL ?_;try simp only[Qe]
   refine Qb h zqC (?_) ?_
   ·simp+decide only[QG,qy,qj,VQ,Ka,and_true,qy,qj,qh Uj YE,qh Xw QN,qZ,qf,VZ,Kn,Js,Nat.reduceAdd,qD,qi,qE,allLive,JU,QZ,ne_eq,not_false_eq_true,ne_0q2_0q0.symm,qf,VZ,Kn,Js,Nat.reduceAdd,qD,qi,qE,allLive,JU]
   simp+decide only[VQ,Ka,and_true,QJ,qy,qj,qh Uj YE,qh Xw QN,qZ,qf,VZ,Kn,Js,Nat.reduceAdd,qD,qi,qE,allLive,JU,QZ,ne_eq,not_false_eq_true,ne_0q2_0q0.symm,qf,VZ,Kn,Js,Nat.reduceAdd,qD,qi,qE,allLive,JU,QC,qkD];unfold qaa;rw[if_neg h80,hi1];rfl
  ·try simp only[decide_eq_false_iff_not]at hb2
   have hbn:qdc s=none:=by
    rcases qlJ s with e|⟨i,e1,e2,e3⟩
    ·exact e.1
    ·omega
   obtain⟨p1,p2⟩:=qwh (s:=s) (by omega);have hspl:(sp (72-s.length)).length=72-s.length:=by simp[sp]
   have hpe:s++sp (72-s.length)=qcB s:=rfl;have h65:(((qcB s).drop 7).take 65).length=65:=by simp;omega
   have htl:=qoS (((qcB s).drop 7).take 65);have hmr:decide ((((qcB s).getD 6 0).toNat:Int)=45)=((qcB s).getD 6 0==45):=by
    rw[KA,decide_eq_true_eq,beq_iff_eq];exact iff_of_eq (ZJ _ 45)
   have hln:=qld (line:=line) (dbg:=dbg) h80 hbn;refine qP ?_;change Awp _ _ _ _ _ _ _;refine awp_rseq [0,1,2,6,8] (by rfl) fun K hK=>?_;simp+decide only[ev,qH,qG,putD,VO,VQ,Ka,Kb,↓qg,qc,↓Xe,Qw,WB Tryz.underlying9,↓qw,qm,qR,cond_false,qo,qaI,↓qBS,qzo,qwi,evs,Ke,Vk];try simp(disch:=omega)only[wrap_i64]
   rw[show max (0:Int) (72-(s.length:Int))=((72-s.length:Nat):Int) by omega];refine qO (V:= .str (sp (72-s.length))) (by rfl) (by rfl) (qyA wz _ 32 _ (by omega)) ?_;simp+decide only[qa,ev,putD,VO,VQ,VP,Ka,Kb,↓qw,qm,qR,cond_false,Zj,qfn,↓qd,qb,hpe];repeat (with_reducible refine And.intro ?_ ?_;· first|trivial|omega|(intro hg;simp only[Ky,JW,Jj,VS,VT,VU,decide_eq_true_eq,decide_eq_false_iff_not,XY]at hg;omega))
   apply hK;clear hK K;refine awp_rseq [0,1,2,6,8,10] (by rfl) fun K hK=>?_;simp+decide only[qa,ev,qH,qG,putD,VO,VQ,VP,Ka,Kb,↓qg,qc,↓qrf,qgc,qer Tryz.underlying9,↓qd,qb,w6];repeat (with_reducible refine And.intro ?_ ?_;· first|trivial|omega|(intro hg;simp only[Ky,JW,Jj,VS,VT,VU,decide_eq_true_eq,decide_eq_false_iff_not,XY]at hg;omega))
   apply hK;clear hK K;refine awp_rseq [1,2,6,8,10,11] (by rfl) fun K hK=>?_;simp+decide only[qa,ev,qH,qG,putD,VO,VQ,VP,Ka,Kb,↓qg,qc,↓Wp,ZG,evO,qem Tryz.underlying9,qaU,qah,↓qd,qb,w7,w72,Nat.reduceSub];repeat (with_reducible refine And.intro ?_ ?_;· first|trivial|omega|(intro hg;simp only[Ky,JW,Jj,VS,VT,VU,decide_eq_true_eq,decide_eq_false_iff_not,XY]at hg;omega))
   apply hK;clear hK K;refine awp_rseq [1,2,6,8,10,11,12] (by rfl) fun K hK=>?_;simp+decide only[ev,putD,VO,VQ,Ka,Kb,↓qg,qc];refine qO (V:= .str (qkr (((qcB s).drop 7).take 65))) (by rfl) (by rfl) (qzV wz _ _) ?_;simp+decide only[qa,ev,putD,VO,VQ,VP,Ka,Kb,↓qd,qb];apply hK;clear hK K;refine awp_rseq [1,2,6,8,10,12,13] (by rfl) fun K hK=>?_;simp+decide only[ev,qH,qG,putD,VO,VQ,Ka,Kb,↓qg,qc,↓qw,qm,qA,cond_false,qo,Za,↓Xe,Qw,WB Tryz.underlying9,qR,Xa,qaI,↓Qu,↓Qa,qlH,evP,Ke,Vk,h65,w8,hmr];try simp(disch:=omega)only[wrap_i64]
   refine Qi qvz (cs:=[.int .i64 0, .bool false, .str [], .int .i64 0]) (by rfl) fun k10q11 hk10q11=>?_;have ne_10q11_0q0:k10q11≠k0q0:=by simp only[V9]at hk10q11;simp only[hk10q11,ne_eq,not_false_eq_true]
   have ne_10q11_0q2:k10q11≠k0q2:=by simp only[V9]at hk10q11;simp only[hk10q11,ne_eq,not_false_eq_true]
   try have hf_10q11:h k10q11=none:=by first|assumption|(simp only[V9]at hk10q11;simp only[hk10q11])
   refine qp (by rfl) (by rfl) zqA YE (by rfl) (by rfl) zqD (Jt _) (by rfl) ?_;simp only[Vi,VX];simp+decide only[qa,ev,putD,VO,VQ,VP,Ka,setAt,VY,Kj,Js,Nat.reduceAdd];apply hK;clear hK K;refine qJ ?_;refine awp_rseq [1,2,6,8,12,13,53] (by rfl) fun K hK=>?_;simp+decide only[qa,ev,putD,VO,VQ,VP,Ka,Kb,↓qg,qc];apply hK;clear hK K;refine Qm ?_;refine qJ ?_;refine awp_rseq [1,2,6,8,12,13,53,54] (by rfl) fun K hK=>?_;simp+decide only[qa,ev,qH,qG,putD,VO,VQ,VP,Ka,Kb,↓qw,qm,qA,cond_false,qo,Za,↓qd,qb];apply hK;clear hK K;refine qI (b:=_) rfl (fun hb3=>?_) (fun hb3=>?_)
   ·try simp only[decide_eq_true_eq]at hb3
    refine qP ?_;change Awp _ _ _ _ _ _ _;refine qI (b:=_) rfl (fun hb4=>?_) (fun hb4=>?_)
    ·try simp only[decide_eq_true_eq]at hb4
     refine awp_rseq [6,7,8] (by rfl) fun K hK=>?_;simp+decide only[ev,qH,qG,putD,VO,VQ,Ka,Kb,↓qF,qY,qh Uj YE,↓Qu,↓Qa,Yn,evP,Vk,QT,qf,VZ,Kn,Js,Nat.reduceAdd,qD,qi,qE,allLive,JU];refine qp (by rfl) (by rfl) zqA YE (by rfl) (by rfl) zqD (Jt _) (by rfl) ?_;simp only[VX];simp+decide only[ev,qH,qG,putD,VO,VQ,Ka,Kb,↓qd,qb,setAt,VY,Kj,Js,Nat.reduceAdd];refine qp (by rfl) (by rfl) zqA QN (by rfl) (by rfl) zqD (Jt _) (by rfl) ?_;simp only[VX];simp+decide only[qa,ev,putD,VQ,VP,Ka,setAt,VY,Kj,Js,Nat.reduceAdd];apply hK;clear hK K;refine qL ?_;try simp only[Qe,Qp]
     refine Qb h zqC (?_) ?_
     ·simp+decide only[QG,qy,qj,VQ,Ka,and_true,qy,qj,qh Uj YE,qh Xw QN,qZ,qf,VZ,Kn,Js,Nat.reduceAdd,qD,qi,qE,allLive,JU,QZ,ne_eq,not_false_eq_true,ne_0q2_0q0.symm,qf,VZ,Kn,Js,Nat.reduceAdd,qD,qi,qE,allLive,JU]
     simp+decide only[VQ,Ka,and_true,QJ,qy,qj,qh Uj YE,qh Xw QN,qZ,qf,VZ,Kn,Js,Nat.reduceAdd,qD,qi,qE,allLive,JU,QZ,ne_eq,not_false_eq_true,ne_0q2_0q0.symm,qf,VZ,Kn,Js,Nat.reduceAdd,qD,qi,qE,allLive,JU,QC,qkD];rw[hln,if_pos (.inl ((ZJ _ 42).mp hb3))];rfl
    ·try simp only[decide_eq_false_iff_not]at hb4
     exact absurd hb3 hb4
   ·try simp only[decide_eq_false_iff_not]at hb3
    refine XW [1,2,6,8,12,13,53,54] (by rfl) ?_;simp+decide only[qa,ev,qH,qG,putD,VO,VQ,VP,Ka,Kb,↓qw,qm,qA,cond_false,qo,Za,↓qd,qb,QC,qkD];change Awp _ _ _ _ _ _ _;refine qI (b:=_) rfl (fun hb9=>?_) (fun hb9=>?_)
    ·try simp only[decide_eq_true_eq]at hb9
     refine awp_rseq [6,7,8] (by rfl) fun K hK=>?_;simp+decide only[ev,qH,qG,putD,VO,VQ,Ka,Kb,↓qF,qY,qh Uj YE,↓Qu,↓Qa,Yn,evP,Vk,QT,qf,VZ,Kn,Js,Nat.reduceAdd,qD,qi,qE,allLive,JU];refine qp (by rfl) (by rfl) zqA YE (by rfl) (by rfl) zqD (Jt _) (by rfl) ?_;simp only[VX];simp+decide only[ev,qH,qG,putD,VO,VQ,Ka,Kb,↓qd,qb,setAt,VY,Kj,Js,Nat.reduceAdd];refine qp (by rfl) (by rfl) zqA QN (by rfl) (by rfl) zqD (Jt _) (by rfl) ?_;simp only[VX];simp+decide only[qa,ev,putD,VQ,VP,Ka,setAt,VY,Kj,Js,Nat.reduceAdd];apply hK;clear hK K;refine qL ?_;try simp only[Qe,Qp]
     refine Qb h zqC (?_) ?_
     ·simp+decide only[QG,qy,qj,VQ,Ka,and_true,qy,qj,qh Uj YE,qh Xw QN,qZ,qf,VZ,Kn,Js,Nat.reduceAdd,qD,qi,qE,allLive,JU,QZ,ne_eq,not_false_eq_true,ne_0q2_0q0.symm,qf,VZ,Kn,Js,Nat.reduceAdd,qD,qi,qE,allLive,JU]
     simp+decide only[VQ,Ka,and_true,QJ,qy,qj,qh Uj YE,qh Xw QN,qZ,qf,VZ,Kn,Js,Nat.reduceAdd,qD,qi,qE,allLive,JU,QZ,ne_eq,not_false_eq_true,ne_0q2_0q0.symm,qf,VZ,Kn,Js,Nat.reduceAdd,qD,qi,qE,allLive,JU];rw[hln,if_pos (.inr ((ZJ _ 47).mp hb9))];rfl
    ·try simp only[decide_eq_false_iff_not]at hb9
     have n1:¬((qcB s).getD 6 0=42\/(qcB s).getD 6 0=47):=by
      rintro(e|e)
      ·exact hb3 ((ZJ _ 42).mpr e)
      ·exact hb9 ((ZJ _ 47).mpr e)
     refine qJ ?_;refine awp_rseq [1,2,6,8,12,13,53,59] (by rfl) fun K hK=>?_;simp+decide only[qa,ev,qH,qG,putD,VO,VQ,VP,Ka,Kb,↓qw,qm,qA,cond_false,qo,Za,↓qd,qb];apply hK;clear hK K;refine qI (b:=_) rfl (fun hb10=>?_) (fun hb10=>?_)
     ·try simp only[decide_eq_true_eq]at hb10
      refine qP ?_;change Awp _ _ _ _ _ _ _;refine qI (b:=_) rfl (fun hb11=>?_) (fun hb11=>?_)
      ·try simp only[decide_eq_true_eq]at hb11
       refine awp_rseq [6,7,8] (by rfl) fun K hK=>?_;simp+decide only[ev,qH,qG,putD,VO,VQ,Ka,Kb,↓qF,qY,qh Uj YE,↓qg,qc,↓Xf,agP,Qv,qM,qK,qC,implies_true,JU,↓Xd,qm,WO,cond_false,Zv,Zw,Zj,qeo,↓QW,Qz,Qk,Xp,Xy,↓Qu,↓Qa,Yn,evP,Vk,QT,qf,VZ,Kn,Js,Nat.reduceAdd,qD,qi,qE,allLive,JU];refine qp (by rfl) (by rfl) zqA YE (by rfl) (by rfl) zqD (Jt _) (by rfl) ?_;simp only[VX];simp+decide only[ev,putD,VO,VQ,Ka,Kb,↓qd,qb,setAt,VY,Kj,Js,Nat.reduceAdd];refine qp (by rfl) (by rfl) zqA QN (by rfl) (by rfl) zqD (Jt _) (by rfl) ?_;simp only[VX];simp+decide only[qa,ev,putD,VQ,VP,Ka,setAt,VY,Kj,Js,Nat.reduceAdd];apply hK;clear hK K;refine qL ?_;try simp only[Qe,Qp]
       refine Qb h zqC (?_) ?_
       ·simp+decide only[QG,qy,qj,VQ,Ka,and_true,qy,qj,qh Uj YE,qh Xw QN,qZ,qf,VZ,Kn,Js,Nat.reduceAdd,qD,qi,qE,allLive,JU,QZ,ne_eq,not_false_eq_true,ne_0q2_0q0.symm,qf,VZ,Kn,Js,Nat.reduceAdd,qD,qi,qE,allLive,JU]
       simp+decide only[VQ,Ka,and_true,QJ,qy,qj,qh Uj YE,qh Xw QN,qZ,qf,VZ,Kn,Js,Nat.reduceAdd,qD,qi,qE,allLive,JU,QZ,ne_eq,not_false_eq_true,ne_0q2_0q0.symm,qf,VZ,Kn,Js,Nat.reduceAdd,qD,qi,qE,allLive,JU];rw[hln,if_neg n1,if_pos (.inl ((ZJ _ 68).mp hb10))];rfl
      ·try simp only[decide_eq_false_iff_not]at hb11
       exact absurd hb10 hb11
     ·try simp only[decide_eq_false_iff_not]at hb10
      refine XW [1,2,6,8,12,13,53,59] (by rfl) ?_;simp+decide only[qa,ev,qH,qG,putD,VO,VQ,VP,Ka,Kb,↓qw,qm,qA,cond_false,qo,Za,↓qd,qb];change Awp _ _ _ _ _ _ _;refine qI (b:=_) rfl (fun hb14=>?_) (fun hb14=>?_)
      ·try simp only[decide_eq_true_eq]at hb14
       refine awp_rseq [6,7,8] (by rfl) fun K hK=>?_;simp+decide only[ev,qH,qG,putD,VO,VQ,Ka,Kb,↓qF,qY,qh Uj YE,↓qg,qc,↓Xf,agP,Qv,qM,qK,qC,implies_true,JU,↓Xd,qm,WO,cond_false,Zv,Zw,Zj,qeo,↓QW,Qz,Qk,Xp,Xy,↓Qu,↓Qa,Yn,evP,Vk,QT,qf,VZ,Kn,Js,Nat.reduceAdd,qD,qi,qE,allLive,JU];refine qp (by rfl) (by rfl) zqA YE (by rfl) (by rfl) zqD (Jt _) (by rfl) ?_;simp only[VX];simp+decide only[ev,putD,VO,VQ,Ka,Kb,↓qd,qb,setAt,VY,Kj,Js,Nat.reduceAdd];refine qp (by rfl) (by rfl) zqA QN (by rfl) (by rfl) zqD (Jt _) (by rfl) ?_;simp only[VX];simp+decide only[qa,ev,putD,VQ,VP,Ka,setAt,VY,Kj,Js,Nat.reduceAdd];apply hK;clear hK K;refine qL ?_;try simp only[Qe,Qp]
       refine Qb h zqC (?_) ?_
       ·simp+decide only[QG,qy,qj,VQ,Ka,and_true,qy,qj,qh Uj YE,qh Xw QN,qZ,qf,VZ,Kn,Js,Nat.reduceAdd,qD,qi,qE,allLive,JU,QZ,ne_eq,not_false_eq_true,ne_0q2_0q0.symm,qf,VZ,Kn,Js,Nat.reduceAdd,qD,qi,qE,allLive,JU]
       simp+decide only[VQ,Ka,and_true,QJ,qy,qj,qh Uj YE,qh Xw QN,qZ,qf,VZ,Kn,Js,Nat.reduceAdd,qD,qi,qE,allLive,JU,QZ,ne_eq,not_false_eq_true,ne_0q2_0q0.symm,qf,VZ,Kn,Js,Nat.reduceAdd,qD,qi,qE,allLive,JU];rw[hln,if_neg n1,if_pos (.inr ((ZJ _ 100).mp hb14))];rfl
      ·try simp only[decide_eq_false_iff_not]at hb14
       have n2:¬((qcB s).getD 6 0=68\/(qcB s).getD 6 0=100):=by
        rintro(e|e)
        ·exact hb10 ((ZJ _ 68).mpr e)
        ·exact hb14 ((ZJ _ 100).mpr e)
       refine qJ ?_;refine awp_rseq [1,6,8,12,13,53,69] (by rfl) fun K hK=>?_;simp+decide only[qa,ev,qH,qG,putD,VO,VQ,VP,Ka,Kb,↓qw,qm,qA,cond_false,qo,Za,↓qd,qb];apply hK;clear hK K;refine qI (b:=_) rfl (fun hb15=>?_) (fun hb15=>?_)
       ·try simp only[decide_eq_true_eq]at hb15
        refine qP ?_;change Awp _ _ _ _ _ _ _;refine qI (b:=_) rfl (fun hb16=>?_) (fun hb16=>?_)
        ·try simp only[decide_eq_true_eq]at hb16
         refine awp_rseq [6,7,8] (by rfl) fun K hK=>?_;simp+decide only[ev,qH,qG,putD,VO,VQ,Ka,Kb,↓qF,qY,qh Uj YE,↓qg,qc,↓qw,qm,WO,cond_false,Zj,qeo,↓Qu,↓Qa,Yn,evP,Vk,QT,qf,VZ,Kn,Js,Nat.reduceAdd,qD,qi,qE,allLive,JU];refine qp (by rfl) (by rfl) zqA YE (by rfl) (by rfl) zqD (Jt _) (by rfl) ?_;simp only[VX];simp+decide only[ev,putD,VO,VQ,Ka,Kb,↓qd,qb,setAt,VY,Kj,Js,Nat.reduceAdd];refine qp (by rfl) (by rfl) zqA QN (by rfl) (by rfl) zqD (Jt _) (by rfl) ?_;simp only[VX];simp+decide only[qa,ev,putD,VQ,VP,Ka,setAt,VY,Kj,Js,Nat.reduceAdd];apply hK;clear hK K;refine qL ?_;try simp only[Qe,Qp]
         refine Qb h zqC (?_) ?_
         ·simp+decide only[QG,qy,qj,VQ,Ka,and_true,qy,qj,qh Uj YE,qh Xw QN,qZ,qf,VZ,Kn,Js,Nat.reduceAdd,qD,qi,qE,allLive,JU,QZ,ne_eq,not_false_eq_true,ne_0q2_0q0.symm,qf,VZ,Kn,Js,Nat.reduceAdd,qD,qi,qE,allLive,JU]
         simp+decide only[VQ,Ka,and_true,QJ,qy,qj,qh Uj YE,qh Xw QN,qZ,qf,VZ,Kn,Js,Nat.reduceAdd,qD,qi,qE,allLive,JU,QZ,ne_eq,not_false_eq_true,ne_0q2_0q0.symm,qf,VZ,Kn,Js,Nat.reduceAdd,qD,qi,qE,allLive,JU];rw[hln,if_neg n1,if_neg n2,if_pos (.inl ((ZJ _ 32).mp hb15))];rfl
        ·try simp only[decide_eq_false_iff_not]at hb16
         exact absurd hb15 hb16
       ·try simp only[decide_eq_false_iff_not]at hb15
        refine XW [1,6,8,12,13,69] (by rfl) ?_;simp+decide only[qa,ev,qH,qG,putD,VO,VQ,VP,Ka,Kb,↓qw,qm,qA,cond_false,qo,Za,↓qd,qb];change Awp _ _ _ _ _ _ _;refine qI (b:=_) rfl (fun hb17=>?_) (fun hb17=>?_)
        ·try simp only[decide_eq_true_eq]at hb17
         refine awp_rseq [6,7,8] (by rfl) fun K hK=>?_;simp+decide only[ev,qH,qG,putD,VO,VQ,Ka,Kb,↓qF,qY,qh Uj YE,↓qg,qc,↓qw,qm,WO,cond_false,Zj,qeo,↓Qu,↓Qa,Yn,evP,Vk,QT,qf,VZ,Kn,Js,Nat.reduceAdd,qD,qi,qE,allLive,JU];refine qp (by rfl) (by rfl) zqA YE (by rfl) (by rfl) zqD (Jt _) (by rfl) ?_;simp only[VX];simp+decide only[ev,putD,VO,VQ,Ka,Kb,↓qd,qb,setAt,VY,Kj,Js,Nat.reduceAdd];refine qp (by rfl) (by rfl) zqA QN (by rfl) (by rfl) zqD (Jt _) (by rfl) ?_;simp only[VX];simp+decide only[qa,ev,putD,VQ,VP,Ka,setAt,VY,Kj,Js,Nat.reduceAdd];apply hK;clear hK K;refine qL ?_;try simp only[Qe,Qp]
         refine Qb h zqC (?_) ?_
         ·simp+decide only[QG,qy,qj,VQ,Ka,and_true,qy,qj,qh Uj YE,qh Xw QN,qZ,qf,VZ,Kn,Js,Nat.reduceAdd,qD,qi,qE,allLive,JU,QZ,ne_eq,not_false_eq_true,ne_0q2_0q0.symm,qf,VZ,Kn,Js,Nat.reduceAdd,qD,qi,qE,allLive,JU]
         simp+decide only[VQ,Ka,and_true,QJ,qy,qj,qh Uj YE,qh Xw QN,qZ,qf,VZ,Kn,Js,Nat.reduceAdd,qD,qi,qE,allLive,JU,QZ,ne_eq,not_false_eq_true,ne_0q2_0q0.symm,qf,VZ,Kn,Js,Nat.reduceAdd,qD,qi,qE,allLive,JU];rw[hln,if_neg n1,if_neg n2,if_pos (.inr ((ZJ _ 45).mp hb17))];rfl
        ·try simp only[decide_eq_false_iff_not]at hb17
         refine qP ?_;change Awp _ _ _ _ _ _ _;refine Wo 3 [] [6,7,8] mixed (by kernel_rfl) (by rfl) fun K hK=>?_;simp only[Ki,V8,VE,KQ];simp+decide only[ev,putD,VO,VQ,Ka,Kb,↓ZN,XU,qh Uj YE,↓Zd,qc,QT,qf,VZ,Kn,Js,Nat.reduceAdd,qD,qi,qE,allLive,JU];refine Xu (V:=QC ⟨4,line,7⟩) (by rfl) (by rfl) (by first|trivial|(simp+decide only[Be,XL,and_true,Kb,QC,UY,Wy,qgI,qkD,Ve,JK];done)|(simp[Be,XL,Bf];done)) (fun g hg=>qir wz _ 4 line 7) ?_;try simp only[YK]
         refine qp (by rfl) (by rfl) zqA YE (by rfl) (by rfl) zqD (Jt _) (by rfl) ?_;simp only[VX];simp+decide only[ev,qH,qG,putD,VO,VQ,Ka,Kb,↓qd,qb,setAt,VY,Kj,Js,Nat.reduceAdd,QC];refine qp (by rfl) (by rfl) zqA QN (by rfl) (by rfl) zqD (Jt _) (by rfl) ?_;simp only[VX];simp+decide only[qa,ev,putD,VQ,VP,Ka,setAt,VY,Kj,Js,Nat.reduceAdd];apply hK;clear hK K;refine qL ?_;refine Qb h zqC (?_) ?_
         ·simp+decide only[QG,qy,qj,VQ,Ka,and_true,qy,qj,qh Uj YE,qh Xw QN,qZ,qf,VZ,Kn,Js,Nat.reduceAdd,qD,qi,qE,allLive,JU,QZ,ne_eq,not_false_eq_true,ne_0q2_0q0.symm,qf,VZ,Kn,Js,Nat.reduceAdd,qD,qi,qE,allLive,JU]
         simp+decide only[VQ,Ka,and_true,QJ,qy,qj,qh Uj YE,qh Xw QN,qZ,qf,VZ,Kn,Js,Nat.reduceAdd,qD,qi,qE,allLive,JU,QZ,ne_eq,not_false_eq_true,ne_0q2_0q0.symm,qf,VZ,Kn,Js,Nat.reduceAdd,qD,qi,qE,allLive,JU];rw[hln,if_neg n1,if_neg n2,if_neg]
         ·rfl
         ·rintro(e|e)
          ·exact hb15 ((ZJ _ 32).mpr e)
          ·exact hb17 ((ZJ _ 45).mpr e)
end Go.Proofs.YtlhhaagmakhilaaGreatDoor
namespace Go.Proofs.YtlhhaagmakhilaaGreatDoor
open Go.AM
open Go.Proofs
open Go.Col
open Go.Tok
open Go.RowKit (Below)
set_option maxRecDepth 100000
def QI(t:TokC):List AVal:=[.int .u8 t.kind.toNat, .str t.text, .int .i64 t.line, .int .i64 t.col, .bool t.left]
def nxA(t:Nx):AVal:= .agg [.int .u8 t.kind.toNat, .str t.text, .int .i64 0, .int .i64 0, .bool false]
def nxR(t:Nx):AVal:= .tuple [nxA t, .int .i64 t.n, .int .i64 t.e]
theorem qag(wz:World)(h:AHeap)(kx:Nat)(lf:Bool)(s:Str)(mv tv:AVal)(i:Nat)(n:Int)(hk:h kx=some ⟨[.bool lf, .str s,mv, .int .i64 i,tv],0⟩)(i1:i<=4611686018427387904)(n0: -1<=n)(n1:n<=2305843009213693952):
 ACall Tryz.prog wz 105 [.ptr (.own kx) 0, .int .i64 n] h (fun v h'=>v= .int .u8 (QF s (i+n)).toNat/\h'=h):=by
 have rx:=fun o=>QB wz hk o;refine qU (n:=39) (rs:=[.tmp 4]) Tryz.func105 rfl rfl rfl rfl (VN rfl) ?_;simp only[Qg];refine awp_rseq [0,1] (by rfl) fun K hK=>?_;simp+decide only[qa,ev,qH,qG,putD,VO,VP,Ka,Kb,↓qd,qb,Js];apply hK;clear hK K;refine qJ ?_;refine Zt [0,1,26] mixed (by kernel_rfl) (by rfl) (by rfl) fun K hK=>?_;simp+decide only[qa,ev,qH,qG,putD,VO,VQ,VP,Ka,Kb,↓qg,qc,↓Qo,qV,QA,↓qB,ql,WU,↓qF,qY,qz ag3,↓qw,qm,qR,cond_false,qo,Xa,qA,XZ,↓Xf,agP,Qv,qM,qK,Qh,implies_true,↓YL,qcL,qcM,↓Xj,ZH,ZI,↓Zn,XT,YY,qdg,↓Xd,Zv,qbB,Zw,qbC,UK,WH,qz ag9,↓qdn,Qw,WB Tryz.underlying9,qiU,qiV,Ua,↓QW,Qz,Qk,ZA,ZO,VZ,Kn,Js,qi,qE,rx];try simp(disch:=omega)only[wrap_i64]
 apply hK;clear hK K;refine qI (b:=_) rfl (fun hb1=>?_) (fun hb1=>?_)
 ·try simp only[decide_eq_true_eq,JW]at hb1
  skip;refine awp_rseq [4] (by rfl) fun K hK=>?_;simp+decide only[qa,ev,qH,qG,putD,VO,VP,Ka,Kb,↓qd,qb];apply hK;clear hK K;refine qL ?_;try simp only[Qe]
  refine Qb h zqC (qN (Qc)) ?_;simp+decide only[VQ,if_true,and_true,Qs];rw[qpj (by omega)];rfl
 ·try simp only[decide_eq_false_iff_not,VT]at hb1
  have hi:0<=(i:Int)+n/\(i:Int)+n<s.length:=by omega
  refine qP ?_;change Awp _ _ _ _ _ _ _;refine Zt [4] mixed (by kernel_rfl) (by rfl) (by rfl) fun K hK=>?_;simp+decide only[ev,putD,VO,VQ,Ka,Kb,↓qg,qc,↓Qo,qV,QA,↓qB,ql,UK,WH,↓qF,qY,qz ag9,WU,qz ag3,↓qw,qm,qR,cond_false,qo,Xa,VZ,Kn,Js,qi,qE,rx];try simp(disch:=omega)only[wrap_i64]
  try simp+decide only[qa,ev,putD,VO,VQ,VP,Ka,Kb,↓qrf,qgc,qer Tryz.underlying9,↓qd,qb]
  repeat (with_reducible refine And.intro ?_ ?_;· first|trivial|omega|(intro hg;simp only[Ky,JW,Jj,VS,VT,VU,decide_eq_true_eq,decide_eq_false_iff_not,XY]at hg;omega))
  apply hK;clear hK K;refine qL ?_;refine Qb h zqC (qN (Qc)) ?_;simp+decide only[VQ,if_true,and_true,Qs];unfold QF;rw[if_neg (by omega)]
theorem qtS{s:Str}{i n:Nat}{p:UInt8->Bool}(hn:n<=Uf s i p):n<Uf s i p↔i+n<s.length/\p (s.getD (i+n) 0)=true:=by
 constructor
 ·intro h
  have h1:=qkC (s:=s) (p:=p) (i:=i) h n (Nat.lt_succ_self n);refine⟨?_,h1⟩;by_cases hi:i<=s.length
  ·have:=qef s i p hi
   omega
  ·have:Uf s i p=0:=by rw[qdu,if_neg (by omega)]
   omega
 ·rintro⟨h1,h2⟩
  by_cases e:n=Uf s i p
  ·have:=qmt (s:=s) (p:=p) (f:=s.length) (i:=i) (by omega) (by omega)
   rw[<-e,h2]at this;cases this
  ·omega
abbrev IsFn(wz:World)(f:FuncId)(p:UInt8->Bool):Prop:=∀(g:AHeap) (b:UInt8),ACall Tryz.prog wz f [.int .u8 b.toNat] g (fun v h'=>v= .bool (p b)/\h'=g)
theorem qyz(wz:World)(h:AHeap)(kx:Nat)(lf:Bool)(s:Str)(mv tv:AVal)(i k:Nat)(f:FuncId)(p:UInt8->Bool)(hf:IsFn wz f p)(hk:h kx=some ⟨[.bool lf, .str s,mv, .int .i64 i,tv],0⟩)(i1:i<=1099511627776)(k1:k<=1099511627776)(hs:s.length<=1099511627776):
 ACall Tryz.prog wz 132 [.ptr (.own kx) 0, .int .i64 k, .func f []] h (fun v h'=>v= .int .i64 (Uf s (i+k) p)/\h'=h):=by
 have rx:=fun o=>QB wz hk o;have hrl:=qkB s (i+k) p;refine qU (n:=35) (rs:=[.tmp 6]) Tryz.func132 rfl rfl rfl rfl (VN rfl) ?_;simp only[Qg];refine awp_rseq [0,1,2] (by rfl) fun K hK=>?_;simp+decide only[qa,ev,qH,qG,putD,VO,VP,Ka,Kb,↓qd,qb,Js,Nat.reduceAdd];apply hK;clear hK K;refine awp_rseq [0,1,2,7] (by rfl) fun K hK=>?_;simp+decide only[qa,ev,qH,qG,putD,VO,VP,Ka,Kb,↓qd,qb];apply hK;clear hK K;refine qJ ?_;refine Qm ?_;refine XC [0,1,2,7] (fun n:Nat=>[(0, .ptr (.own kx) 0),(1, .int .i64 k),(2, .func f []),(7, .int .i64 n)]) (fun n:Nat=>h) (fun n:Nat=>n<=Uf s (i+k) p) (fun n:Nat=>Uf s (i+k) p-n) 0 rfl (Vm _) (Jt _) ?_;intro n hn;have hnx:=qtS hn;have hpk:∀q:(i:Int)+k+n<s.length,QF s (i+((k:Int)+n))=s.getD (i+k+n) 0:=fun q=>by
  rw[show(i:Int)+((k:Int)+n)=((i+k+n:Nat):Int) by omega,Wm (by omega)]
 refine qJ ?_;refine Wo 24 [] [0,1,2,7,31] mixed (by kernel_rfl) (by rfl) fun K hK=>?_;simp only[Ki,VE,List.take_nil,List.drop_nil];simp+decide only[qa,ev,putD,VO,VQ,Ka,Kb,↓Zd,qc,↓Uh,qV,QA,↓Yd,ql,WU,↓ZN,XU,qz ag3,↓qfA,qm,qR,cond_false,qo,Xa,UK,WH,qz ag9,↓qwL,Qw,WB Tryz.underlying9,XZ,↓qzL,fgP,qwO,qM,qK,qC,implies_true,↓qwN,Zv,qbB,Zw,qbC,VZ,Kn,Js,qi,qE,rx];try simp(disch:=omega)only[wrap_i64]
 refine qgU (V:= .int .u8 (QF s (i+((k:Int)+n))).toNat) (f:=_) (cap:=_) (xs:=_) (by first|rfl|(simp+decide only[gv,qM,VQ,Ka,Xg,qK])) (fun hg=>⟨rfl,?_⟩) (by first|trivial|(simp+decide only[Be,XL,and_true,Kb,QC,UY,Wy,qgI,nxA,nxR,Ve,JK];done)|(simp[Be,XL,Bf];done)) (fun hg g hsub=>qag wz _ kx lf s mv tv i ((k:Int)+n) (by first|exact hk|exact hsub _ _ hk) (by omega) (by omega) (by omega)) ?_
 ·try simp+decide only[gv,qM,VQ,Ka,qC]at hg
  simp+decide only[evs,ev,VQ,Ka,hg,Qy,Bg,Ke,Vk]
 simp+decide only[putD,VO,VQ,Ka,gv,qM,qC];refine qgU (V:= .bool (p (QF s (i+((k:Int)+n))))) (f:=_) (cap:=_) (xs:=_) (by first|rfl|(simp+decide only[gv,qM,VQ,Ka,Xg,qK])) (fun hg=>⟨by(try simp+decide only[gv,qM,VQ,Ka,qC]at hg);simp+decide only[ev,VQ,Ka,hg,Qy];try rfl,?_⟩) (by first|trivial|(simp+decide only[Be,XL,and_true,Kb,QC,UY,Wy,qgI,nxA,nxR,Ve,JK];done)|(simp[Be,XL,Bf];done)) (fun hg g hsub=>hf _ _) ?_
 ·try simp+decide only[gv,qM,VQ,Ka,qC]at hg
  simp+decide only[evs,ev,VQ,Ka,hg,Qy,Bg,Ke,Vk]
 simp+decide only[YK,ev,qH,qG,putD,VO,VQ,VP,Ka,Kb,gv,qM,qC,↓qzJ,Qz,Qk,Xp,Xy];apply hK;clear hK K;refine qI (b:=_) rfl (fun hb1=>?_) (fun hb1=>?_)
 ·try simp only[decide_eq_true_eq,Ky]at hb1
  have h1:n<Uf s (i+k) p:=hnx.2 ⟨by omega,by rw[<-hpk hb1.1];exact hb1.2⟩;refine qP ?_;change Awp _ _ _ _ _ _ _;refine Qm ?_;refine XW [0,1,2,7] (by rfl) ?_;simp+decide only[qa,ev,qH,qG,putD,VO,VQ,VP,Ka,Kb,↓qg,qc,↓qw,qm,qA,cond_false,qo,Xa,↓qd,qb];try simp(disch:=omega)only[wrap_i64]
  try simp only[Qj,Yc]
  exact⟨n+1,rfl,Vm _,h1,by omega⟩
 ·try simp only[decide_eq_false_iff_not,VS]at hb1
  refine XE ?_;change Awp _ _ _ _ _ _ _;refine awp_rseq [6] (by rfl) fun K hK=>?_;simp+decide only[qa,ev,putD,VO,VQ,VP,Ka,Kb,↓qg,qc,↓qd,qb];apply hK;clear hK K;refine qL ?_;refine Qb h zqC (qN (Qc)) ?_;simp+decide only[VQ,if_true,and_true,Qs];rw[show n=Uf s (i+k) p by
   by_cases e:n<Uf s (i+k) p
   ·have:=hnx.1 e
    have h2:(i:Int)+k+n<s.length:=by omega
    rcases hb1 with q|q
    ·omega
    ·rw[hpk h2,this.2]at q
     cases q
   ·omega]
theorem qAV(wz:World)(h:AHeap)(b:UInt8):ACall Tryz.prog wz 106 [.int .u8 b.toNat] h (fun v h'=>v= .bool (qry b)/\h'=h):=by
 refine qU (n:=9) (rs:=[.tmp 2]) Tryz.func106 rfl rfl rfl rfl (VN rfl) ?_;simp only[Qg];refine awp_rseq [0] (by rfl) fun K hK=>?_;simp+decide only[qa,ev,qH,qG,putD,VO,VP,Ka,Kb,↓qd,qb];apply hK;clear hK K;refine awp_rseq [2] (by rfl) fun K hK=>?_;simp+decide only[qa,ev,qH,qG,putD,VO,VQ,VP,Ka,Kb,↓qg,qc,↓qw,qm,qA,cond_false,qo,Za,↓Xf,agP,Qv,qM,qK,Qh,implies_true,↓Xd,Zv,Zw,↓QW,Qz,Qk,ZA,ZO,↓qd,qb];apply hK;clear hK K;refine qL ?_;refine Qb _ (Vm _) (qN (Qc)) ?_;simp+decide only[VQ,if_true,and_true,Qs];have e1:decide ((b.toNat:Int)=44)=decide (b=44):=decide_eq_decide.2 (iff_of_eq (ZJ b 44));have e2:decide ((b.toNat:Int)=59)=decide (b=59):=decide_eq_decide.2 (iff_of_eq (ZJ b 59));unfold qry;rw[e1,e2]
theorem qlz(wz:World)(h:AHeap)(v:AVal)(l:List Str)(x:Str)(hv:IsStrs wz h v l)(hn:l.length<=140737488355328):
 ACall Tryz.prog wz 53 [v, .str x] h (fun r h'=>r= .bool (l.contains x)/\h'=h):=by
 intro fi vals w hr hvs;simp only[VRs,VR]at hvs;obtain⟨u,vs',rfl,hu,u2,vs2,rfl,rfl,rfl⟩:=hvs;have fin:∀{R:Ending->World->Prop},Calls Tryz.prog 53 #[u, .string ⟨⟨x⟩⟩] w R->(∀e w',R e w'->e= .returned (.bool (l.contains x))/\w'=w)->
  Lands Tryz.prog 53 [u, .string ⟨⟨x⟩⟩].toArray w fun v w'=>∃Ps y h',fi.le Ps/\HRel wz Ps h' w'/\VR Ps y v/\y= .bool (l.contains x)/\h'=h:=fun hc hq=>
  .inl ⟨_,Tryz.func53,rfl,rfl,hc.mono fun e w' hR=>⟨_,(hq e w' hR).1,fi, .bool (l.contains x),h,fi.le_refl,hr.later (by rw[(hq e w' hR).2];exact Below.refl _ _),rfl,rfl,rfl⟩⟩
 obtain⟨xs,hxs⟩:∃xs,xs=l.map fun s=>[AVal.str s]:=⟨_,rfl⟩
 unfold IsStrs at hv;rw[<-hxs]at hv;cases hv with
 |nil=>
  have e0:l=[]:=VW.1 hxs.symm;subst e0;simp only[VR]at hu;subst hu;exact fin (Bh none 0 ⟨⟨x⟩⟩ w) fun e w' ⟨e1,e2⟩=>⟨e1,e2⟩
 |mk lc o n c xs hn' hw hc hlv hcap=>
  subst hxs;rw[Jp]at hn';subst hn';obtain⟨a,cp,rfl,ha⟩:=YJ hu;by_cases h0:l.length=0
  ·have e0:l=[]:=Kg h0
   subst e0;exact fin (Bh (some a) cp ⟨⟨x⟩⟩ w) fun e w' ⟨e1,e2⟩=>⟨e1,e2⟩
  ·have ha':=ha h0
   obtain⟨us,u1,u2,u3⟩:=qez hr lc (l.length*1) o a ha' (by rw[hc];exact hlv);rw[hc,qgk]at u2;have hus:=qlY u2;have has:=qhM ha';have hcell:∀j,j<(l.map fun x=>(⟨⟨x⟩⟩:ByteArray)).length->w.cell? ⟨a.block,a.off+j,none⟩=some (.string ((l.map fun x=>(⟨⟨x⟩⟩:ByteArray)).getD j ByteArray.empty)):=fun j hj=>by
    rw[Jp]at hj;have:=u3 j (.string ⟨⟨l[j]⟩⟩) (by rw[hus];simp[hj]);rw[has]at this;rw[show(l.map fun x=>(⟨⟨x⟩⟩:ByteArray)).getD j ByteArray.empty=⟨⟨l[j]⟩⟩ by simp[Ko,hj]];by_cases hj0:j=0
    ·subst hj0
     simpa[Addr.add]using this
    ·simpa[Addr.add,hj0]using this
   have hj:=Tryz.slices_Contains_string a.block a.off l.length cp (l.map fun x=>(⟨⟨x⟩⟩:ByteArray)) ⟨⟨x⟩⟩ w (by rw[Jp];exact KL _) (by omega) hcell;rw[<-has]at hj;refine fin hj fun e w' ⟨e1,e2⟩=>⟨?_,e2⟩
   rw[e1,Jr (by rw[Jp];exact KL _)];congr 2;rw[KA,Lib.containsS_iff,JH,JX];constructor
   ·rintro⟨y,hy,e⟩
    have:y=x:=congrArg (fun z:ByteArray=>z.data.toList) e
    rwa [this]at hy
   ·intro hy
    exact⟨x,hy,rfl⟩
def Zi:TokC:=⟨0,[],0,0,false⟩
theorem qvD{l:List TokC}{n:Nat}{ws:List Str}(hn:0<n)(h:l.length<n):qcs l n ws=false:=by
 unfold qcs;rw[Kr (by rw[V6];omega)]
theorem qvE{l:List TokC}{n:Nat}{ws:List Str}(hn:0<n)(h:n<=l.length):qcs l n ws=(decide ((l.getD (l.length-n) Zi).kind=1) && ws.contains (l.getD (l.length-n) Zi).text):=by
 unfold qcs;rw[List.getElem?_reverse (by omega),show l.length-1-(n-1)=l.length-n by omega,JA (by omega)];simp[Ko,show l.length-n<l.length by omega]
theorem qyr(wz:World)(h:AHeap)(kx:Nat)(lf:Bool)(s:Str)(mv tv:AVal)(i:Int)(l:List TokC)(n:Nat)(v:AVal)(hv:v.live=true)(hk:h kx=some ⟨[.bool lf, .str s,mv, .int .i64 i,tv],0⟩)(ht:IsL wz h 5 tv (l.map QI))(hn:l.length<n)(hn':n<=1000000):
 ACall Tryz.prog wz 129 [.ptr (.own kx) 0, .int .i64 n,v] h (fun r h'=>r= .bool false/\h'=h):=by
 have rx:=fun o=>QB wz hk o;have hlv:=ht.live;have hlen:=ht.len Tryz.underlying26;rw[Jp]at hlen;have hneg:¬(0<=(l.length:Int)-n):=by omega
 refine qU (n:=40) (rs:=[.tmp 6]) Tryz.func129 rfl rfl rfl rfl (VN rfl) ?_;simp only[Qg];refine awp_rseq [0,1,2] (by rfl) fun K hK=>?_;simp+decide only[qa,ev,qH,qG,putD,VO,VP,Ka,Kb,↓qd,qb,Js,Nat.reduceAdd];apply hK;clear hK K;refine awp_rseq [0,2,7] (by rfl) fun K hK=>?_;simp+decide only[qa,ev,putD,VO,VQ,VP,Ka,Kb,↓qg,qc,↓Qo,qV,QA,↓qB,ql,qeu,↓qF,qY,qz qaw,↓Xe,Qw,↓qw,qm,qR,cond_false,qo,qaI,↓qd,qb,VZ,Kn,Js,rx,hlv,hlen];try simp(disch:=omega)only[wrap_i64]
 apply hK;clear hK K;refine awp_rseq [6] (by kernel_rfl) fun K hK=>?_;simp+decide only[ev,qH,qG,putD,VO,VQ,Ka,Kb,↓qg,qc,↓qw,qm,qA,cond_false,qo,Ua,↓Xf,agP,Qv,qM,qK,qC,implies_true,decide_false,Zr,false_implies,UU,qdS,↓YL,qV,↓Xj,ql,↓Zn,XT,↓Zf,↓Xd,↓QW,Qz,Qk,hneg]
 (refine qaD (by rfl) (by rfl) ?_)
 simp+decide only[qa,ev,qH,qG,putD,VO,VQ,VP,Ka,Kb,↓QW,Qz,Qk,↓qd,qb];apply hK;clear hK K;refine qL ?_;refine Qb h zqC (qN (Qc)) ?_;simp+decide only[VQ,if_true,and_true,Qs];all_goals first|rfl|exact⟨rfl,rfl⟩|(simp+decide only[Ka, *];done)|(trace_state;fail)
theorem qdb(wz:World)(h:AHeap)(kx:Nat)(lf:Bool)(s:Str)(mv tv:AVal)(i:Nat)(hk:h kx=some ⟨[.bool lf, .str s,mv, .int .i64 i,tv],0⟩)(i1:i<=4611686018427387904):
 ACall Tryz.prog wz 105 [.ptr (.own kx) 0, .int .i64 0] h (fun v h'=>v= .int .u8 (QF s i).toNat/\h'=h):=by
 have:=qag wz h kx lf s mv tv i 0 hk i1 (by omega) (by omega)
 rwa [Int.add_zero]at this
theorem qyy(wz:World)(h:AHeap)(kx:Nat)(lf:Bool)(s:Str)(mv tv:AVal)(i:Nat)(f:FuncId)(p:UInt8->Bool)(hf:IsFn wz f p)(hk:h kx=some ⟨[.bool lf, .str s,mv, .int .i64 i,tv],0⟩)(i1:i<=1099511627776)(hs:s.length<=1099511627776):
 ACall Tryz.prog wz 132 [.ptr (.own kx) 0, .int .i64 0, .func f []] h (fun v h'=>v= .int .i64 (Uf s i p)/\h'=h):=by
 have:=qyz wz h kx lf s mv tv i 0 f p hf hk i1 (by omega) hs
 rwa [K7]at this
theorem qys(wz:World)(h:AHeap)(kx:Nat)(lf:Bool)(s:Str)(mv tv:AVal)(i:Int)(l:List TokC)(n:Nat)(v:AVal)(ws:List Str)(hv:IsStrs wz h v ws)(hws:ws.length<=1000)(hk:h kx=some ⟨[.bool lf, .str s,mv, .int .i64 i,tv],0⟩)(ht:IsL wz h 5 tv (l.map QI))(hn0:0<n)(hn:n<=l.length)(hl:l.length<=1099511627776):
 ACall Tryz.prog wz 129 [.ptr (.own kx) 0, .int .i64 n,v] h (fun r h'=>r= .bool (qcs l n ws)/\h'=h):=by
 have rx:=fun o=>QB wz hk o;have hvl:=hv.live;obtain⟨lc,o,c,e⟩:=ht.open (fun e=>by rw[VW]at e;subst e;simp at hn;omega);rw[Jp]at e;subst e;have hi:l.length-n<l.length:=by omega
 have he:=ht.elem (i:=l.length-n) (by rw[Jp];exact hi);rw[getD_map Zi hi]at he;simp only[qf,QI,List.cons.injEq,and_true]at he;obtain⟨e0,e1,e2,e3,e4⟩:=he;have hpos:(0<=(l.length:Int)-n):=by omega
 have hix:((l.length:Int)-n).toNat=l.length-n:=by omega
 rw[qvE hn0 hn];obtain⟨t,htt⟩:∃t,t=l.getD (l.length-n) Zi:=⟨_,rfl⟩
 rw[<-htt]at e0 e1|-
 have ek:decide ((t.kind.toNat:Int)=1)=decide (t.kind=1):=decide_eq_decide.2 (iff_of_eq (ZJ t.kind 1));refine qU (n:=40) (rs:=[.tmp 6]) Tryz.func129 rfl rfl rfl rfl (VN rfl) ?_;simp only[Qg];refine awp_rseq [0,1,2] (by rfl) fun K hK=>?_;simp+decide only[qa,ev,qH,qG,putD,VO,VP,Ka,Kb,↓qd,qb,Js,Nat.reduceAdd];apply hK;clear hK K;refine awp_rseq [0,2,7] (by rfl) fun K hK=>?_;simp+decide only[qa,ev,putD,VO,VQ,VP,Ka,Kb,↓qg,qc,↓Qo,qV,QA,↓qB,ql,qeu,↓qF,qY,qz qaw,↓Xe,Qw,Zh Tryz.underlying26,↓qw,qm,qR,cond_false,qo,qaI,↓qd,qb,VZ,Kn,Js,qaY,rx];try simp(disch:=omega)only[wrap_i64]
 apply hK;clear hK K;refine awp_rseq [6] (by kernel_rfl) fun K hK=>?_;simp+decide only[ev,qH,qG,putD,VO,VQ,Ka,Kb,↓qg,qc,↓qw,qm,qA,cond_false,qo,Ua,↓Xf,agP,Qv,qM,qK,qC,implies_true,decide_true,Qy,forall_const,Vg,↓YL,qV,QA,qcL,qcM,↓Xj,ql,qeu,ZH,ZI,↓Zn,XT,YY,qeE,qz qaw,↓Zf,qoB,qoA,qW Tryz.underlying26 Xb,qbW,qz qjd,↓Xd,Za,↓QW,Qz,Qk,Xy,Uu,qz ag9,VZ,Kn,Js,qi,qE,qaY,rx,hpos,hix,K7,e0,e1,ek];repeat (with_reducible refine And.intro ?_ ?_;· first|trivial|omega|(intro hg;simp only[Ky,JW,Jj,VS,VT,VU,decide_eq_true_eq,decide_eq_false_iff_not,XY]at hg;omega))
 (refine ZC (V:= .bool (ws.contains t.text)) (f:=_) (cap:=_) (xs:=_) (by first|rfl|(simp+decide only[gv,qM,VQ,Ka,Xg,qK])) (fun hg=>⟨rfl,?_⟩) (fun hg=>qlz wz _ v ws t.text hv (by omega)) ?_;· (simp+decide only[gv,qM,VQ,Ka,qC]at hg;simp+decide only[evs,ev,VQ,Ka,hg,Qy,Bg,Ke,Vk]<;>try rfl))
 simp+decide only[qa,ev,qH,qG,putD,VO,VQ,VP,Ka,Kb,gv,qM,qC,↓QW,Qz,Qk,Xp,Xy,↓qd,qb];apply hK;clear hK K;refine qL ?_;refine Qb h zqC (qN (Qc)) ?_;simp+decide only[VQ,if_true,and_true,Qs];skip
theorem qlu(wz:World)(h:AHeap)(kx:Nat)(lf:Bool)(s:Str)(mv tv:AVal)(i:Int)(l:List TokC)(n:Nat)(v:AVal)(ws:List Str)(hv:IsStrs wz h v ws)(hws:ws.length<=1000)(hk:h kx=some ⟨[.bool lf, .str s,mv, .int .i64 i,tv],0⟩)(ht:IsL wz h 5 tv (l.map QI))(hn0:0<n)(hn1:n<=1000)(hl:l.length<=1099511627776):
 ACall Tryz.prog wz 129 [.ptr (.own kx) 0, .int .i64 n,v] h (fun r h'=>r= .bool (qcs l n ws)/\h'=h):=by
 by_cases hn:n<=l.length
 ·exact qys wz h kx lf s mv tv i l n v ws hv hws hk ht hn0 hn hl
 ·rw[qvD hn0 (by omega)]
  exact qyr wz h kx lf s mv tv i l n v hv.live hk ht (by omega) (by omega)
theorem qht{wz:World}{h:AHeap}{k:Nat}{l:List Str}(hk:h k=some ⟨l.map AVal.str,0⟩):IsStrs wz h (.slice (.own k) 0 l.length (.exact l.length)) l:=by
 have:=Ba (wz:=wz) (es:=1) (xs:=l.map fun s=>[AVal.str s]) hk (by simp) (by rw[qgk]) (by rw[YB];intro x hx;obtain⟨y,_,rfl⟩:=JH.1 hx;rfl) (.exact l.length) (by simp);rw[Jp]at this;exact this
theorem qpT(wz:World)(h:AHeap)(kx:Nat)(lf:Bool)(s:Str)(mv tv:AVal)(i:Int)(l:List TokC)(hk:h kx=some ⟨[.bool lf, .str s,mv, .int .i64 i,tv],0⟩)(ht:IsL wz h 5 tv (l.map QI))(hl:l.length<=1099511627776)(hq:qcs l 1 [IS]=true):
 ACall Tryz.prog wz 104 [.ptr (.own kx) 0] h (fun r h'=>r= .tuple [.bool (Yl l).1, .bool (Yl l).2]/\h'=h):=by
 refine qU (n:=15) (rs:=[.tmp 2, .tmp 3]) Tryz.func104 rfl rfl rfl rfl (VN rfl) ?_;simp only[Qg];refine awp_rseq [0] (by rfl) fun K hK=>?_;simp+decide only[qa,ev,qH,qG,putD,VO,VP,Ka,Kb,↓qd,qb];apply hK;clear hK K;refine qJ ?_;refine awp_rseq [0,6] (by rfl) fun K hK=>?_;simp+decide only[ev,putD,VO,VQ,Ka,Kb,↓qg,qc];refine Qr (cs:=[.str PIC, .str WV]) (by kernel_rfl) fun k1q1 hk1q1=>?_;try have hf_1q1:h k1q1=none:=by first|assumption|(simp only[V9]at hk1q1;simp only[hk1q1])
 refine qO (V:= .bool (qcs l 1 [PIC,WV])) (by rfl) (by rfl) (qlu wz _ kx lf s mv tv i l 1 _ [PIC,WV] (qht (l:=[PIC,WV]) (Ve _ _ _)) (by decide) ((Vh hk1q1) _ _ hk) (ht.mono (Vh hk1q1)) (by decide) (by decide) hl) ?_;simp+decide only[qa,putD,VO,VP,Ka];apply hK;clear hK K;refine qI (b:=_) rfl (fun hb1=>?_) (fun hb1=>?_)
 ·skip
  refine awp_rseq [2,3] (by rfl) fun K hK=>?_;simp+decide only[qa,ev,qH,qG,putD,VO,VP,Ka,Kb,↓qd,qb];apply hK;clear hK K;refine qL ?_;try simp only[Qe]
  refine Qb h zqC (qN (qN (Qc))) ?_;simp+decide only[VQ,Ka,and_true,WY];unfold Yl;rw[if_pos hb1]
 ·skip
  have hs1:Sub h (h.set k1q1 ⟨[.str PIC, .str WV],0⟩):=Vh hk1q1;refine qP ?_;change Awp _ _ _ _ _ _ _;refine awp_rseq [2,3] (by rfl) fun K hK=>?_;simp+decide only[ev,putD,VO,VQ,Ka,Kb,↓qg,qc];refine Qr (cs:=[.str IS]) (by kernel_rfl) fun k3q1 hk3q1=>?_;have ne_3q1_1q1:k3q1≠k1q1:=by simp only[V9]at hk3q1;simp only[hk3q1,ne_eq,not_false_eq_true]
  try have hf_3q1:h k3q1=none:=by first|assumption|(simp only[V9]at hk3q1;simp only[hk3q1])
  refine qO (V:= .bool true) (by rfl) (by rfl) (by rw[<-hq];exact qlu wz _ kx lf s mv tv i l 1 _ [IS] (qht (l:=[IS]) (Ve _ _ _)) (by decide) ((hs1.trans (Vh hk3q1)) _ _ hk) (ht.mono (hs1.trans (Vh hk3q1))) (by decide) (by decide) hl) ?_;simp+decide only[ev,putD,VO,VQ,Ka,Kb,↓qg,qc,↓Xf,agP,Qv,qM,qK,qC,implies_true,Qy,Qy];refine YM (by rfl) ?_;refine Qr (cs:=[.str PIC, .str WV]) (by kernel_rfl) fun k3q5 hk3q5=>?_;have ne_3q5_1q1:k3q5≠k1q1:=by simp only[V9]at hk3q5;simp only[hk3q5,ne_eq,not_false_eq_true]
  have ne_3q5_3q1:k3q5≠k3q1:=by simp only[V9]at hk3q5;simp only[hk3q5,ne_eq,not_false_eq_true]
  try have hf_3q5:h k3q5=none:=by first|assumption|(simp only[V9]at hk3q5;simp only[hk3q5])
  refine YM (by rfl) ?_;refine qO (V:= .bool (qcs l 2 [PIC,WV])) (by rfl) (by rfl) (qlu wz _ kx lf s mv tv i l 2 _ [PIC,WV] (qht (l:=[PIC,WV]) (Ve _ _ _)) (by decide) (((hs1.trans (Vh hk3q1)).trans (Vh hk3q5)) _ _ hk) (ht.mono ((hs1.trans (Vh hk3q1)).trans (Vh hk3q5))) (by decide) (by decide) hl) ?_;simp+decide only[qa,ev,qH,qG,putD,VO,VQ,VP,Ka,Kb,↓QW,Qz,Qk,↓qd,qb,Wl,cond_true];apply hK;clear hK K;refine qL ?_;refine Qb h zqC (qN (qN (Qc))) ?_;simp+decide only[VQ,Ka,and_true,WY];unfold Yl;rw[if_neg (by rw[hb1];decide),hq];rfl
theorem qpU(wz:World)(h:AHeap)(kx:Nat)(lf:Bool)(s:Str)(mv tv:AVal)(i:Int)(l:List TokC)(hk:h kx=some ⟨[.bool lf, .str s,mv, .int .i64 i,tv],0⟩)(ht:IsL wz h 5 tv (l.map QI))(hl:l.length<=1099511627776)(hq:qcs l 1 [IS]=false):
 ACall Tryz.prog wz 104 [.ptr (.own kx) 0] h (fun r h'=>r= .tuple [.bool (Yl l).1, .bool (Yl l).2]/\h'=h):=by
 refine qU (n:=15) (rs:=[.tmp 2, .tmp 3]) Tryz.func104 rfl rfl rfl rfl (VN rfl) ?_;simp only[Qg];refine awp_rseq [0] (by rfl) fun K hK=>?_;simp+decide only[qa,ev,qH,qG,putD,VO,VP,Ka,Kb,↓qd,qb];apply hK;clear hK K;refine qJ ?_;refine awp_rseq [0,6] (by rfl) fun K hK=>?_;simp+decide only[ev,putD,VO,VQ,Ka,Kb,↓qg,qc];refine Qr (cs:=[.str PIC, .str WV]) (by kernel_rfl) fun k1q1 hk1q1=>?_;try have hf_1q1:h k1q1=none:=by first|assumption|(simp only[V9]at hk1q1;simp only[hk1q1])
 refine qO (V:= .bool (qcs l 1 [PIC,WV])) (by rfl) (by rfl) (qlu wz _ kx lf s mv tv i l 1 _ [PIC,WV] (qht (l:=[PIC,WV]) (Ve _ _ _)) (by decide) ((Vh hk1q1) _ _ hk) (ht.mono (Vh hk1q1)) (by decide) (by decide) hl) ?_;simp+decide only[qa,putD,VO,VP,Ka];apply hK;clear hK K;refine qI (b:=_) rfl (fun hb1=>?_) (fun hb1=>?_)
 ·skip
  refine awp_rseq [2,3] (by rfl) fun K hK=>?_;simp+decide only[qa,ev,qH,qG,putD,VO,VP,Ka,Kb,↓qd,qb];apply hK;clear hK K;refine qL ?_;try simp only[Qe]
  refine Qb h zqC (qN (qN (Qc))) ?_;simp+decide only[VQ,Ka,and_true,WY];unfold Yl;rw[if_pos hb1]
 ·skip
  have hs1:Sub h (h.set k1q1 ⟨[.str PIC, .str WV],0⟩):=Vh hk1q1;refine qP ?_;change Awp _ _ _ _ _ _ _;refine awp_rseq [2,3] (by rfl) fun K hK=>?_;simp+decide only[ev,putD,VO,VQ,Ka,Kb,↓qg,qc];refine Qr (cs:=[.str IS]) (by kernel_rfl) fun k3q1 hk3q1=>?_;have ne_3q1_1q1:k3q1≠k1q1:=by simp only[V9]at hk3q1;simp only[hk3q1,ne_eq,not_false_eq_true]
  try have hf_3q1:h k3q1=none:=by first|assumption|(simp only[V9]at hk3q1;simp only[hk3q1])
  refine qO (V:= .bool false) (by rfl) (by rfl) (by rw[<-hq];exact qlu wz _ kx lf s mv tv i l 1 _ [IS] (qht (l:=[IS]) (Ve _ _ _)) (by decide) ((hs1.trans (Vh hk3q1)) _ _ hk) (ht.mono (hs1.trans (Vh hk3q1))) (by decide) (by decide) hl) ?_;simp+decide only[ev,putD,VO,VQ,Ka,Kb,↓qg,qc,↓Xf,agP,Qv,qM,qK,qC,implies_true,Zr];refine qaD (by rfl) (by rfl) ?_;try simp+decide only[putD,VO,if_false]
  (refine qaD (by rfl) (by rfl) ?_)
  simp+decide only[qa,ev,qH,qG,putD,VO,VQ,VP,Ka,Kb,↓QW,Qz,Qk,↓qd,qb];apply hK;clear hK K;refine qL ?_;refine Qb h zqC (qN (qN (Qc))) ?_;simp+decide only[VQ,Ka,and_true,WY];unfold Yl;rw[if_neg (by rw[hb1];decide),hq];rfl
theorem qlv(wz:World)(h:AHeap)(kx:Nat)(lf:Bool)(s:Str)(mv tv:AVal)(i:Int)(l:List TokC)(hk:h kx=some ⟨[.bool lf, .str s,mv, .int .i64 i,tv],0⟩)(ht:IsL wz h 5 tv (l.map QI))(hl:l.length<=1099511627776):
 ACall Tryz.prog wz 104 [.ptr (.own kx) 0] h (fun r h'=>r= .tuple [.bool (Yl l).1, .bool (Yl l).2]/\h'=h):=by
 cases hq:qcs l 1 [IS]with
 |true=>exact qpT wz h kx lf s mv tv i l hk ht hl hq
 |false=>exact qpU wz h kx lf s mv tv i l hk ht hl hq
theorem qgs(wz:World)(h:AHeap)(kx:Nat)(lf:Bool)(s:Str)(mv tv:AVal)(i n:Nat)(kd:UInt8)(eb_x:h kx=some ⟨[.bool lf, .str s,mv, .int .i64 i,tv],0⟩)(hn:i+n<=s.length)(hs:s.length<=1099511627776):
 ACall Tryz.prog wz 109 [.ptr (.own kx) 0, .int .u8 kd.toNat, .int .i64 n] h (fun r h'=>r=nxR (takeE s i kd n)/\h'=h):=by
 have hs_h:Sub h h:=Vm h;have hin:((i:Int)+n).toNat=i+n:=by omega
 have hid:i+n-i=n:=by omega
 refine qU (n:=28) (rs:=[.cell 6 54, .tmp 7, .tmp 8]) Tryz.func109 rfl rfl rfl rfl (VN rfl) ?_;simp only[Qg];refine awp_rseq [0,1,2,6] (by rfl) fun K hK=>?_;refine Qi qat (cs:=[.int .u8 0, .str [], .int .i64 0, .int .i64 0, .bool false]) (by rfl) fun k0q0 hk0q0=>?_;have hn_0q0:h k0q0=none:=by first|assumption|(simp only[V9]at hk0q0;simp only[hk0q0])
 have hf_0q0:h k0q0=none:=Bi hs_h hn_0q0;have ne_0q0_x:k0q0≠kx:=Bj hn_0q0 eb_x;simp+decide only[qa,ev,qH,qG,putD,VO,VP,Ka,Kb,↓qd,qb,Js,Nat.reduceAdd];apply hK;clear hK K;refine Wo 19 [18] [6,7,8] mixed (by kernel_rfl) (by rfl) fun K hK=>?_;simp only[Ki,V8,VE,KQ];simp+decide only[YK,ev,qH,qG,putD,VO,VQ,Ka,Kb,↓Zd,qc,↓Uh,qV,QA,↓Yd,ql,UK,WH,↓ZN,XU,qz ag9,WU,qz ag3,↓qfA,qm,qR,cond_false,qo,Xa,↓qpz,ZG,evO,qem Tryz.underlying9,qaU,qah,↓qac,↓Qa,qar,evP,Ke,Vk,QZ,ne_eq,not_false_eq_true,ne_0q0_x.symm,QB wz eb_x,VZ,Kn,Js,qi,qE,Vr];try simp(disch:=omega)only[wrap_i64]
 repeat (with_reducible refine And.intro ?_ ?_;· first|trivial|omega|(intro hg;simp only[Ky,JW,Jj,VS,VT,VU,decide_eq_true_eq,decide_eq_false_iff_not,XY]at hg;omega))
 refine qp (by rfl) (by rfl) zqA Xb (by rfl) (by rfl) zqD (Jt _) (by rfl) ?_;simp only[Vi,VX];simp+decide only[qa,ev,qH,qG,putD,VO,VQ,VP,Ka,Kb,↓qd,qb,setAt,VY,Kj,Js,Nat.reduceAdd,hin,hid];apply hK;clear hK K;refine qL ?_;refine Qb h zqC (?_) ?_
 ·simp+decide only[QG,qy,qj,VQ,Ka,and_true,qy,qj,qh ZB Xb,qZ,qf,VZ,Kn,Js,Nat.reduceAdd,qD,qi,qE,allLive,JU,qf,VZ,Kn,Js,Nat.reduceAdd,qD,qi,qE,allLive,JU]
 simp+decide only[VQ,Ka,and_true,QJ,qy,qj,qh ZB Xb,qZ,qf,VZ,Kn,Js,Nat.reduceAdd,qD,qi,qE,allLive,JU,qf,VZ,Kn,Js,Nat.reduceAdd,qD,qi,qE,allLive,JU,nxA,nxR];all_goals first|rfl|exact⟨rfl,rfl⟩|(simp+decide only[Ka, *];done)|(trace_state;fail)
theorem qBw(wz:World)(h:AHeap)(kx:Nat)(lf:Bool)(s:Str)(mv tv:AVal)(i:Nat)(l:List TokC)(hk:h kx=some ⟨[.bool lf, .str s,mv, .int .i64 i,tv],0⟩)(ht:IsL wz h 5 tv (l.map QI))(htx:∀c,IsL wz (h.set kx c) 5 tv (l.map QI))(hl:l.length<=1099511627776)(hs:s.length<=1099511627776)(hi:i<=s.length):
 ACall Tryz.prog wz 82 [.ptr (.own kx) 0] h (fun r h'=>r= .bool (decide (Yo s (Yl l).1 i<s.length))/\h'=h.set kx ⟨[.bool lf, .str s,mv, .int .i64 (Yo s (Yl l).1 i),tv],0⟩):=by
 obtain⟨j,hj⟩:∃j,j=Yo s (Yl l).1 i:=⟨_,rfl⟩
 have hjl:=qoU s (Yl l).1 i hi;rw[<-hj]at hjl|-
 refine qU (n:=56) (rs:=[.tmp 2]) Tryz.func82 rfl rfl rfl rfl (VN rfl) ?_;simp only[Qg];refine awp_rseq [0] (by rfl) fun K hK=>?_;simp+decide only[qa,ev,qH,qG,putD,VO,VP,Ka,Kb,↓qd,qb];apply hK;clear hK K;refine qnp ?_;refine awp_rseq [0,3] (by rfl) fun K hK=>?_;simp+decide only[ev,putD,VO,VQ,Ka,Kb,↓qg,qc];refine qO (V:= .tuple [.bool (Yl l).1, .bool (Yl l).2]) (by rfl) (by rfl) (qlv wz _ kx lf s mv tv i l hk ht hl) ?_;simp+decide only[qa,ev,putD,VO,VQ,VP,Ka,Kb,↓qg,qc,↓QY,QL,QV,KY,J9,VZ,Kn,↓qd,qb,VZ,Kn,Js,Nat.reduceAdd];apply hK;clear hK K;refine qJ ?_;refine qnr ?_;change Awp _ _ _ _ _ _ _;refine qJ ?_;refine Qm ?_;refine XC [0,3] (fun m:Nat=>[(0, .ptr (.own kx) 0),(3, .bool (Yl l).1)]) (fun m:Nat=>h.set kx ⟨[.bool lf, .str s,mv, .int .i64 m,tv],0⟩) (fun m:Nat=>m<=s.length/\Yo s (Yl l).1 m=j) (fun m:Nat=>s.length-m) i (by rfl) (by rw[YH hk];exact Vm _) ⟨hi,hj.symm⟩ ?_;rintro m ⟨hm1,hm2⟩;have hkm:=Ve h kx ⟨[.bool lf, .str s,mv, .int .i64 m,tv],0⟩;have rx:=fun o=>QB wz hkm o;refine qJ ?_;refine Zt [0,3,20] mixed (by kernel_rfl) (by rfl) (by rfl) fun K hK=>?_;simp+decide only[qa,ev,putD,VO,VQ,VP,Ka,Kb,↓qg,qc,↓Qo,qV,QA,↓qB,ql,WU,↓qF,qY,qz ag3,UK,WH,qz ag9,↓Xe,Qw,WB Tryz.underlying9,↓qw,qm,qR,cond_false,qo,XZ,VZ,Kn,Js,qi,qE,rx];apply hK;clear hK K;refine qI (b:=_) rfl (fun hb1=>?_) (fun hb1=>?_)
 ·try simp only[decide_eq_true_eq]at hb1
  have hml:m<s.length:=by omega
  refine qP ?_;change Awp _ _ _ _ _ _ _;refine Qm ?_;refine qJ ?_;refine Qm ?_;refine awp_rseq [0,3,21] (by rfl) fun K hK=>?_;simp+decide only[ev,putD,VO,VQ,Ka,Kb,↓qg,qc];refine qO (V:= .int .u8 (QF s m).toNat) (by rfl) (by rfl) (qdb wz _ kx lf s mv tv m hkm (by omega)) ?_;simp+decide only[qa,ev,qH,qG,putD,VO,VQ,VP,Ka,Kb,↓qw,qm,qA,cond_false,qo,Za,↓qd,qb];apply hK;clear hK K;refine qI (b:=_) rfl (fun hb2=>?_) (fun hb2=>?_)
  ·try simp only[decide_eq_true_eq]at hb2
   refine qP ?_;change Awp _ _ _ _ _ _ _;refine XW [0,3] (by rfl) ?_;simp+decide only[ev,qH,qG,putD,VO,VQ,Ka,Kb,↓qg,qc,↓Qo,qV,QA,↓qB,ql,WU,↓qF,qY,qz ag3,↓qw,qm,qA,cond_false,qo,Xa,VZ,Kn,Js,qi,rx];try simp(disch:=omega)only[wrap_i64]
   refine qp (by rfl) (by rfl) zqA sz3 (by rfl) (by rfl) zqD (Jt _) (by rfl) ?_;simp only[Vi,VX];simp+decide only[qa,ev,putD,VQ,VP,Ka,setAt,VY,Kj];try simp only[Qj,Yc]
   refine⟨m+1,rfl,Vm _,⟨by omega,?_⟩,by omega⟩;rw[<-hm2,qbm s (Yl l).1 m,if_neg (by omega),if_pos];unfold skp;first
   |exact .inl ((ZJ _ 32).mp hb2)
   |exact .inr ⟨hb3.1.1,hb3.1.2,(ZJ _ 32).mp hb3.2⟩
  ·try simp only[decide_eq_false_iff_not]at hb2
   refine awp_rseq [0,3,25] (by rfl) fun K hK=>?_;simp+decide only[ev,putD,VO,VQ,Ka,Kb,↓qg,qc,↓YI,Zl,YC,↓Xf,agP,Qv,qM,qK,qC,implies_true]
   (refine ZC (V:= .int .u8 (QF s m).toNat) (f:=_) (cap:=_) (xs:=_) (by first|rfl|(simp+decide only[gv,qM,VQ,Ka,Xg,qK])) (fun hg=>⟨rfl,?_⟩) (fun hg=>qdb wz _ kx lf s mv tv m hkm (by omega)) ?_;· (simp+decide only[gv,qM,VQ,Ka,qC]at hg;simp+decide only[evs,ev,VQ,Ka,hg,Qy,Bg,Ke,Vk,qH,qG]<;>try rfl))
   try simp+decide only[putD,VO,VQ,Ka,gv,qM,qC]
   (refine ZC (V:= .bool (qry (QF s m))) (f:=_) (cap:=_) (xs:=_) (by first|rfl|(simp+decide only[gv,qM,VQ,Ka,Xg,qK])) (fun hg=>⟨rfl,?_⟩) (fun hg=>qAV wz _ _) ?_;· (simp+decide only[gv,qM,VQ,Ka,qC]at hg;simp+decide only[evs,ev,VQ,Ka,hg,Qy,Bg,Ke,Vk]<;>try rfl))
   simp+decide only[ev,qH,qG,putD,VO,VQ,Ka,Kb,gv,qM,qC,↓QW,Qz,Qk,Xp,Xy,↓qg,qc,↓Xf,agP,Qv,qK,implies_true]
   (refine ZC (V:= .int .u8 (QF s (m+1)).toNat) (f:=_) (cap:=_) (xs:=_) (by first|rfl|(simp+decide only[gv,qM,VQ,Ka,Xg,qK])) (fun hg=>⟨rfl,?_⟩) (fun hg=>qag wz _ kx lf s mv tv m 1 hkm (by omega) (by omega) (by omega)) ?_;· (simp+decide only[gv,qM,VQ,Ka,qC]at hg;simp+decide only[evs,ev,VQ,Ka,hg,Qy,Bg,Ke,Vk,qH,qG]<;>try rfl))
   simp+decide only[qa,ev,qH,qG,putD,VO,VQ,VP,Ka,Kb,gv,qM,qC,↓Xd,qm,agP,Qv,qK,implies_true,qA,cond_false,Zv,Zw,qo,Za,↓QW,Qz,Qk,Xp,Xy,↓qd,qb];apply hK;clear hK K;refine qI (b:=_) rfl (fun hb3=>?_) (fun hb3=>?_)
   ·try simp only[decide_eq_true_eq,Jj,Ky]at hb3
    refine qP ?_;change Awp _ _ _ _ _ _ _;refine XW [0,3] (by rfl) ?_;simp+decide only[ev,qH,qG,putD,VO,VQ,Ka,Kb,↓qg,qc,↓Qo,qV,QA,↓qB,ql,WU,↓qF,qY,qz ag3,↓qw,qm,qA,cond_false,qo,Xa,VZ,Kn,Js,qi,rx];try simp(disch:=omega)only[wrap_i64]
    refine qp (by rfl) (by rfl) zqA sz3 (by rfl) (by rfl) zqD (Jt _) (by rfl) ?_;simp only[Vi,VX];simp+decide only[qa,ev,putD,VQ,VP,Ka,setAt,VY,Kj];try simp only[Qj,Yc]
    refine⟨m+1,rfl,Vm _,⟨by omega,?_⟩,by omega⟩;rw[<-hm2,qbm s (Yl l).1 m,if_neg (by omega),if_pos];unfold skp;first
    |exact .inl ((ZJ _ 32).mp hb2)
    |exact .inr ⟨hb3.1.1,hb3.1.2,(ZJ _ 32).mp hb3.2⟩
   ·try simp only[decide_eq_false_iff_not,VU,VS]at hb3
    refine XE ?_;change Awp _ _ _ _ _ _ _;refine Zt [2] mixed (by kernel_rfl) (by rfl) (by rfl) fun K hK=>?_;simp+decide only[qa,ev,putD,VO,VQ,VP,Ka,Kb,↓qg,qc,↓Qo,qV,QA,↓qB,ql,WU,↓qF,qY,qz ag3,UK,WH,qz ag9,↓Xe,Qw,WB Tryz.underlying9,↓qw,qm,qR,cond_false,qo,XZ,↓qd,qb,VZ,Kn,Js,qi,qE,rx];apply hK;clear hK K;refine qL ?_;try simp only[WF]
    refine QD (qN (Qc)) ?_;simp+decide only[VQ,if_true,Qs];have hns:¬skp s (Yl l).1 m:=by
     unfold skp;rintro(q|⟨q1,q2,q3⟩)
     ·exact hb2 ((ZJ _ 32).mpr q)
     ·rcases hb3 with(q|q)|q
      ·rw[q1]at q;cases q
      ·rw[q2]at q;cases q
      ·exact q ((ZJ _ 32).mpr q3)
    have e:m=j:=by
     rw[<-hm2,qbm,if_neg (by omega),if_neg hns]
    rw[e];exact⟨_,Vm _,by simp,rfl⟩
 ·try simp only[decide_eq_false_iff_not]at hb1
  refine XE ?_;change Awp _ _ _ _ _ _ _;refine Zt [2] mixed (by kernel_rfl) (by rfl) (by rfl) fun K hK=>?_;simp+decide only[qa,ev,putD,VO,VQ,VP,Ka,Kb,↓qg,qc,↓Qo,qV,QA,↓qB,ql,WU,↓qF,qY,qz ag3,UK,WH,qz ag9,↓Xe,Qw,WB Tryz.underlying9,↓qw,qm,qR,cond_false,qo,XZ,↓qd,qb,VZ,Kn,Js,qi,qE,rx];apply hK;clear hK K;refine qL ?_;try simp only[WF]
  refine QD (qN (Qc)) ?_;simp+decide only[VQ,if_true,Qs];have e:m=j:=by
   rw[<-hm2,qbm,if_pos (by omega)]
  rw[e];exact⟨_,Vm _,by simp,rfl⟩
def qCd:List AVal:=[.int .u8 0, .str [], .int .i64 0, .int .i64 0, .bool false]
theorem qcI:∀(s:Str) (c:UInt8),decide (0<=Lib.indexByte s c)=s.contains c
 |[],c=>rfl
 |b::s,c=>by
  have ih:=qcI s c;rw[List.contains_cons,<-ih,Lib.indexByte];by_cases h:b=c
  ·subst h
   simp
  ·have h1:(b==c)=false:=by simp[h]
   have h2:(c==b)=false:=by simp[Ne.symm h]
   rw[h1,h2,if_neg (by decide),Bool.false_or];apply decide_eq_decide.2;by_cases e:Lib.indexByte s c= -1
   ·rw[e,if_pos (by decide)]
   ·rw[if_neg (by simpa using e)]
    have: -1<=Lib.indexByte s c:=by
     clear ih h h1 h2 e b;induction s with
     |nil=>show(-1:Int)<= -1;decide
     |cons b s ih=>
      rw[Lib.indexByte];split
      ·decide
      ·split
       ·decide
       ·omega
    omega
theorem qBJ(wz:World)(h:AHeap)(s:Str)(c:UInt8):ACall Tryz.prog wz 134 [.str s, .str [c]] h (fun v h'=>v= .bool (s.contains c)/\h'=h):=by
 refine Yr (vals:=[.string ⟨⟨s⟩⟩, .string ⟨⟨[c]⟩⟩]) (val:= .bool (s.contains c)) Tryz.func134 rfl rfl (fun fi vs hv=>qfL hv) (fun fi=>rfl) fun w=>?_;refine(Tryz.strings_Contains_one ⟨⟨s⟩⟩ c w).mono fun e w' ⟨e1,e2⟩=>⟨?_,?_⟩
 ·rw[e1]
  show Ending.returned (.bool (decide (0<=Lib.indexByte s c)))=_
  rw[qcI]
 ·subst e2;exact Go.RowKit.Below.refl _ _
theorem qsr(wz:World)(h:AHeap)(s g:Str):ACall Tryz.prog wz 95 [.str s, .str g] h (fun v h'=>v= .bool (g.isPrefixOf s)/\h'=h):=by
 refine Yr (vals:=[.string ⟨⟨s⟩⟩, .string ⟨⟨g⟩⟩]) (val:= .bool (g.isPrefixOf s)) Tryz.func95 rfl rfl (fun fi vs hv=>qfL hv) (fun fi=>rfl) fun w=>?_;refine(Tryz.strings_HasPrefix ⟨⟨s⟩⟩ ⟨⟨g⟩⟩ w).mono fun e w' ⟨e1,e2⟩=>⟨e1,?_⟩
 subst e2;exact Go.RowKit.Below.refl _ _
theorem qtw(wz:World):IsFn wz 136 YS:=fun g b=>qly wz g b
theorem qzM(wz:World):IsFn wz 111 Yf:=fun g b=>qio wz g b
theorem qwY(wz:World):IsFn wz 131 qbj:=by
 intro h b;refine qU (n:=9) (rs:=[.tmp 2]) Tryz.func131 rfl rfl rfl rfl (VN rfl) ?_;simp only[Qg];refine awp_rseq [0] (by rfl) fun K hK=>?_;simp+decide only[qa,ev,qH,qG,putD,VO,VP,Ka,Kb,↓qd,qb];apply hK;clear hK K;refine awp_rseq [2] (by rfl) fun K hK=>?_;simp+decide only[ev,qH,qG,putD,VO,VQ,Ka,Kb,↓qg,qc,↓qw,qm,qA,cond_false,qo,Za,↓Xf,agP,Qv,qM,qK,Qh,implies_true]
 (refine ZC (V:= .bool (qry b)) (f:=_) (cap:=_) (xs:=_) (by first|rfl|(simp+decide only[gv,qM,VQ,Ka,Xg,qK])) (fun hg=>⟨rfl,?_⟩) (fun hg=>qAV wz _ b) ?_;· (simp+decide only[gv,qM,VQ,Ka,Qh]at hg;simp+decide only[evs,ev,VQ,Ka,hg,Qy,Bg,Ke,Vk]<;>try rfl))
 simp+decide only[qa,ev,qH,qG,putD,VO,VQ,VP,Ka,Kb,gv,qM,Qh,↓QW,Qz,Qk,ZA,ZO,↓qd,qb];apply hK;clear hK K;refine qL ?_;refine Qb _ (Vm _) (qN (Qc)) ?_;simp+decide only[VQ,if_true,and_true,Qs];have e1:decide ((b.toNat:Int)=46)=decide (b=46):=decide_eq_decide.2 (iff_of_eq (ZJ b 46));unfold qbj;rw[e1]
theorem qCy(wz:World):IsFn wz 133 (fun b=> !decide (b=32)):=by
 intro h b;refine qU (n:=5) (rs:=[.tmp 2]) Tryz.func133 rfl rfl rfl rfl (VN rfl) ?_;simp only[Qg];refine awp_rseq [0] (by rfl) fun K hK=>?_;simp+decide only[qa,ev,qH,qG,putD,VO,VP,Ka,Kb,↓qd,qb];apply hK;clear hK K;refine awp_rseq [2] (by rfl) fun K hK=>?_;simp+decide only[qa,ev,qH,qG,putD,VO,VQ,VP,Ka,Kb,↓qg,qc,↓qw,qm,qA,cond_false,qo,Un,↓qd,qb];apply hK;clear hK K;refine qL ?_;refine Qb _ (Vm _) (qN (Qc)) ?_;simp+decide only[VQ,if_true,and_true,Qs];have e1:decide ((b.toNat:Int)=32)=decide (b=32):=decide_eq_decide.2 (iff_of_eq (ZJ b 32));rw[<-e1]
theorem qph{s:Str}{i:Nat}{is:Bool}(hc:¬(is=true/\Wh [QF s i,QF s (i+1)]=IS/\Yf (QF s (i+2))=false))(n0:Nat)(hn:n0=Uf s i (fun b=> !decide (b=32)))(m:Nat)(hm:(m:Int)=if qbj (QF s ((i:Int)+n0-1))=true then(n0:Int)-1 else n0):
 Wz s i is=if m=0\/qbj (QF s ((i:Int)+m-1))=true then .err 4 else if (Wh ((s.drop i).take m)).contains 34=true then .err 4 else⟨4,Wh ((s.drop i).take m),m,0⟩:=by
 unfold Wz;rw[if_neg hc];simp only;rw[<-hn,<-hm,Vr];by_cases h0:m=0
 ·rw[if_pos (.inl (by omega)),if_pos (.inl h0)]
 ·by_cases h1:qbj (QF s ((i:Int)+m-1))=true
  ·rw[if_pos (.inr h1),if_pos (.inr h1)]
  ·have f1:¬((m:Int)=0\/qbj (QF s ((i:Int)+m-1))=true):=fun q=>q.elim (fun q=>h0 (by omega)) h1
   have f2:¬(m=0\/qbj (QF s ((i:Int)+m-1))=true):=fun q=>q.elim h0 h1;rw[if_neg f1,if_neg f2]
theorem qkK(wz:World)(h B:AHeap)(hs_B:Sub h B)(kx k0q0:Nat)(lf:Bool)(s:Str)(mv tv:AVal)(i:Nat)(is:Bool)(eb_x:B kx=some ⟨[.bool lf, .str s,mv, .int .i64 i,tv],0⟩)(eb_0q0:B k0q0=some ⟨qCd,0⟩)(hf_0q0:h k0q0=none)(ne_0q0_x:k0q0≠kx)(h32:QF s i≠32)(hs:s.length<=1099511627776)
 (hc:¬(is=true/\Wh [QF s i,QF s (i+1)]=IS/\Yf (QF s (i+2))=false)):
 Awp Tryz.prog wz 68 (UL 2 (qeB Tryz.f107)) (qeg Tryz.prog wz [.cell 4 54, .tmp 5, .tmp 6] ((fun r h'=>r=nxR (Wz s i is)/\h'=h))) [(0, .ptr (.own kx) 0),(4, .ptr (.own k0q0) 0)] (B):=by
 have hi:=qcA h32;have hp:=qtR h32;have hrl:=qef s i (fun b=> !decide (b=32)) (by omega);obtain⟨n0,hn0⟩:∃n0,n0=Uf s i (fun b=> !decide (b=32)):=⟨_,rfl⟩
 rw[<-hn0]at hp hrl;unfold qCd at eb_0q0;change Awp _ _ _ (Code.seq _ _) _ _ _;refine awp_rseq [0,4,7] (by rfl) fun K hK=>?_;simp+decide only[qa,ev,putD,VO,VP,Ka,Kb,↓qd,qb];apply hK;clear hK K;refine awp_rseq [0,4,7,8] (by rfl) fun K hK=>?_;simp+decide only[ev,putD,VO,VQ,Ka,Kb,↓qg,qc];refine qO (V:= .int .i64 n0) (by rfl) (by rfl) (by rw[hn0];exact qyy wz B kx lf s mv tv i _ _ (qCy wz) eb_x (by omega) hs) ?_;simp+decide only[qa,ev,putD,VO,VQ,VP,Ka,Kb,↓qd,qb];apply hK;clear hK K;refine qJ ?_;refine awp_rseq [0,4,7,8,36] (by rfl) fun K hK=>?_;simp+decide only[ev,qH,qG,putD,VO,VQ,Ka,Kb,↓qg,qc,↓qw,qm,qA,cond_false,qo,qaI];try simp(disch:=omega)only[wrap_i64]
 refine qO (V:= .int .u8 (QF s ((i:Int)+n0-1)).toNat) (by rfl) (by rfl) (by have:=qag wz B kx lf s mv tv i ((n0:Int)-1) eb_x (by omega) (by omega) (by omega);rwa [<-Bl]at this) ?_;refine qO (V:= .bool (qbj (QF s ((i:Int)+n0-1)))) (by rfl) (by rfl) (qwY wz _ _) ?_;simp+decide only[qa,putD,VO,VP,Ka];apply hK;clear hK K;refine UH [0,4,7,8] (fun m:Nat=>[(0, .ptr (.own kx) 0),(4, .ptr (.own k0q0) 0),(7, .func 131 []),(8, .int .i64 m)]) (fun m:Nat=>B) (fun m:Nat=>(m:Int)=if qbj (QF s ((i:Int)+n0-1))=true then(n0:Int)-1 else n0) ?_ ?_
 ·refine qI (b:=_) rfl (fun hb1=>?_) (fun hb1=>?_)
  ·skip
   refine XW [0,4,7,8] (by rfl) ?_;simp+decide only[qa,ev,qH,qG,putD,VO,VQ,VP,Ka,Kb,↓qg,qc,↓qw,qm,qA,cond_false,qo,qaI,↓qd,qb,nxA,nxR];try simp(disch:=omega)only[wrap_i64]
   try simp only[Qj]
   first
   |exact⟨n0-1,by rw[show((n0-1:Nat):Int)=(n0:Int)-1 by omega];rfl,Vm _,by rw[if_pos hb1];omega⟩
   |exact⟨n0,rfl,Vm _,by rw[if_neg (by rw[hb1];decide)]⟩
  ·skip
   refine qP ?_;try simp only[Qj]
   first
   |exact⟨n0-1,by rw[show((n0-1:Nat):Int)=(n0:Int)-1 by omega];rfl,Vm _,by rw[if_pos hb1];omega⟩
   |exact⟨n0,rfl,Vm _,by rw[if_neg (by rw[hb1];decide)]⟩
 ·intro m hm
  have hm1:m<=n0:=by
   have:(m:Int)<=n0:=by rw[hm];split<;>omega
   omega
  have hpe:=qph hc n0 hn0 m hm;rw[hpe];refine qJ ?_;refine awp_rseq [0,4,8,48] (by rfl) fun K hK=>?_;simp+decide only[ev,qH,qG,putD,VO,VQ,Ka,Kb,↓qg,qc,↓qw,qm,qA,cond_false,qo,Za,↓Xf,agP,Qv,qM,qK,Qh,implies_true,↓Xd,Zv,Zw,qaI];try simp(disch:=omega)only[wrap_i64]
  (refine ZC (V:= .int .u8 (QF s ((i:Int)+m-1)).toNat) (f:=_) (cap:=_) (xs:=_) (by first|rfl|(simp+decide only[gv,qM,VQ,Ka,Xg,qK])) (fun hg=>⟨rfl,?_⟩) (fun hg=>by have:=qag wz B kx lf s mv tv i ((m:Int)-1) eb_x (by omega) (by omega) (by omega);rwa [<-Bl]at this) ?_;· (simp+decide only[gv,qM,VQ,Ka,Qh]at hg;simp+decide only[evs,ev,VQ,Ka,hg,Qy,Bg,Ke,Vk]<;>try rfl))
  try simp+decide only[putD,VO,VQ,Ka,gv,qM,Qh]
  (refine ZC (V:= .bool (qbj (QF s ((i:Int)+m-1)))) (f:=_) (cap:=_) (xs:=_) (by first|rfl|(simp+decide only[gv,qM,VQ,Ka,Xg,qK])) (fun hg=>⟨by(try simp+decide only[gv,qM,VQ,Ka,Qh]at hg);simp+decide only[ev,VQ,Ka,hg,Qy];try rfl,?_⟩) (fun hg=>qwY wz _ _) ?_;· (simp+decide only[gv,qM,VQ,Ka,Qh]at hg;simp+decide only[evs,ev,VQ,Ka,hg,Qy,Bg,Ke,Vk]<;>try rfl))
  simp+decide only[qa,ev,qH,qG,putD,VO,VQ,VP,Ka,Kb,gv,qM,Qh,↓QW,Qz,Qk,ZA,ZO];apply hK;clear hK K;refine qI (b:=_) rfl (fun hb2=>?_) (fun hb2=>?_)
  ·try simp only[decide_eq_true_eq,JW]at hb2
   have hb2':m=0\/qbj (QF s ((i:Int)+m-1))=true:=hb2.imp (fun q=>by omega) id;rw[if_pos hb2'];refine awp_rseq [4,5,6] (by rfl) fun K hK=>?_;simp+decide only[ev,qH,qG,putD,VO,VQ,if_false,Kb,↓Qu,↓Qa,qbY,evP,Vk];refine qp (by rfl) (by rfl) zqA Xb (by rfl) (by rfl) zqD (Jt _) (by rfl) ?_;simp only[VX];simp+decide only[qa,ev,qH,qG,putD,VO,VQ,VP,Ka,Kb,↓qd,qb,setAt,VY,Kj,Js,Nat.reduceAdd];apply hK;clear hK K;refine qL ?_;try simp only[Qe]
   refine Qb h zqC (?_) ?_
   ·simp+decide only[QG,qy,qj,VQ,Ka,and_true,qy,qj,qh ZB Xb,qZ,qf,VZ,Kn,Js,Nat.reduceAdd,qD,qi,qE,allLive,JU,qf,VZ,Kn,Js,Nat.reduceAdd,qD,qi,qE,allLive,JU]
   simp+decide only[VQ,Ka,and_true,QJ,qy,qj,qh ZB Xb,qZ,qf,VZ,Kn,Js,Nat.reduceAdd,qD,qi,qE,allLive,JU,qf,VZ,Kn,Js,Nat.reduceAdd,qD,qi,qE,allLive,JU,nxA,nxR];all_goals first|rfl|exact⟨rfl,rfl⟩|(simp+decide only[Ka, *];done)|(trace_state;fail)
  ·try simp only[decide_eq_false_iff_not,VT]at hb2
   have hb2':¬(m=0\/qbj (QF s ((i:Int)+m-1))=true):=fun q=>q.elim (fun q=>hb2.1 (by omega)) (fun q=>by rw[hb2.2]at q;cases q);rw[if_neg hb2'];refine qP ?_;change Awp _ _ _ _ _ _ _;refine awp_rseq [4,8,9,10] (by rfl) fun K hK=>?_;simp+decide only[ev,putD,VO,VQ,Ka,Kb,↓qg,qc];refine qO (V:=nxR (takeE s i 4 m)) (by rfl) (by rfl) (qgs wz B kx lf s mv tv i m 4 eb_x (by omega) hs) ?_;simp+decide only[ev,putD,VO,VQ,Ka,Kb,↓qg,qc,↓QY,QL,QV,KY,J9,VZ,Kn,VZ,Kn,Js,Nat.reduceAdd,nxA,nxR];refine Qi qat (cs:=[.int .u8 0, .str [], .int .i64 0, .int .i64 0, .bool false]) (by rfl) fun k9q7 hk9q7=>?_;have hn_9q7:B k9q7=none:=by first|assumption|(simp only[V9]at hk9q7;simp only[hk9q7])
   have hf_9q7:h k9q7=none:=Bi hs_B hn_9q7;have ne_9q7_x:k9q7≠kx:=Bj hn_9q7 eb_x;have ne_9q7_0q0:k9q7≠k0q0:=Bj hn_9q7 eb_0q0;refine qp (by rfl) (by rfl) zqA Xb (by rfl) (by rfl) zqD (Jt _) (by rfl) ?_;simp only[Vi,VX];simp+decide only[qa,ev,putD,VO,VQ,VP,Ka,Kb,↓qd,qb,setAt,VY,Kj,Js,Nat.reduceAdd];apply hK;clear hK K;refine awp_rseq [4,8,9,10] (by rfl) fun K hK=>?_;simp+decide only[ev,putD,VO,VQ,Ka,Kb,↓qB,ql,Uu,↓qF,qY,qz ag9,QT,VZ,Kn,Js,qE];refine qO (V:= .str (Wh ((s.drop i).take m))) (by rfl) (by rfl) (by rw[<-qnW];exact qsy wz _ ((s.drop i).take m) (by rw[K5];omega)) ?_;simp+decide only[ev,putD,VO,VQ,Ka,Kb,↓qB,ql,Uu,Js];refine qp (by rfl) (by rfl) zqA sz9 (by rfl) (by rfl) zqD (Jt _) (by rfl) ?_;simp only[Vi,VX];simp+decide only[qa,ev,putD,VQ,VP,Ka,setAt,VY,Kj];apply hK;clear hK K;refine qJ ?_;refine awp_rseq [4,8,9,10,63] (by rfl) fun K hK=>?_;simp+decide only[ev,putD,VO,VQ,Ka,Kb,↓qB,ql,Uu,↓qF,qY,qz ag9,QT,VZ,Kn,Js,qE];refine qO (V:= .bool ((Wh ((s.drop i).take m)).contains 34)) (by rfl) (by rfl) (qBJ wz _ _ 34) ?_;simp+decide only[qa,putD,VO,VP,Ka];apply hK;clear hK K;refine qI (b:=_) rfl (fun hb3=>?_) (fun hb3=>?_)
   ·skip
    refine awp_rseq [4,5,6] (by rfl) fun K hK=>?_;simp+decide only[ev,qH,qG,putD,VO,VQ,if_false,Kb,↓Qu,↓Qa,qbY,evP,Vk];refine qp (by rfl) (by rfl) zqA Xb (by rfl) (by rfl) zqD (Jt _) (by rfl) ?_;simp only[VX];simp+decide only[qa,ev,qH,qG,putD,VO,VQ,VP,Ka,Kb,↓qd,qb,setAt,VY,Kj,Js,Nat.reduceAdd];apply hK;clear hK K;refine qL ?_;try simp only[Qe]
    refine Qb h zqC (?_) ?_
    ·simp+decide only[QG,qy,qj,VQ,Ka,and_true,qy,qj,qh ZB Xb,qZ,qf,VZ,Kn,Js,Nat.reduceAdd,qD,qi,qE,allLive,JU,qf,VZ,Kn,Js,Nat.reduceAdd,qD,qi,qE,allLive,JU]
    simp+decide only[VQ,Ka,and_true,QJ,qy,qj,qh ZB Xb,qZ,qf,VZ,Kn,Js,Nat.reduceAdd,qD,qi,qE,allLive,JU,qf,VZ,Kn,Js,Nat.reduceAdd,qD,qi,qE,allLive,JU,nxA,nxR];rw[if_pos hb3];rfl
   ·skip
    refine qP ?_;change Awp _ _ _ _ _ _ _;refine awp_rseq [4,5,6] (by rfl) fun K hK=>?_;simp+decide only[ev,putD,VO,VQ,Ka,Kb,↓qF,qY,qh ZB Xb,↓qg,qc,QT,qf,VZ,Kn,Js,Nat.reduceAdd,qD,qi,qE,allLive,JU];refine qp (by rfl) (by rfl) zqA Xb (by rfl) (by rfl) zqD (Jt _) (by rfl) ?_;simp only[VX];simp+decide only[qa,ev,putD,VO,VQ,VP,Ka,Kb,↓qd,qb,setAt,VY,Kj,Js,Nat.reduceAdd];apply hK;clear hK K;refine qL ?_;refine Qb h zqC (?_) ?_
    ·simp+decide only[QG,qy,qj,VQ,Ka,and_true,qy,qj,qh ZB Xb,qZ,qf,VZ,Kn,Js,Nat.reduceAdd,qD,qi,qE,allLive,JU,qf,VZ,Kn,Js,Nat.reduceAdd,qD,qi,qE,allLive,JU]
    simp+decide only[VQ,Ka,and_true,QJ,qy,qj,qh ZB Xb,qZ,qf,VZ,Kn,Js,Nat.reduceAdd,qD,qi,qE,allLive,JU,qf,VZ,Kn,Js,Nat.reduceAdd,qD,qi,qE,allLive,JU,nxA,nxR];rw[if_neg (by rw[hb3];decide)];rfl
theorem qst(wz:World)(h:AHeap)(kx:Nat)(lf:Bool)(s:Str)(mv tv:AVal)(i:Nat)(eb_x:h kx=some ⟨[.bool lf, .str s,mv, .int .i64 i,tv],0⟩)(h32:QF s i≠32)(hs:s.length<=1099511627776):
 ACall Tryz.prog wz 107 [.ptr (.own kx) 0, .bool false] h (fun r h'=>r=nxR (Wz s i false)/\h'=h):=by
 have hs_h:Sub h h:=Vm h;refine qU (n:=68) (rs:=[.cell 4 54, .tmp 5, .tmp 6]) Tryz.func107 rfl rfl rfl rfl (VN rfl) ?_;simp only[Qg];refine awp_rseq [0,1,4] (by rfl) fun K hK=>?_;refine Qi qat (cs:=[.int .u8 0, .str [], .int .i64 0, .int .i64 0, .bool false]) (by rfl) fun k0q0 hk0q0=>?_;have hn_0q0:h k0q0=none:=by first|assumption|(simp only[V9]at hk0q0;simp only[hk0q0])
 have hf_0q0:h k0q0=none:=Bi hs_h hn_0q0;have ne_0q0_x:k0q0≠kx:=Bj hn_0q0 eb_x;simp+decide only[qa,ev,qH,qG,putD,VO,VP,Ka,Kb,↓qd,qb,Js];apply hK;clear hK K;refine qJ ?_;refine awp_rseq [0,4,27] (by rfl) fun K hK=>?_;simp+decide only[ev,putD,VO,VQ,Ka,Kb,↓qg,qc,↓Xf,agP,Qv,qM,qK,qC,implies_true,Zr];refine qaD (by rfl) (by rfl) ?_;simp+decide only[ev,putD,VO,VQ,Ka,Kb,qM,qC,↓Xf,qc,agP,Qv,qK,implies_true,Zr];refine qaD (by rfl) (by rfl) ?_;try simp+decide only[putD,VO,if_false]
 refine qaD (by rfl) (by rfl) ?_;try simp+decide only[putD,VO,if_false]
 refine qaD (by rfl) (by rfl) ?_;try simp+decide only[putD,VO,if_false]
 refine qaD (by rfl) (by rfl) ?_;simp+decide only[ev,qH,qG,putD,VO,VQ,Ka,Kb,qM,qC,↓Xd,qm,agP,Qv,qK,implies_true,Zr,false_implies,UU,WO,cond_false,↓QW,Qz,Qk,↓qg,qc,↓Xf]
 (refine qaD (by rfl) (by rfl) ?_)
 try simp+decide only[putD,VO,if_false]
 (refine qaD (by rfl) (by rfl) ?_)
 simp+decide only[qa,ev,qH,qG,putD,VO,VQ,VP,Ka,Kb,qM,qC,↓qde,Zl,agP,Qv,qK,Zr,false_implies,UU,↓QW,Qz,Qk];apply hK;clear hK K;refine qI (b:=_) rfl (fun hb1=>?_) (fun hb1=>?_)
 ·exact absurd hb1 (by decide)
 ·try simp only at hb1
  refine qP ?_;change Awp _ _ _ _ _ _ _;refine Awp.keep [0,4] ?_;exact qkK wz h _ (Vh hk0q0) kx k0q0 lf s mv tv i false (zqA) (zqA) hk0q0 ne_0q0_x h32 hs (by rintro⟨q,_⟩;cases q)
theorem qss(wz:World)(h:AHeap)(kx:Nat)(lf:Bool)(s:Str)(mv tv:AVal)(i:Nat)(eb_x:h kx=some ⟨[.bool lf, .str s,mv, .int .i64 i,tv],0⟩)(h32:QF s i≠32)(hs:s.length<=1099511627776):
 ACall Tryz.prog wz 107 [.ptr (.own kx) 0, .bool true] h (fun r h'=>r=nxR (Wz s i true)/\h'=h):=by
 have hs_h:Sub h h:=Vm h;have hi:=qcA h32;have hcv:=fun(h:AHeap) (k:Nat)=>(IsB.own (wz:=wz) (bs:=[QF s i,QF s (i+1)]) (f:=0) (n:=2) (Ve h k ⟨byteCells [QF s i,QF s (i+1)],0⟩) rfl (c:= .exact 2) (KL 2)).conv Tryz.underlying22 Tryz.underlying9 Tryz.underlying5
 simp only[byteCells,Ke,Vk]at hcv;refine qU (n:=68) (rs:=[.cell 4 54, .tmp 5, .tmp 6]) Tryz.func107 rfl rfl rfl rfl (VN rfl) ?_;simp only[Qg];refine awp_rseq [0,1,4] (by rfl) fun K hK=>?_;refine Qi qat (cs:=[.int .u8 0, .str [], .int .i64 0, .int .i64 0, .bool false]) (by rfl) fun k0q0 hk0q0=>?_;have hn_0q0:h k0q0=none:=by first|assumption|(simp only[V9]at hk0q0;simp only[hk0q0])
 have hf_0q0:h k0q0=none:=Bi hs_h hn_0q0;have ne_0q0_x:k0q0≠kx:=Bj hn_0q0 eb_x;simp+decide only[qa,ev,qH,qG,putD,VO,VP,Ka,Kb,↓qd,qb,Js];apply hK;clear hK K;refine qJ ?_;refine awp_rseq [0,4,27] (by rfl) fun K hK=>?_;simp+decide only[ev,putD,VO,VQ,Ka,Kb,↓qg,qc,↓Xf,agP,Qv,qM,qK,qC,implies_true,Qy,Qy];refine YM (by rfl) ?_;refine qO (V:= .int .u8 (QF s i).toNat) (by rfl) (by rfl) (qdb wz _ kx lf s mv tv i (zqA) (by omega)) ?_;simp+decide only[ev,putD,VO,VQ,Ka,Kb,↓Xf,qc,agP,Qv,qM,qK,qC,implies_true,Qy,Qy];refine YM (by rfl) ?_;refine qO (V:= .int .u8 (QF s (i+1)).toNat) (by rfl) (by rfl) (qag wz _ kx lf s mv tv i 1 (zqA) (by omega) (by omega) (by omega)) ?_;refine YM (by rfl) ?_;refine Qr (cs:=[.int .u8 (QF s i).toNat, .int .u8 (QF s (i+1)).toNat]) (by kernel_rfl) fun k1q6 hk1q6=>?_;have ne_1q6_0q0:k1q6≠k0q0:=by simp only[V9]at hk1q6;simp only[hk1q6,ne_eq,not_false_eq_true]
 have hn_1q6:h k1q6=none:=by first|assumption|(simp only[V9]at hk1q6;simp only[hk1q6])
 have hf_1q6:h k1q6=none:=Bi hs_h hn_1q6;have ne_1q6_x:k1q6≠kx:=Bj hn_1q6 eb_x;simp+decide only[ev,putD,VO,VQ,Ka,Kb,↓qsO _ _ _ (qyb Tryz.underlying22 Tryz.underlying9),qfl,agP,Qv,qM,qK,qC,implies_true,Qy,Qy,hcv];refine YM (by rfl) ?_;refine qO (V:= .str (Wh [QF s i,QF s (i+1)])) (by rfl) (by rfl) (by rw[<-qnW];exact qsy wz _ [QF s i,QF s (i+1)] (by simp)) ?_;simp+decide only[ev,qH,qG,putD,VO,VQ,Ka,Kb,↓Xd,qm,agP,Qv,qM,qK,qC,implies_true,Qy,WO,cond_false,Zj,qep,↓QW,Qz,Qk,↓qg,qc,↓Xf,Qy,Wl,cond_true,cond_false]
 (refine ZC (V:= .int .u8 (QF s (i+2)).toNat) (f:=_) (cap:=_) (xs:=_) (by first|rfl|(simp+decide only[gv,qM,VQ,Ka,Xg,qK])) (fun hg=>⟨rfl,?_⟩) (fun hg=>qag wz _ kx lf s mv tv i 2 (zqA) (by omega) (by omega) (by omega)) ?_;· (simp+decide only[gv,qM,VQ,Ka,qC]at hg;simp+decide only[evs,ev,VQ,Ka,hg,Qy,Bg,Ke,Vk,qH,qG]<;>try rfl))
 try simp+decide only[putD,VO,VQ,Ka,gv,qM,qC]
 (refine ZC (V:= .bool (Yf (QF s (i+2)))) (f:=_) (cap:=_) (xs:=_) (by first|rfl|(simp+decide only[gv,qM,VQ,Ka,Xg,qK])) (fun hg=>⟨rfl,?_⟩) (fun hg=>qio wz _ _) ?_;· (simp+decide only[gv,qM,VQ,Ka,qC]at hg;simp+decide only[evs,ev,VQ,Ka,hg,Qy,Bg,Ke,Vk]<;>try rfl))
 simp+decide only[qa,ev,qH,qG,putD,VO,VQ,VP,Ka,Kb,gv,qM,qC,↓qde,Zl,agP,Qv,qK,implies_true,YC,qnd,qnh,↓QW,Qz,Qk,Xp,Wl];apply hK;clear hK K;refine qI (b:=_) rfl (fun hb1=>?_) (fun hb1=>?_)
 ·skip
  refine awp_rseq [4,5,6] (by rfl) fun K hK=>?_;simp+decide only[ev,qH,qG,putD,VO,VQ,if_false,Kb,↓Qu,↓Qa,qar,evP,Ke,Vk];refine qp (by rfl) (by rfl) zqA Xb (by rfl) (by rfl) zqD (Jt _) (by rfl) ?_;simp only[VX];simp+decide only[qa,ev,qH,qG,putD,VO,VQ,VP,Ka,Kb,↓qd,qb,setAt,VY,Kj,Js,Nat.reduceAdd];apply hK;clear hK K;refine qL ?_;try simp only[Qe]
  refine Qb h zqC (?_) ?_
  ·simp+decide only[QG,qy,qj,VQ,Ka,and_true,qy,qj,qh ZB Xb,qZ,qf,VZ,Kn,Js,Nat.reduceAdd,qD,qi,qE,allLive,JU,qf,VZ,Kn,Js,Nat.reduceAdd,qD,qi,qE,allLive,JU]
  simp+decide only[VQ,Ka,and_true,QJ,qy,qj,qh ZB Xb,qZ,qf,VZ,Kn,Js,Nat.reduceAdd,qD,qi,qE,allLive,JU,JU,qf,VZ,Kn,Js,Nat.reduceAdd,qD,qi,qE,allLive,JU,nxA,nxR];have hq:Wh [QF s i,QF s (i+1)]=IS/\Yf (QF s (i+2))=false:=by
   by_cases hd:Wh [QF s i,QF s (i+1)]=IS
   ·rw[decide_eq_true (show Wh [QF s i,QF s (i+1)]=[73,83]from hd)]at hb1
    exact⟨hd,by simpa using hb1⟩
   ·rw[decide_eq_false (show ¬Wh [QF s i,QF s (i+1)]=[73,83]from hd)]at hb1
    cases hb1
  unfold Wz;rw[if_pos ⟨rfl,hq.1,hq.2⟩];rfl
 ·skip
  refine qP ?_;change Awp _ _ _ _ _ _ _;refine Awp.keep [0,4] ?_;exact qkK wz h _ (zqB) kx k0q0 lf s mv tv i true (zqA) (zqA) hk0q0 ne_0q0_x h32 hs (fun q=>by rw[decide_eq_true (show Wh [QF s i,QF s (i+1)]=[73,83]from q.2.1),q.2.2]at hb1;cases hb1)
theorem qva(wz:World)(h:AHeap)(kx:Nat)(lf:Bool)(s:Str)(mv tv:AVal)(i:Nat)(is:Bool)(eb_x:h kx=some ⟨[.bool lf, .str s,mv, .int .i64 i,tv],0⟩)(h32:QF s i≠32)(hs:s.length<=1099511627776):
 ACall Tryz.prog wz 107 [.ptr (.own kx) 0, .bool is] h (fun r h'=>r=nxR (Wz s i is)/\h'=h):=by
 cases is with
 |true=>exact qss wz h kx lf s mv tv i eb_x h32 hs
 |false=>exact qst wz h kx lf s mv tv i eb_x h32 hs
set_option maxHeartbeats 400000 in
theorem qyC(wz:World)(h:AHeap)(kx:Nat)(lf:Bool)(s:Str)(mv tv:AVal)(i:Nat)(eb_x:h kx=some ⟨[.bool lf, .str s,mv, .int .i64 i,tv],0⟩)(hi:i<s.length)(hs:s.length<=1099511627776):
 ACall Tryz.prog wz 110 [.ptr (.own kx) 0] h (fun r h'=>r=nxR (WE s i)/\h'=h):=by
 have hs_h:Sub h h:=Vm h;have hsg:=Bool.toNat_le (WS s i);have hn1:=qAK hi;have hnl:=qmC hi;obtain⟨b0,h0⟩:∃b,b=QF s i:=⟨_,rfl⟩
 obtain⟨bm,hm⟩:∃b,b=QF s ((i:Int)+ -1):=⟨_,rfl⟩
 refine qU (n:=89) (rs:=[.cell 2 54, .tmp 3, .tmp 4]) Tryz.func110 rfl rfl rfl rfl (VN rfl) ?_;simp only[Qg];refine awp_rseq [0,2] (by rfl) fun K hK=>?_;refine Qi qat (cs:=[.int .u8 0, .str [], .int .i64 0, .int .i64 0, .bool false]) (by rfl) fun k0q0 hk0q0=>?_;have hn_0q0:h k0q0=none:=by first|assumption|(simp only[V9]at hk0q0;simp only[hk0q0])
 have hf_0q0:h k0q0=none:=Bi hs_h hn_0q0;have ne_0q0_x:k0q0≠kx:=Bj hn_0q0 eb_x;simp+decide only[qa,ev,qH,qG,putD,VO,VP,Ka,Kb,↓qd,qb];apply hK;clear hK K;refine awp_rseq [0,2,5] (by rfl) fun K hK=>?_;simp+decide only[qa,ev,qH,qG,putD,VO,VP,Ka,Kb,↓qd,qb];apply hK;clear hK K;refine awp_rseq [0,2,5,6] (by rfl) fun K hK=>?_;simp+decide only[ev,putD,VO,VQ,Ka,Kb,↓qg,qc];refine qO (V:= .int .u8 b0.toNat) (by rfl) (by rfl) (by rw[h0];exact qdb wz _ kx lf s mv tv i (zqA) (by omega)) ?_;simp+decide only[ev,qH,qG,putD,VO,VQ,Ka,Kb,↓qw,qm,qA,cond_false,qo,Za,↓qg,qc,↓Xf,agP,Qv,qM,qK,Qh,implies_true]
 (refine ZC (V:= .int .u8 b0.toNat) (f:=_) (cap:=_) (xs:=_) (by first|rfl|(simp+decide only[gv,qM,VQ,Ka,Xg,qK])) (fun hg=>⟨rfl,?_⟩) (fun hg=>by rw[h0];exact qdb wz _ kx lf s mv tv i (zqA) (by omega)) ?_;· (simp+decide only[gv,qM,VQ,Ka,Qh]at hg;simp+decide only[evs,ev,VQ,Ka,hg,Qy,Bg,Ke,Vk,qH,qG]<;>try rfl))
 simp+decide only[ev,qH,qG,putD,VO,VQ,Ka,Kb,gv,qM,qC,Qh,↓Xd,qm,agP,Qv,qK,implies_true,qA,cond_false,Zv,Zw,qo,Za,↓QW,Qz,Qk,ZA,ZO,↓qg,qc,↓Xf]
 (refine ZC (V:= .int .u8 bm.toNat) (f:=_) (cap:=_) (xs:=_) (by first|rfl|(simp+decide only[gv,qM,VQ,Ka,Xg,qK])) (fun hg=>⟨rfl,?_⟩) (fun hg=>by rw[hm];exact qag wz _ kx lf s mv tv i (-1) (zqA) (by omega) (by omega) (by omega)) ?_;· (simp+decide only[gv,qM,VQ,Ka,qC]at hg;simp+decide only[evs,ev,VQ,Ka,hg,Qy,Bg,Ke,Vk,qH,qG]<;>try rfl))
 simp+decide only[ev,qH,qG,putD,VO,VQ,Ka,Kb,gv,qM,qC,Qh,We,↓Xd,qm,agP,Qv,qK,Xg,qpK,implies_true,qA,cond_false,Zv,Zw,qo,Za,↓Xf,qc]
 (refine ZC (V:= .int .u8 bm.toNat) (f:=_) (cap:=_) (xs:=_) (by first|rfl|(simp+decide only[gv,qM,VQ,Ka,Xg])) (fun hg=>⟨rfl,?_⟩) (fun hg=>by rw[hm];exact qag wz _ kx lf s mv tv i (-1) (zqA) (by omega) (by omega) (by omega)) ?_;· (simp+decide only[gv,qM,VQ,Ka,Qh,We]at hg;simp+decide only[evs,ev,VQ,Ka,hg,Qy,Bg,Ke,Vk,qH,qG]<;>try rfl))
 simp+decide only[qa,ev,qH,qG,putD,VO,VQ,VP,Ka,Kb,gv,qM,qC,Qh,We,↓Xd,qm,agP,Qv,qK,Xg,implies_true,qA,cond_false,Zv,Zw,qo,Za,↓qdf,Qz,Qk,Xp,qym,Xy,ZO,qif,qih,↓QW,↓qd,qb];have hsv:((decide ((b0.toNat:Int)=43)||decide ((b0.toNat:Int)=45)) && (decide ((bm.toNat:Int)=32)||decide ((bm.toNat:Int)=40)))=WS s i:=by
  have e43:decide ((b0.toNat:Int)=43)=decide (b0=43):=decide_eq_decide.2 (iff_of_eq (ZJ _ 43));have e45:decide ((b0.toNat:Int)=45)=decide (b0=45):=decide_eq_decide.2 (iff_of_eq (ZJ _ 45));have e32:decide ((bm.toNat:Int)=32)=decide (bm=32):=decide_eq_decide.2 (iff_of_eq (ZJ _ 32));have e40:decide ((bm.toNat:Int)=40)=decide (bm=40):=decide_eq_decide.2 (iff_of_eq (ZJ _ 40));rw[e43,e45,e32,e40];unfold WS;rw[h0,hm,show(i:Int)+ -1=(i:Int)-1 by omega]
 rw[hsv];obtain⟨sg,hsg'⟩:∃sg,sg=WS s i:=⟨_,rfl⟩
 rw[<-hsg'];apply hK;clear hK K;refine qJ ?_;refine awp_rseq [0,2,5,6,27] (by rfl) fun K hK=>?_;simp+decide only[qa,ev,putD,VO,VQ,VP,Ka,Kb,↓qg,qc];apply hK;clear hK K;refine UH [0,2,5,6] (fun z:Unit=>[(0, .ptr (.own kx) 0),(2, .ptr (.own k0q0) 0),(5, .int .i64 sg.toNat),(6, .bool sg)]) (fun z:Unit=>h.set k0q0 ⟨[.int .u8 0, .str [], .int .i64 0, .int .i64 0, .bool false],0⟩) (fun z:Unit=>True) ?_ ?_
 ·refine qI (b:=_) rfl (fun hb1=>?_) (fun hb1=>?_)
  ·skip
   refine XW [0,2,5,6] (by rfl) ?_;simp+decide only[qa,ev,qH,qG,putD,VO,VQ,VP,Ka,Kb,and_true,↓qg,qc,↓qw,qm,qA,cond_false,qo,Xa,↓qd,qb,nxA,nxR];try simp(disch:=omega)only[wrap_i64]
   try simp only[Qj]
   first
   |exact⟨(),by rw[hb1];rfl,Vm _,trivial⟩
   |exact⟨(),by rw[hb1];rfl,Vm _⟩
  ·skip
   refine qP ?_;try simp only[Qj]
   first
   |exact⟨(),by rw[hb1];rfl,Vm _,trivial⟩
   |exact⟨(),by rw[hb1];rfl,Vm _⟩
 ·intro _ _
  rw[hsg']at*
  have hd0:d0E s i<=s.length:=qkB _ _ _;have hq1:((WS s i).toNat:Int)+d0E s i=(n1E s i:Nat):=by unfold n1E;omega
  have hnum:WE s i=qjR (Yf (QF s ((i:Int)+(n1E s i:Nat)))) (Yf (QF s ((i:Int)+(Us s i:Nat)))) (WS s i) (d0E s i) (qcD s i) (takeE s i 2 (Us s i)):=rfl;have hml:qpG s i=true->qcF s i<=s.length:=fun _=>qkB _ _ _;refine awp_rseq [0,2,5,6,7] (by rfl) fun K hK=>?_;simp+decide only[ev,putD,VO,VQ,Ka,Kb,↓qg,qc];refine qO (V:= .int .i64 (d0E s i)) (by rfl) (by rfl) (qyz wz _ kx lf s mv tv i (WS s i).toNat _ _ (qtw wz) (zqA) (by omega) (by omega) hs) ?_;simp+decide only[qa,ev,putD,VO,VQ,VP,Ka,Kb,↓qd,qb];apply hK;clear hK K;refine awp_rseq [0,2,5,6,7] (by rfl) fun K hK=>?_;simp+decide only[qa,ev,putD,VO,VQ,VP,Ka,Kb,↓qg,qc,↓qw,qm,qR,cond_false,qo,Xa,↓qd,qb];try simp(disch:=omega)only[wrap_i64]
  rw[hq1];apply hK;clear hK K;refine qJ ?_;refine awp_rseq [0,2,5,6,7,43] (by rfl) fun K hK=>?_;simp+decide only[ev,qH,qG,putD,VO,VQ,Ka,Kb,↓qg,qc,↓qw,qm,qA,cond_false,qo,qau,↓Xf,agP,Qv,qM,qK,qC,implies_true]
  (refine ZC (V:= .int .u8 (QF s ((i:Int)+(n1E s i:Nat))).toNat) (f:=_) (cap:=_) (xs:=_) (by first|rfl|(simp+decide only[gv,qM,VQ,Ka,Xg,qK])) (fun hg=>⟨rfl,?_⟩) (fun hg=>qag wz _ kx lf s mv tv i _ (zqA) (by omega) (by omega) (by omega)) ?_;· (simp+decide only[gv,qM,VQ,Ka,qC]at hg;simp+decide only[evs,ev,VQ,Ka,hg,Qy,Bg,Ke,Vk]<;>try rfl))
  try simp+decide only[putD,VO,VQ,Ka,gv,qM,qC]
  (refine ZC (V:= .bool (Yf (QF s ((i:Int)+(n1E s i:Nat))))) (f:=_) (cap:=_) (xs:=_) (by first|rfl|(simp+decide only[gv,qM,VQ,Ka,Xg,qK])) (fun hg=>⟨rfl,?_⟩) (fun hg=>qio wz _ _) ?_;· (simp+decide only[gv,qM,VQ,Ka,qC]at hg;simp+decide only[evs,ev,VQ,Ka,hg,Qy,Bg,Ke,Vk]<;>try rfl))
  simp+decide only[qa,ev,qH,qG,putD,VO,VQ,VP,Ka,Kb,gv,qM,qC,↓QW,Qz,Qk,Xp,Xy];apply hK;clear hK K;refine qI (b:=_) rfl (fun hb2=>?_) (fun hb2=>?_)
  ·try simp only[decide_eq_true_eq,Ky]at hb2
   have hb2':0<d0E s i/\Yf (QF s ((i:Int)+(n1E s i:Nat)))=true:=⟨by omega,hb2.2⟩
   refine qJ ?_;refine awp_rseq [2,44] (by rfl) fun K hK=>?_;simp+decide only[qa,ev,putD,VO,VQ,VP,Ka,Kb,↓qg,qc];apply hK;clear hK K;refine qI (b:=_) rfl (fun hb3=>?_) (fun hb3=>?_)
   ·skip
    refine awp_rseq [2,3,4] (by rfl) fun K hK=>?_;simp+decide only[ev,qH,qG,putD,VO,VQ,if_false,Kb,↓Qu,↓Qa,qbY,evP,Vk];refine qp (by rfl) (by rfl) zqA Xb (by rfl) (by rfl) zqD (Jt _) (by rfl) ?_;simp only[Vi,VX];simp+decide only[qa,ev,qH,qG,putD,VO,VQ,VP,Ka,Kb,↓qd,qb,setAt,VY,Kj,Js,Nat.reduceAdd];apply hK;clear hK K;refine qL ?_;try simp only[Qe]
    refine Qb h zqC (?_) ?_
    ·simp+decide only[QG,qy,qj,VQ,Ka,and_true,qy,qj,qh ZB Xb,qZ,qf,VZ,Kn,Js,Nat.reduceAdd,qD,qi,qE,allLive,JU,qf,VZ,Kn,Js,Nat.reduceAdd,qD,qi,qE,allLive,JU]
    simp+decide only[VQ,Ka,and_true,QJ,qy,qj,qh ZB Xb,qZ,qf,VZ,Kn,Js,Nat.reduceAdd,qD,qi,qE,allLive,JU,qf,VZ,Kn,Js,Nat.reduceAdd,qD,qi,qE,allLive,JU,nxA,nxR];rw[hnum];unfold qjR;rw[if_pos hb2',if_pos hb3];rfl
   ·skip
    refine qP ?_;change Awp _ _ _ _ _ _ _;refine awp_rseq [2,3,4] (by rfl) fun K hK=>?_;simp+decide only[ev,qH,qG,putD,VO,VQ,if_false,Kb,↓Qu,↓Qa,qbY,evP,Vk];refine qp (by rfl) (by rfl) zqA Xb (by rfl) (by rfl) zqD (Jt _) (by rfl) ?_;simp only[Vi,VX];simp+decide only[qa,ev,qH,qG,putD,VO,VQ,VP,Ka,Kb,↓qd,qb,setAt,VY,Kj,Js,Nat.reduceAdd];apply hK;clear hK K;refine qL ?_;try simp only[Qe]
    refine Qb h zqC (?_) ?_
    ·simp+decide only[QG,qy,qj,VQ,Ka,and_true,qy,qj,qh ZB Xb,qZ,qf,VZ,Kn,Js,Nat.reduceAdd,qD,qi,qE,allLive,JU,qf,VZ,Kn,Js,Nat.reduceAdd,qD,qi,qE,allLive,JU]
    simp+decide only[VQ,Ka,and_true,QJ,qy,qj,qh ZB Xb,qZ,qf,VZ,Kn,Js,Nat.reduceAdd,qD,qi,qE,allLive,JU,qf,VZ,Kn,Js,Nat.reduceAdd,qD,qi,qE,allLive,JU,nxA,nxR];rw[hnum];unfold qjR;rw[if_pos hb2',if_neg (by rw[hb3];decide)];rfl
  ·try simp only[decide_eq_false_iff_not,VS]at hb2
   have hb2':¬(0<d0E s i/\Yf (QF s ((i:Int)+(n1E s i:Nat)))=true):=fun q=>hb2.elim (fun z=>z (by omega)) (fun z=>by rw[q.2]at z;cases z);refine qP ?_;change Awp _ _ _ _ _ _ _;refine qJ ?_;refine awp_rseq [0,2,5,7,57] (by rfl) fun K hK=>?_;simp+decide only[ev,putD,VO,VQ,Ka,Kb,↓qg,qc];refine qO (V:= .int .u8 (QF s ((i:Int)+(n1E s i:Nat))).toNat) (by rfl) (by rfl) (qag wz _ kx lf s mv tv i _ (zqA) (by omega) (by omega) (by omega)) ?_;simp+decide only[ev,qH,qG,putD,VO,VQ,Ka,Kb,↓qw,qm,qA,cond_false,qo,Za,↓qg,qc,↓Xf,agP,Qv,qM,qK,qC,implies_true,↓Xd,Zv,Zw,Xa];try simp(disch:=omega)only[wrap_i64]
   (refine ZC (V:= .int .u8 (QF s ((i:Int)+((n1E s i:Nat)+1))).toNat) (f:=_) (cap:=_) (xs:=_) (by first|rfl|(simp+decide only[gv,qM,VQ,Ka,Xg,qK])) (fun hg=>⟨rfl,?_⟩) (fun hg=>qag wz _ kx lf s mv tv i ((n1E s i:Nat)+1) (zqA) (by omega) (by omega) (by omega)) ?_;· (simp+decide only[gv,qM,VQ,Ka,qC]at hg;simp+decide only[evs,ev,VQ,Ka,hg,Qy,Bg,Ke,Vk]<;>try rfl))
   try simp+decide only[putD,VO,VQ,Ka,gv,qM,qC]
   (refine ZC (V:= .bool (YS (QF s ((i:Int)+((n1E s i:Nat)+1))))) (f:=_) (cap:=_) (xs:=_) (by first|rfl|(simp+decide only[gv,qM,VQ,Ka,Xg,qK])) (fun hg=>⟨rfl,?_⟩) (fun hg=>qly wz _ _) ?_;· (simp+decide only[gv,qM,VQ,Ka,qC]at hg;simp+decide only[evs,ev,VQ,Ka,hg,Qy,Bg,Ke,Vk]<;>try rfl))
   simp+decide only[qa,ev,qH,qG,putD,VO,VQ,VP,Ka,Kb,gv,qM,qC,↓QW,Qz,Qk,Xp,Xy];have hdv:(decide (((QF s ((i:Int)+(n1E s i:Nat))).toNat:Int)=46) && YS (QF s ((i:Int)+((n1E s i:Nat)+1))))=qpG s i:=by
    have e46:decide (((QF s ((i:Int)+(n1E s i:Nat))).toNat:Int)=46)=decide (QF s ((i:Int)+(n1E s i:Nat))=46):=decide_eq_decide.2 (iff_of_eq (ZJ _ 46));rw[e46,<-Int.add_assoc];rfl
   rw[hdv];apply hK;clear hK K;refine UH [0,2,5,7] (fun z:Unit=>[(0, .ptr (.own kx) 0),(2, .ptr (.own k0q0) 0),(5, .int .i64 (Us s i)),(7, .int .i64 (qcD s i))]) (fun z:Unit=>h.set k0q0 ⟨[.int .u8 0, .str [], .int .i64 0, .int .i64 0, .bool false],0⟩) (fun z:Unit=>True) ?_ ?_
   ·refine qI (b:=_) rfl (fun hb4=>?_) (fun hb4=>?_)
    ·skip
     have hmo:=hml hb4;have hld:Us s i=n1E s i+1+qcF s i:=by unfold Us;rw[if_pos hb4]
     have hdd:qcD s i=d0E s i+qcF s i:=by unfold qcD;rw[if_pos hb4]
     refine awp_rseq [0,2,5,7,8] (by rfl) fun K hK=>?_;simp+decide only[ev,qH,qG,putD,VO,VQ,Ka,Kb,↓qg,qc,↓qw,qm,qA,cond_false,qo,Xa];try simp(disch:=omega)only[wrap_i64]
     rw[show((n1E s i:Nat):Int)+1=((n1E s i+1:Nat):Int)from rfl];refine qO (V:= .int .i64 (qcF s i)) (by rfl) (by rfl) (qyz wz _ kx lf s mv tv i (n1E s i+1) _ _ (qtw wz) (zqA) (by omega) (by omega) hs) ?_;simp+decide only[qa,ev,putD,VO,VQ,VP,Ka,Kb,↓qd,qb];apply hK;clear hK K;refine awp_rseq [0,2,5,7,8] (by rfl) fun K hK=>?_;simp+decide only[qa,ev,putD,VO,VQ,VP,Ka,Kb,↓qg,qc,↓qw,qm,qR,cond_false,qo,Xa,↓qd,qb];try simp(disch:=omega)only[wrap_i64]
     apply hK;clear hK K;refine XW [0,2,5,7] (by rfl) ?_;simp+decide only[qa,ev,qH,qG,putD,VO,VQ,VP,Ka,Kb,and_true,↓qg,qc,↓qw,qm,qR,cond_false,qo,Xa,↓qd,qb,nxA,nxR];try simp(disch:=omega)only[wrap_i64]
     try simp only[Qj]
     first
     |exact⟨(),by rw[hld,hdd,show((n1E s i:Nat):Int)+(1+(qcF s i:Nat))=((n1E s i+1+qcF s i:Nat):Int) by omega];rfl,Vm _,trivial⟩
     |exact⟨(),by rw[hld,hdd];rfl,Vm _,trivial⟩
     |exact⟨(),by rw[hld,hdd,show((n1E s i:Nat):Int)+(1+(qcF s i:Nat))=((n1E s i+1+qcF s i:Nat):Int) by omega];rfl,Vm _⟩
     |exact⟨(),by rw[hld,hdd];rfl,Vm _⟩
    ·skip
     have hld:Us s i=n1E s i:=by unfold Us;rw[if_neg (by rw[hb4];decide)]
     have hdd:qcD s i=d0E s i:=by unfold qcD;rw[if_neg (by rw[hb4];decide)]
     refine qP ?_;try simp only[Qj]
     first
     |exact⟨(),by rw[hld,hdd,show((n1E s i:Nat):Int)+(1+(qcF s i:Nat))=((n1E s i+1+qcF s i:Nat):Int) by omega];rfl,Vm _,trivial⟩
     |exact⟨(),by rw[hld,hdd];rfl,Vm _,trivial⟩
     |exact⟨(),by rw[hld,hdd,show((n1E s i:Nat):Int)+(1+(qcF s i:Nat))=((n1E s i+1+qcF s i:Nat):Int) by omega];rfl,Vm _⟩
     |exact⟨(),by rw[hld,hdd];rfl,Vm _⟩
   ·intro _ _
    refine qJ ?_;refine Qm ?_;refine awp_rseq [0,2,5,7,69] (by rfl) fun K hK=>?_;simp+decide only[qa,ev,qH,qG,putD,VO,VQ,VP,Ka,Kb,↓qg,qc,↓qw,qm,qA,cond_false,qo,Za,↓qd,qb];apply hK;clear hK K;refine qI (b:=_) rfl (fun hb5=>?_) (fun hb5=>?_)
    ·try simp only[decide_eq_true_eq]at hb5
     refine awp_rseq [2,3,4] (by rfl) fun K hK=>?_;simp+decide only[ev,qH,qG,putD,VO,VQ,if_false,Kb,↓Qu,↓Qa,qbY,evP,Vk];refine qp (by rfl) (by rfl) zqA Xb (by rfl) (by rfl) zqD (Jt _) (by rfl) ?_;simp only[Vi,VX];simp+decide only[qa,ev,qH,qG,putD,VO,VQ,VP,Ka,Kb,↓qd,qb,setAt,VY,Kj,Js,Nat.reduceAdd];apply hK;clear hK K;refine qL ?_;try simp only[Qe,Qp]
     refine Qb h zqC (?_) ?_
     ·simp+decide only[QG,qy,qj,VQ,Ka,and_true,qy,qj,qh ZB Xb,qZ,qf,VZ,Kn,Js,Nat.reduceAdd,qD,qi,qE,allLive,JU,qf,VZ,Kn,Js,Nat.reduceAdd,qD,qi,qE,allLive,JU]
     simp+decide only[VQ,Ka,and_true,QJ,qy,qj,qh ZB Xb,qZ,qf,VZ,Kn,Js,Nat.reduceAdd,qD,qi,qE,allLive,JU,qf,VZ,Kn,Js,Nat.reduceAdd,qD,qi,qE,allLive,JU,nxA,nxR];rw[hnum];unfold qjR;rw[if_neg hb2',if_pos (by omega)];rfl
    ·try simp only[decide_eq_false_iff_not]at hb5
     have hb5':¬qcD s i=0:=by omega
     refine awp_rseq [0,2,5,7,73] (by rfl) fun K hK=>?_;simp+decide only[ev,putD,VO,VQ,Ka,Kb,↓qg,qc];refine qO (V:= .int .u8 (QF s ((i:Int)+(Us s i:Nat))).toNat) (by rfl) (by rfl) (qag wz _ kx lf s mv tv i _ (zqA) (by omega) (by omega) (by omega)) ?_;refine qO (V:= .bool (Yf (QF s ((i:Int)+(Us s i:Nat))))) (by rfl) (by rfl) (qio wz _ _) ?_;simp+decide only[qa,ev,putD,VO,VQ,VP,Ka,Kb,↓qd,qb];apply hK;clear hK K;refine qI (b:=_) rfl (fun hb6=>?_) (fun hb6=>?_)
     ·skip
      refine awp_rseq [2,3,4] (by rfl) fun K hK=>?_;simp+decide only[ev,qH,qG,putD,VO,VQ,if_false,Kb,↓Qu,↓Qa,qbY,evP,Vk];refine qp (by rfl) (by rfl) zqA Xb (by rfl) (by rfl) zqD (Jt _) (by rfl) ?_;simp only[Vi,VX];simp+decide only[qa,ev,qH,qG,putD,VO,VQ,VP,Ka,Kb,↓qd,qb,setAt,VY,Kj,Js,Nat.reduceAdd];apply hK;clear hK K;refine qL ?_;try simp only[Qe,Qp]
      refine Qb h zqC (?_) ?_
      ·simp+decide only[QG,qy,qj,VQ,Ka,and_true,qy,qj,qh ZB Xb,qZ,qf,VZ,Kn,Js,Nat.reduceAdd,qD,qi,qE,allLive,JU,qf,VZ,Kn,Js,Nat.reduceAdd,qD,qi,qE,allLive,JU]
      simp+decide only[VQ,Ka,and_true,QJ,qy,qj,qh ZB Xb,qZ,qf,VZ,Kn,Js,Nat.reduceAdd,qD,qi,qE,allLive,JU,qf,VZ,Kn,Js,Nat.reduceAdd,qD,qi,qE,allLive,JU,nxA,nxR];rw[hnum];unfold qjR;rw[if_neg hb2',if_neg hb5',if_pos hb6];rfl
     ·skip
      have hb6':¬Yf (QF s ((i:Int)+(Us s i:Nat)))=true:=by rw[hb6];decide
      refine awp_rseq [0,2,5,79] (by rfl) fun K hK=>?_;simp+decide only[qa,ev,qH,qG,putD,VO,VQ,VP,Ka,Kb,↓qg,qc,↓qw,qm,qA,cond_false,qo,qau,↓qd,qb];apply hK;clear hK K;refine qI (b:=_) rfl (fun hb7=>?_) (fun hb7=>?_)
      ·try simp only[decide_eq_true_eq]at hb7
       refine awp_rseq [2,3,4] (by rfl) fun K hK=>?_;simp+decide only[ev,qH,qG,putD,VO,VQ,if_false,Kb,↓Qu,↓Qa,qbY,evP,Vk];refine qp (by rfl) (by rfl) zqA Xb (by rfl) (by rfl) zqD (Jt _) (by rfl) ?_;simp only[Vi,VX];simp+decide only[qa,ev,qH,qG,putD,VO,VQ,VP,Ka,Kb,↓qd,qb,setAt,VY,Kj,Js,Nat.reduceAdd];apply hK;clear hK K;refine qL ?_;try simp only[Qe,Qp]
       refine Qb h zqC (?_) ?_
       ·simp+decide only[QG,qy,qj,VQ,Ka,and_true,qy,qj,qh ZB Xb,qZ,qf,VZ,Kn,Js,Nat.reduceAdd,qD,qi,qE,allLive,JU,qf,VZ,Kn,Js,Nat.reduceAdd,qD,qi,qE,allLive,JU]
       simp+decide only[VQ,Ka,and_true,QJ,qy,qj,qh ZB Xb,qZ,qf,VZ,Kn,Js,Nat.reduceAdd,qD,qi,qE,allLive,JU,qf,VZ,Kn,Js,Nat.reduceAdd,qD,qi,qE,allLive,JU,nxA,nxR];rw[hnum];unfold qjR;rw[if_neg hb2',if_neg hb5',if_neg hb6',if_pos (by omega)];rfl
      ·try simp only[decide_eq_false_iff_not]at hb7
       refine qP ?_;change Awp _ _ _ _ _ _ _;refine awp_rseq [2,3,4] (by rfl) fun K hK=>?_;simp+decide only[ev,putD,VO,VQ,Ka,Kb,↓qg,qc];refine qO (V:=nxR (takeE s i 2 (Us s i))) (by rfl) (by rfl) (qgs wz _ kx lf s mv tv i (Us s i) 2 (zqA) hnl hs) ?_;simp+decide only[ev,putD,VO,VQ,Ka,Kb,↓QY,QL,QV,KY,J9,VZ,Kn,VZ,Kn,Js,Nat.reduceAdd,nxA,nxR];refine qp (by rfl) (by rfl) zqA Xb (by rfl) (by rfl) zqD (Jt _) (by rfl) ?_;simp only[Vi,VX];simp+decide only[qa,ev,putD,VO,VQ,VP,Ka,Kb,↓qd,qb,setAt,VY,Kj,Js,Nat.reduceAdd];apply hK;clear hK K;refine qL ?_;refine Qb h zqC (?_) ?_
       ·simp+decide only[QG,qy,qj,VQ,Ka,and_true,qy,qj,qh ZB Xb,qZ,qf,VZ,Kn,Js,Nat.reduceAdd,qD,qi,qE,allLive,JU,qf,VZ,Kn,Js,Nat.reduceAdd,qD,qi,qE,allLive,JU]
       simp+decide only[VQ,Ka,and_true,QJ,qy,qj,qh ZB Xb,qZ,qf,VZ,Kn,Js,Nat.reduceAdd,qD,qi,qE,allLive,JU,qf,VZ,Kn,Js,Nat.reduceAdd,qD,qi,qE,allLive,JU,nxA,nxR];rw[hnum];unfold qjR;rw[if_neg hb2',if_neg hb5',if_neg hb6',if_neg (by omega)]
def digH:Str:=[48,49,50,51,52,53,54,55,56,57,45]
theorem qzT(wz:World)(h:AHeap)(s:Str)(hs:s.length<=9223372036854775807):ACall Tryz.prog wz 137 [.str s, .str digH] h (fun v h'=>v= .str (Lib.trimS s digH)/\h'=h):=by
 refine Yr (vals:=[.string ⟨⟨s⟩⟩, .string ⟨⟨digH⟩⟩]) (val:= .string ⟨⟨Lib.trimS s digH⟩⟩) Tryz.func137 rfl rfl (fun fi vs hv=>qfL hv) (fun fi=>rfl) fun w=>?_;exact Any.strings_Trim_laid Tryz.lays160 (by kernel_rfl) ⟨⟨s⟩⟩ ⟨⟨digH⟩⟩ w hs (by decide) (ascii_of_all (by decide))
theorem qyi(b:UInt8):digH.contains b=(YS b||decide (b=45)):=by
 rw[KA,JX];unfold digH YS;simp only[KX,Bn,or_false,JW,Ky,decide_eq_true_eq];constructor
 ·rintro(h|h|h|h|h|h|h|h|h|h|h)<;>subst h<;>decide
 ·rintro(h|h)
  ·have e:b=UInt8.ofNat b.toNat:=(UInt8.ofNat_toNat).symm
   generalize b.toNat=n at h e;have:n=48\/n=49\/n=50\/n=51\/n=52\/n=53\/n=54\/n=55\/n=56\/n=57:=by omega
   rcases this with q|q|q|q|q|q|q|q|q|q<;>subst q<;>subst e<;>decide
  ·subst h;decide
theorem qiS{p:UInt8->Bool}:∀{s:Str},s.dropWhile p=[]↔s.all p=true
 |[]=>by simp
 |b::s=>by
  rw[Bo,KE];cases hp:p b with
  |true=>simp only[if_true,Vg];exact qiS
  |false=>simp
theorem qnb{p:UInt8->Bool}:∀{s:Str},s.all p=false->(s.dropWhile p).all p=false
 |[],h=>by cases h
 |b::s,h=>by
  rw[Bo];rw[KE]at h;cases hp:p b with
  |true=>
   rw[hp,Vg]at h;simp only[if_true];exact qnb h
  |false=>simp[hp]
theorem qtM(s:Str):(!decide (Lib.trimS s digH=[]))= !(s.all fun b=>YS b||decide (b=45)):=by
 rw[<-decide_not];have hp:(fun b=>YS b||decide (b=45))=fun b=>digH.contains b:=funext fun b=>(qyi b).symm;rw[hp];unfold Lib.trimS Lib.trimLeftS Lib.trimRightS;cases ha:s.all (fun b=>digH.contains b)with
 |true=>
  have h1:s.reverse.dropWhile (fun b=>digH.contains b)=[]:=qiS.2 (by rw[Bp];exact ha);rw[h1];rfl
 |false=>
  have h1:=qnb (p:=fun b=>digH.contains b) (s:=s.reverse) (by rw[Bp];exact ha);have h2:((s.reverse.dropWhile (fun b=>digH.contains b)).reverse).all (fun b=>digH.contains b)=false:=by rw[Bp];exact h1
  have h3:¬((s.reverse.dropWhile (fun b=>digH.contains b)).reverse).dropWhile (fun b=>digH.contains b)=[]:=fun e=>by
   rw[qiS.1 e]at h2;cases h2
  rw[decide_eq_true h3];rfl
theorem qBF(wz:World)(h:AHeap)(kx:Nat)(lf:Bool)(s:Str)(mv tv:AVal)(i:Nat)(eb_x:h kx=some ⟨[.bool lf, .str s,mv, .int .i64 i,tv],0⟩)(hi:i<s.length)(hw:Yf (s.getD i 0)=true)(hs:s.length<=1099511627776):
 ACall Tryz.prog wz 112 [.ptr (.own kx) 0] h (fun r h'=>r=nxR (qgF s i)/\h'=h):=by
 have hs_h:Sub h h:=Vm h;have hp:=qhy hi hw;have hr:=qef s i Yf (by omega);obtain⟨n,hn⟩:∃n,n=Uf s i Yf:=⟨_,rfl⟩
 rw[<-hn]at hp hr;obtain⟨t,ht⟩:∃t,t=Wh ((s.drop i).take n):=⟨_,rfl⟩
 have htl:t.length=n:=by rw[ht];unfold Wh;rw[Jp,K5,K6];omega
 have hnm:qgF s i=if (t.all fun b=>YS b||decide (b=45))=true\/t.getD 0 0=45\/t.getD (n-1) 0=45 then .err 4 else if 30<n then .err 5 else⟨1,t,n,0⟩:=by unfold qgF;simp only;rw[<-hn,<-ht]
 have h1:((n:Int)-1).toNat=n-1:=by omega
 have h0:(0:Int).toNat=0:=rfl;refine qU (n:=51) (rs:=[.cell 2 54, .tmp 3, .tmp 4]) Tryz.func112 rfl rfl rfl rfl (VN rfl) ?_;simp only[Qg];refine awp_rseq [0,2] (by rfl) fun K hK=>?_;refine Qi qat (cs:=[.int .u8 0, .str [], .int .i64 0, .int .i64 0, .bool false]) (by rfl) fun k0q0 hk0q0=>?_;have hn_0q0:h k0q0=none:=by first|assumption|(simp only[V9]at hk0q0;simp only[hk0q0])
 have hf_0q0:h k0q0=none:=Bi hs_h hn_0q0;have ne_0q0_x:k0q0≠kx:=Bj hn_0q0 eb_x;simp+decide only[qa,ev,qH,qG,putD,VO,VP,Ka,Kb,↓qd,qb];apply hK;clear hK K;refine awp_rseq [0,2,5] (by rfl) fun K hK=>?_;simp+decide only[ev,putD,VO,VQ,Ka,Kb,↓qg,qc];refine qO (V:= .int .i64 n) (by rfl) (by rfl) (by rw[hn];exact qyy wz _ kx lf s mv tv i _ _ (qzM wz) (zqA) (by omega) hs) ?_;simp+decide only[qa,ev,putD,VO,VQ,VP,Ka,Kb,↓qd,qb];apply hK;clear hK K;refine awp_rseq [2,5,6,7] (by rfl) fun K hK=>?_;simp+decide only[ev,putD,VO,VQ,Ka,Kb,↓qg,qc];refine qO (V:=nxR (takeE s i 1 n)) (by rfl) (by rfl) (qgs wz _ kx lf s mv tv i n 1 (zqA) hr hs) ?_;simp+decide only[ev,putD,VO,VQ,Ka,Kb,↓qg,qc,↓QY,QL,QV,KY,J9,VZ,Kn,VZ,Kn,Js,Nat.reduceAdd,nxA,nxR,Tok.takeE];refine Qi qat (cs:=[.int .u8 0, .str [], .int .i64 0, .int .i64 0, .bool false]) (by rfl) fun k2q7 hk2q7=>?_;have ne_2q7_0q0:k2q7≠k0q0:=by simp only[V9]at hk2q7;simp only[hk2q7,ne_eq,not_false_eq_true]
 have hn_2q7:h k2q7=none:=by first|assumption|(simp only[V9]at hk2q7;simp only[hk2q7])
 have hf_2q7:h k2q7=none:=Bi hs_h hn_2q7;have ne_2q7_x:k2q7≠kx:=Bj hn_2q7 eb_x;refine qp (by rfl) (by rfl) zqA Xb (by rfl) (by rfl) zqD (Jt _) (by rfl) ?_;simp only[Vi,VX];simp+decide only[qa,ev,putD,VO,VQ,VP,Ka,Kb,↓qd,qb,setAt,VY,Kj,Js,Nat.reduceAdd];apply hK;clear hK K;refine awp_rseq [2,5,6,7] (by rfl) fun K hK=>?_;simp+decide only[ev,putD,VO,VQ,Ka,Kb,↓qB,ql,Uu,↓qF,qY,qz ag9,QT,VZ,Kn,Js,qE];refine qO (V:= .str t) (by rfl) (by rfl) (by rw[ht,<-qnW];exact qsy wz _ ((s.drop i).take n) (by rw[K5];omega)) ?_;simp+decide only[ev,putD,VO,VQ,Ka,Kb,↓qB,ql,Uu,Js];refine qp (by rfl) (by rfl) zqA sz9 (by rfl) (by rfl) zqD (Jt _) (by rfl) ?_;simp only[Vi,VX];simp+decide only[qa,ev,putD,VQ,VP,Ka,setAt,VY,Kj];apply hK;clear hK K;refine awp_rseq [2,5,6,7,8] (by rfl) fun K hK=>?_;simp+decide only[ev,putD,VO,VQ,Ka,Kb,↓qB,ql,Uu,↓qF,qY,qz ag9,QT,VZ,Kn,Js,qE];refine qO (V:= .str (Lib.trimS t digH)) (by rfl) (by rfl) (qzT wz _ t (by omega)) ?_;simp+decide only[qa,ev,qH,qG,putD,VO,VQ,VP,Ka,Kb,↓qw,qm,WO,cond_false,Zj,qeo,↓qd,qb];rw[qtM];apply hK;clear hK K;refine qJ ?_;refine Qm ?_;refine awp_rseq [2,5,6,7,26] (by rfl) fun K hK=>?_;simp+decide only[qa,ev,qH,qG,putD,VO,VQ,VP,Ka,Kb,↓qg,qc,↓YI,Zl,YC,↓Xj,ql,agP,Qv,qM,qK,Qh,implies_true,Bool.not_not,Uu,↓Zn,XT,YY,qdg,qz ag9,↓qrg,qgc,qer Tryz.underlying9,qne,quJ,qni,quN,↓Xd,qm,qA,cond_false,Zv,Zw,qo,Za,↓QW,Qz,Qk,ZA,ZO,↓Xf,qaI,↓qd,qb,QT,VZ,Kn,Js,qE,h0];try simp(disch:=omega)only[wrap_i64]
 repeat (with_reducible refine And.intro ?_ ?_;· first|trivial|omega|(intro hg;simp only[Ky,JW,Jj,VS,VT,VU,decide_eq_true_eq,decide_eq_false_iff_not,XY]at hg;omega))
 apply hK;clear hK K;refine qI (b:=_) rfl (fun hb1=>?_) (fun hb1=>?_)
 ·try simp only[decide_eq_true_eq,JW]at hb1
  have hb1':(t.all fun b=>YS b||decide (b=45))=true\/t.getD 0 0=45\/t.getD (n-1) 0=45:=by
   rcases hb1 with(q|q)|q
   ·exact .inl q
   ·exact .inr (.inl ((ZJ _ 45).mp q))
   ·exact .inr (.inr (by rw[h1]at q;exact(ZJ _ 45).mp q))
  refine awp_rseq [2,3,4] (by rfl) fun K hK=>?_;simp+decide only[ev,qH,qG,putD,VO,VQ,if_false,Kb,↓Qu,↓Qa,qbY,evP,Vk];refine qp (by rfl) (by rfl) zqA Xb (by rfl) (by rfl) zqD (Jt _) (by rfl) ?_;simp only[VX];simp+decide only[qa,ev,qH,qG,putD,VO,VQ,VP,Ka,Kb,↓qd,qb,setAt,VY,Kj,Js,Nat.reduceAdd];apply hK;clear hK K;refine qL ?_;try simp only[Qe,Qp]
  refine Qb h zqC (?_) ?_
  ·simp+decide only[QG,qy,qj,VQ,Ka,and_true,qy,qj,qh ZB Xb,qZ,qf,VZ,Kn,Js,Nat.reduceAdd,qD,qi,qE,allLive,JU,qf,VZ,Kn,Js,Nat.reduceAdd,qD,qi,qE,allLive,JU]
  simp+decide only[VQ,Ka,and_true,QJ,qy,qj,qh ZB Xb,qZ,qf,VZ,Kn,Js,Nat.reduceAdd,qD,qi,qE,allLive,JU,qf,VZ,Kn,Js,Nat.reduceAdd,qD,qi,qE,allLive,JU,nxA,nxR];rw[hnm,if_pos hb1'];rfl
 ·try simp only[decide_eq_false_iff_not,VT]at hb1
  have hb1':¬((t.all fun b=>YS b||decide (b=45))=true\/t.getD 0 0=45\/t.getD (n-1) 0=45):=by
   rintro(q|q|q)
   ·rw[q]at hb1;exact absurd hb1.1.1 (by decide)
   ·exact hb1.1.2 ((ZJ _ 45).mpr q)
   ·exact hb1.2 (by rw[h1];exact(ZJ _ 45).mpr q)
  refine awp_rseq [2,5,6,7,44] (by rfl) fun K hK=>?_;simp+decide only[qa,ev,qH,qG,putD,VO,VQ,VP,Ka,Kb,↓qg,qc,↓qw,qm,qA,cond_false,qo,qau,↓qd,qb];apply hK;clear hK K;refine qI (b:=_) rfl (fun hb2=>?_) (fun hb2=>?_)
  ·try simp only[decide_eq_true_eq]at hb2
   refine awp_rseq [2,3,4] (by rfl) fun K hK=>?_;simp+decide only[ev,qH,qG,putD,VO,VQ,if_false,Kb,↓Qu,↓Qa,qbY,evP,Vk];refine qp (by rfl) (by rfl) zqA Xb (by rfl) (by rfl) zqD (Jt _) (by rfl) ?_;simp only[VX];simp+decide only[qa,ev,qH,qG,putD,VO,VQ,VP,Ka,Kb,↓qd,qb,setAt,VY,Kj,Js,Nat.reduceAdd];apply hK;clear hK K;refine qL ?_;try simp only[Qe,Qp]
   refine Qb h zqC (?_) ?_
   ·simp+decide only[QG,qy,qj,VQ,Ka,and_true,qy,qj,qh ZB Xb,qZ,qf,VZ,Kn,Js,Nat.reduceAdd,qD,qi,qE,allLive,JU,qf,VZ,Kn,Js,Nat.reduceAdd,qD,qi,qE,allLive,JU]
   simp+decide only[VQ,Ka,and_true,QJ,qy,qj,qh ZB Xb,qZ,qf,VZ,Kn,Js,Nat.reduceAdd,qD,qi,qE,allLive,JU,qf,VZ,Kn,Js,Nat.reduceAdd,qD,qi,qE,allLive,JU,nxA,nxR];rw[hnm,if_neg hb1',if_pos (by omega)];rfl
  ·try simp only[decide_eq_false_iff_not]at hb2
   refine qP ?_;change Awp _ _ _ _ _ _ _;refine awp_rseq [2,3,4] (by rfl) fun K hK=>?_;simp+decide only[ev,putD,VO,VQ,Ka,Kb,↓qF,qY,qh ZB Xb,↓qg,qc,QT,qf,VZ,Kn,Js,Nat.reduceAdd,qD,qi,qE,allLive,JU];refine qp (by rfl) (by rfl) zqA Xb (by rfl) (by rfl) zqD (Jt _) (by rfl) ?_;simp only[VX];simp+decide only[qa,ev,putD,VO,VQ,VP,Ka,Kb,↓qd,qb,setAt,VY,Kj,Js,Nat.reduceAdd];apply hK;clear hK K;refine qL ?_;refine Qb h zqC (?_) ?_
   ·simp+decide only[QG,qy,qj,VQ,Ka,and_true,qy,qj,qh ZB Xb,qZ,qf,VZ,Kn,Js,Nat.reduceAdd,qD,qi,qE,allLive,JU,qf,VZ,Kn,Js,Nat.reduceAdd,qD,qi,qE,allLive,JU]
   simp+decide only[VQ,Ka,and_true,QJ,qy,qj,qh ZB Xb,qZ,qf,VZ,Kn,Js,Nat.reduceAdd,qD,qi,qE,allLive,JU,qf,VZ,Kn,Js,Nat.reduceAdd,qD,qi,qE,allLive,JU,nxA,nxR];rw[hnm,if_neg hb1',if_neg (by omega)]
theorem qzK{P:Str->Bool}{j:Nat}(hj:j<signs.length)(h0:(signs.take j).find? P=none)(hp:P (signs.getD j [])=true):signs.find? P=some (signs.getD j []):=by
 have e:signs.drop j=signs.getD j []::signs.drop (j+1):=by rw[J5 hj];simp[Ko,hj]
 rw[<-Bq j signs,Br,h0,Bt,Bq,e,Bu,hp]
theorem quG{P:Str->Bool}{j:Nat}(hj:j<signs.length)(h0:(signs.take j).find? P=none)(hp:P (signs.getD j [])=false):(signs.take (j+1)).find? P=none:=by
 have e:signs.take (j+1)=signs.take j++[signs.getD j []]:=by rw[VL,JA hj];simp[Ko,hj]
 rw[e,Br,h0,Bt,Bu,hp];rfl
set_option maxHeartbeats 1000000 in
theorem qBy(wz:World)(h:AHeap)(kx:Nat)(lf:Bool)(s:Str)(mv tv:AVal)(i:Nat)(eb_x:h kx=some ⟨[.bool lf, .str s,mv, .int .i64 i,tv],0⟩)(hi:i<s.length)(hs:s.length<=1099511627776):
 ACall Tryz.prog wz 113 [.ptr (.own kx) 0] h (fun r h'=>r=nxR (qfe s i)/\h'=h):=by
 have hs_h:Sub h h:=Vm h;obtain⟨P,hP⟩:∃P:Str->Bool,P=fun g=>g.isPrefixOf (s.drop i):=⟨_,rfl⟩
 have hse:qfe s i=match signs.find? P with|some g=>Tok.takeE s i 5 g.length|none=> .err 4:=by rw[hP];rfl
 have hdr:(s.drop ((i:Int)).toNat).take (((s.length:Nat):Int).toNat-((i:Int)).toNat)=s.drop i:=by rw[Vr,Vr,Jr (by simp)]
 refine qU (n:=34) (rs:=[.cell 2 54, .tmp 3, .tmp 4]) Tryz.func113 rfl rfl rfl rfl (VN rfl) ?_;simp only[Qg];refine awp_rseq [0,2] (by rfl) fun K hK=>?_;refine Qi qat (cs:=[.int .u8 0, .str [], .int .i64 0, .int .i64 0, .bool false]) (by rfl) fun k0q0 hk0q0=>?_;have hn_0q0:h k0q0=none:=by first|assumption|(simp only[V9]at hk0q0;simp only[hk0q0])
 have hf_0q0:h k0q0=none:=Bi hs_h hn_0q0;have ne_0q0_x:k0q0≠kx:=Bj hn_0q0 eb_x;simp+decide only[qa,ev,qH,qG,putD,VO,VP,Ka,Kb,↓qd,qb];apply hK;clear hK K;refine qJ ?_;refine awp_rseq [0,2,7,8,9] (by rfl) fun K hK=>?_;refine Qr (cs:=signs.map AVal.str) (by kernel_rfl) fun k1q0 hk1q0=>?_;have ne_1q0_0q0:k1q0≠k0q0:=by simp only[V9]at hk1q0;simp only[hk1q0,ne_eq,not_false_eq_true]
 have hn_1q0:h k1q0=none:=by first|assumption|(simp only[V9]at hk1q0;simp only[hk1q0])
 have hf_1q0:h k1q0=none:=Bi hs_h hn_1q0;have ne_1q0_x:k1q0≠kx:=Bj hn_1q0 eb_x;simp+decide only[qa,ev,qH,qG,putD,VO,VQ,VP,Ka,Kb,↓Xe,Qw,Zh Tryz.underlying30,↓qg,qc];apply hK;clear hK K;refine Qm ?_;refine XC [0,2,7,8,9] (fun j:Nat=>[(0, .ptr (.own kx) 0),(2, .ptr (.own k0q0) 0),(7, .slice (.own k1q0) 0 14 (.exact 14)),(8, .int .i64 14),(9, .int .i64 j)]) (fun j:Nat=>(h.set k0q0 ⟨[.int .u8 0, .str [], .int .i64 0, .int .i64 0, .bool false],0⟩).set k1q0 ⟨signs.map AVal.str,0⟩) (fun j:Nat=>j<=14/\(signs.take j).find? P=none) (fun j:Nat=>14-j) 0 (by rfl) (Vm _) ⟨Jt _,rfl⟩ ?_;rintro j ⟨hj,hf⟩;refine awp_rseq [0,2,7,8,9,10] (by rfl) fun K hK=>?_;simp+decide only[qa,ev,putD,VO,VQ,VP,Ka,Kb,↓qw,qm,qR,cond_false,qo,XZ];apply hK;clear hK K;refine qJ (qI (b:=_) rfl (fun hb1=>?_) (fun hb1=>?_))
 ·try simp only[decide_eq_true_eq]at hb1
  have hj':j<14:=by omega
  obtain⟨g,hg⟩:∃g,g=signs.getD j []:=⟨_,rfl⟩
  have he:(signs.map AVal.str).getD (j*1) .dead= .str g:=by rw[Nat.mul_one,hg];simp[Ko,show j<signs.length from hj']
  refine qP ?_;change Awp _ _ _ _ _ _ _;refine qJ ?_;refine Qm ?_;refine awp_rseq [0,2,6,7,8,9] (by rfl) fun K hK=>?_;simp+decide only[qa,ev,putD,VO,VQ,VP,Ka,Kb,↓QE,qY,qW Tryz.underlying30 sz9,↓qF,qz ag9,↓qd,qb,QT,Js,he,Vr,AVal.live];repeat (with_reducible refine And.intro ?_ ?_;· first|trivial|omega|(intro hg;simp only[Ky,JW,Jj,VS,VT,VU,decide_eq_true_eq,decide_eq_false_iff_not,XY]at hg;omega))
  apply hK;clear hK K;refine Uw [0,2,6,7,8,9,24] mixed (by kernel_rfl) (by rfl) fun K hK=>?_;simp+decide only[ev,putD,VO,VQ,Ka,Kb,↓qdV,qc,↓qcS,qV,QA,↓qai,ql,UK,WH,↓qfS,XU,qz ag9,WU,qz ag3,↓qoL,ZG,evO,qen Tryz.underlying9,qaU,qgt,qah,QZ,ne_eq,not_false_eq_true,ne_0q0_x.symm,ne_1q0_x.symm,QB wz eb_x,VZ,Kn,Js,qi,qE,hdr];repeat (with_reducible refine And.intro ?_ ?_;· first|trivial|omega|(intro hg;simp only[Ky,JW,Jj,VS,VT,VU,decide_eq_true_eq,decide_eq_false_iff_not,XY]at hg;omega))
  refine qkp (V:= .bool (P g)) (by rfl) (by rfl) (by rw[hP];exact qsr wz _ (s.drop i) g) ?_;simp+decide only[qct,putD,VO,VP,Ka];apply hK;clear hK K;refine qI (b:=_) rfl (fun hb2=>?_) (fun hb2=>?_)
  ·skip
   have hse':qfe s i=Tok.takeE s i 5 g.length:=by rw[hse,qzK hj' hf (by rw[<-hg];exact hb2),<-hg]
   have hgl:i+g.length<=s.length:=by
    rw[hP]at hb2;have:=(Vw.1 hb2).length_le;rw[K6]at this;omega
   refine awp_rseq [2,3,4] (by rfl) fun K hK=>?_;simp+decide only[ev,putD,VO,VQ,Ka,Kb,↓qg,qc,↓Xe,Qw,WB Tryz.underlying9];refine qO (V:=nxR (Tok.takeE s i 5 g.length)) (by rfl) (by rfl) (qgs wz _ kx lf s mv tv i g.length 5 (zqA) hgl hs) ?_;simp+decide only[ev,putD,VO,VQ,Ka,Kb,↓QY,QL,QV,KY,J9,VZ,Kn,VZ,Kn,Js,Nat.reduceAdd,nxA,nxR,Tok.takeE];refine qp (by rfl) (by rfl) zqA Xb (by rfl) (by rfl) zqD (Jt _) (by rfl) ?_;simp only[VX];simp+decide only[qa,ev,putD,VO,VQ,VP,Ka,Kb,↓qd,qb,setAt,VY,Kj,Js,Nat.reduceAdd];apply hK;clear hK K;refine qL ?_;try simp only[Qe,Qp]
   refine Qb h zqC (?_) ?_
   ·simp+decide only[QG,qy,qj,VQ,Ka,and_true,qy,qj,qh ZB Xb,qZ,qf,VZ,Kn,Js,Nat.reduceAdd,qD,qi,qE,allLive,JU,qf,VZ,Kn,Js,Nat.reduceAdd,qD,qi,qE,allLive,JU]
   simp+decide only[VQ,Ka,and_true,QJ,qy,qj,qh ZB Xb,qZ,qf,VZ,Kn,Js,Nat.reduceAdd,qD,qi,qE,allLive,JU,qf,VZ,Kn,Js,Nat.reduceAdd,qD,qi,qE,allLive,JU,nxA,nxR];rw[hse'];rfl
  ·skip
   refine qP ?_;change Awp _ _ _ _ _ _ _;refine XW [0,2,7,8,9] (by rfl) ?_;simp+decide only[qa,ev,qH,qG,putD,VO,VQ,VP,Ka,Kb,↓qw,qm,qA,cond_false,qo,Xa,↓qg,qc,nxA,nxR];try simp(disch:=omega)only[wrap_i64]
   try simp only[Qj]
   exact⟨j+1,rfl,Vm _,⟨hj',quG hj' hf (by rw[<-hg];exact hb2)⟩,by omega⟩
 ·try simp only[decide_eq_false_iff_not]at hb1
  have hj14:j=14:=by omega
  have hse':qfe s i= .err 4:=by
   rw[hse];rw[hj14]at hf;rw[show signs.find? P=none from hf]
  refine XE ?_;change Awp _ _ _ _ _ _ _;refine awp_rseq [2,3,4] (by rfl) fun K hK=>?_;simp+decide only[ev,qH,qG,putD,VO,VQ,if_false,Kb,↓Qu,↓Qa,qbY,evP,Vk];refine qp (by rfl) (by rfl) zqA Xb (by rfl) (by rfl) zqD (Jt _) (by rfl) ?_;simp only[VX];simp+decide only[qa,ev,qH,qG,putD,VO,VQ,VP,Ka,Kb,↓qd,qb,setAt,VY,Kj,Js,Nat.reduceAdd];apply hK;clear hK K;refine qL ?_;refine Qb h zqC (?_) ?_
  ·simp+decide only[QG,qy,qj,VQ,Ka,and_true,qy,qj,qh ZB Xb,qZ,qf,VZ,Kn,Js,Nat.reduceAdd,qD,qi,qE,allLive,JU,qf,VZ,Kn,Js,Nat.reduceAdd,qD,qi,qE,allLive,JU]
  simp+decide only[VQ,Ka,and_true,QJ,qy,qj,qh ZB Xb,qZ,qf,VZ,Kn,Js,Nat.reduceAdd,qD,qi,qE,allLive,JU,qf,VZ,Kn,Js,Nat.reduceAdd,qD,qi,qE,allLive,JU,nxA,nxR];rw[hse'];rfl
end Go.Proofs.YtlhhaagmakhilaaGreatDoor
namespace Go.Proofs.YtlhhaagmakhilaaGreatDoor
open Go.AM
open Go.Proofs
set_option maxRecDepth 100000
theorem qyp(b:Nat)(w:World)(T:TypeId)(cells:Nat)(h0:w.cell? ⟨b,0,none⟩=some (.pointer none))(hsh:w.shape? b=some (T,cells))(hc:0<cells)
 (hlies:liesAt Tryz.prog Tryz.prog.depth T (cells / Tryz.prog.cellsOf T) 0 140 1=true) (hfz:w.frozen? ⟨b,0,none⟩=false):
 Calls Tryz.prog 89 #[.pointer (some ⟨b,0,none⟩)] w fun e w'=>e= .returned (.tuple #[])/\w'=w.setCell ⟨b,0,none⟩ (.pointer (some ⟨b,0,none⟩)):=by
 have hsz:(Tryz.prog.info? 140).map (·.size)=some 2:=by kernel_rfl
 obtain⟨j,hj,hjs⟩:=Kc.1 hsz
 go_enter Tryz.func89,Tryz.ntmps89
 go_wp2
 rw[Lib.run_to_unsafe w ⟨b,0,none⟩ Tryz.underlying138 Tryz.underlying189 hj (by rw[hjs];decide) hsh hc];simp only[Result.andThen];rw[Oper.upon_value]
 go_wp2
 rw[run_callFunc_extern Tryz.func119 (by kernel_rfl) (by kernel_rfl) (by kernel_rfl) (e:=Extern.AbiNoEscape.same) (by kernel_rfl)];rw[Lib.run_noEscape];simp only[Result.andThen];rw[Oper.upon_value]
 go_wp2
 rw[Lib.run_from_unsafe w ⟨b,0,none⟩ Tryz.underlying189 Tryz.underlying138 hj hsh hlies];simp only[Result.andThen];rw[Oper.upon_value]
 go_wp2
 go_end0
 exact⟨rfl,rfl⟩
theorem qzP(b:Nat)(w:World)(h0:w.cell? ⟨b,0,none⟩=some (.pointer (some ⟨b,0,none⟩))):
 Calls Tryz.prog 89 #[.pointer (some ⟨b,0,none⟩)] w fun e w'=>e= .returned (.tuple #[])/\w'=w:=by
 have hsz:(Tryz.prog.info? 140).map (·.size)=some 2:=by kernel_rfl
 obtain⟨j,hj,hjs⟩:=Kc.1 hsz
 go_enter Tryz.func89,Tryz.ntmps89
 go_wp2
 rw[Lib.run_neq_ptr_same w _ Tryz.underlying138 hj]
 go_wp2
 go_end0
 exact⟨rfl,rfl⟩
structure BldT(T:TypeId)(m:Nat):Prop where
 lies:liesAt Tryz.prog Tryz.prog.depth T 1 0 140 1=true
 cells:Tryz.prog.cellsOf T=m
 two:2<=m
theorem qpZ(wz:World)(h:AHeap)(k:Nat)(rest:List AVal)(st:Bld)(T:TypeId)(hT:BldT T (rest.length+2))(ht:UM k=some T)(hst:st.ok 5 h k):
 ACall Tryz.prog wz 89 [.ptr (.own k) 0] (bldH h k rest st) (fun v h'=>v= .tuple []/\h'=bldH h k rest ⟨true,st.buf⟩):=by
 intro fi vals w hr hvs;simp only[VRs,VR]at hvs;obtain⟨v,vs',rfl,⟨a,ha,rfl⟩,rfl⟩:=hvs;obtain⟨p,hp,hp0,ok⟩:=hr.own k _ (qcr hst);obtain⟨t0,cs0,fr0,hcs0⟩:=hr.typ k p hp T ht;simp only[XD,hp,KI,Option.some.injEq]at ha;have okr:RowOk fi ⟨st.head k::st.slice::rest,0⟩ p w:=by
  rcases ok with q|q
  ·exact q
  ·have:=q.frz
   simp at this
 obtain⟨cs,e,lo,hi,h1,h2,h3,h4,h5,h6⟩:=okr.row;rw[hcs0]at h1;cases h1;obtain⟨c0,hc0,hv0⟩:=ok.cell 0 (by simp) (Bld.head_live _ _);have hfz:=okr.frozen 0 (Jt _) (by simp at h3;omega);rw[t0]at hc0 hfz ha;simp only[Js]at hc0 hfz ha;subst ha;have hsh:w.shape? p.blk=some (T,cs0.size):=by simp[World.shape?,hcs0]
 have hr':=hr.setCell (qcr hst) hp (o:=0) (x:= .ptr (.own k) 0) (v:= .pointer (some ⟨p.blk,0,none⟩)) (by simp only[VR];exact⟨_,by simp[XD,hp,t0],rfl⟩) rfl (by simp) (Jt _);simp only[VY]at hr';rw[qvk hst,t0]at hr';have hun:VR fi (.tuple []) (.tuple #[]):=by simp only[VR];exact⟨[],rfl,by simp[VRs]⟩
 refine .inl ⟨_,Tryz.func89,rfl,rfl,?_⟩;simp only[VZ]at hv0;by_cases hu:st.used=true
 ·have e0:st.head k= .ptr (.own k) 0:=by rw[Bv,if_pos hu]
  rw[e0]at hv0;simp only[VR,XD,hp,KI,Option.some.injEq]at hv0;obtain⟨a,ha,rfl⟩:=hv0;subst ha;rw[t0]at hc0;refine(qzP p.blk w (by simpa using hc0)).mono fun e w' ⟨e1,e2⟩=>⟨.tuple #[],e1,fi, .tuple [],_,fi.le_refl,?_,hun,rfl,rfl⟩
  rw[e2];have:st=⟨true,st.buf⟩:=by cases st;simp at hu;simp[hu]
  rw[<-this];exact hr
 ·have e0:st.head k= .nilPtr:=by rw[Bv,if_neg hu]
  rw[e0]at hv0;simp only[VR]at hv0;subst hv0;have hle:rest.length+2<=cs0.size:=by simp at h3;omega
  refine(qyp p.blk w T cs0.size hc0 hsh (by omega) (qnR hT.lies (fun m u=>by rw[Tryz.underlying140];simp) (by
   rw[hT.cells];exact Nat.div_pos hle (by omega))) hfz).mono fun e w' ⟨e1,e2⟩=>⟨.tuple #[],e1,fi, .tuple [],_,fi.le_refl,?_,hun,rfl,rfl⟩
  rw[e2];exact hr'
set_option maxHeartbeats 1000000 in
theorem qAj(b g cap cells:Nat)(l:List UInt8)(h0:l≠[])(w:World)(hc1:w.cell? ⟨b,1,none⟩=some (.slice (some ⟨g,0,none⟩) l.length cap))(hcap:cap≠0)(hsh:w.shape? g=some (5,cells))(hn:l.length<=cells)
 (h63:l.length<=9223372036854775807) (hcell:∀j x,l[j]?=some x->w.cell? ((⟨g,0,none⟩:Addr).add j)=some (.int .u8 x.toNat)):
 Calls Tryz.prog 72 #[.pointer (some ⟨b,0,none⟩)] w fun e w'=>e= .returned (.string ⟨l.toArray⟩)/\w'=w.drew.freeze ⟨g,0,none⟩ l.length:=by
 have c1:w.drew.cell? ⟨b,1,none⟩=some (.slice (some ⟨g,0,none⟩) l.length cap):=hc1;have hSD:(Builtin.unsafeSliceData_ #[22] 166 #[.slice (some ⟨g,0,none⟩) l.length cap]).run Tryz.prog w.drew= .ok (.pointer (some ⟨g,0,none⟩)) w.drew:=Lib.run_unsafeSliceData_row _ _ _ _ _ _ hcap;have hUS:(Builtin.unsafeString_ #[166,3] 9 #[.pointer (some ⟨g,0,none⟩), .int .i64 l.length]).run Tryz.prog w.drew= .ok (.string ⟨l.toArray⟩) (w.drew.freeze ⟨g,0,none⟩ l.length):=
  Lib.run_unsafeString_row w.drew 166 3 9 5 Tryz.underlying166 (by kernel_rfl) g cells hsh l h0 hn h63 hcell
 go_enter Tryz.func72,Tryz.ntmps72
 go_wp2
 have hmx:Tryz.prog.follows Departure.mixedOrders=true:=mixed
 go_region_o
 all_goals (go_wp2;go_ret;exact⟨rfl,rfl⟩)
set_option maxHeartbeats 1000000 in
theorem qBP(b:Nat)(w:World)(hc1:w.cell? ⟨b,1,none⟩=some (.slice none 0 0)):
 Calls Tryz.prog 72 #[.pointer (some ⟨b,0,none⟩)] w fun e w'=>e= .returned (.string ⟨#[]⟩)/\w'=w.drew:=by
 have c1:w.drew.cell? ⟨b,1,none⟩=some (.slice none 0 0):=hc1;have hSD:(Builtin.unsafeSliceData_ #[22] 166 #[.slice none 0 0]).run Tryz.prog w.drew= .ok (.pointer none) w.drew:=rfl;have hUS:(Builtin.unsafeString_ #[166,3] 9 #[.pointer none, .int .i64 0]).run Tryz.prog w.drew= .ok (.string .empty) w.drew:=rfl
 go_enter Tryz.func72,Tryz.ntmps72
 go_wp2
 have hmx:Tryz.prog.follows Departure.mixedOrders=true:=mixed
 go_region_o
 all_goals (go_wp2;go_ret;exact⟨rfl,rfl⟩)
theorem qvg(wz:World)(h:AHeap)(k:Nat)(rest:List AVal)(st:Bld)(T:TypeId)(hk:h k=none)(ht:UM k=some T)(hst:st.ok 5 h k)(hl:st.bytes.length<=140737488355328):
 ACall Tryz.prog wz 72 [.ptr (.own k) 0] (bldH h k rest st) (fun v h'=>v= .str st.bytes/\h'=h):=by
 intro fi vals w hr hvs;simp only[VRs,VR]at hvs;obtain⟨v,vs',rfl,⟨a,ha,rfl⟩,rfl⟩:=hvs;obtain⟨p,hp,hp0,ok⟩:=hr.own k _ (qcr hst);obtain⟨t0,cs0,fr0,hcs0⟩:=hr.typ k p hp T ht;simp only[XD,hp,KI,Option.some.injEq]at ha;obtain⟨c1,hc1,hv1⟩:=ok.cell 1 (by simp) (Bw _);rw[t0]at hc1 ha;simp only[Js]at hc1 ha;subst ha;simp only[Kn,VZ]at hv1;refine .inl ⟨_,Tryz.func72,rfl,rfl,?_⟩;cases hb:st.buf with
 |none=>
  have e1:=Bz hb;have e2:=BA hb;rw[e1]at hv1;simp only[VR]at hv1;subst hv1;rw[e2];refine(qBP p.blk w hc1).mono fun e w' ⟨e1,e2⟩=>⟨_,e1,fi, .str [],h,fi.le_refl,?_,rfl,rfl,rfl⟩
  rw[e2];exact hr.drew.forget (BB hk hst)
 |some q=>
  obtain⟨kb,l⟩:=q;have e1:=BC hb;have e2:=BD hb;obtain⟨s1,s2,s3,s4⟩:=(Bld.ok_some hb).1 hst;have hkb:=qrd (h:=h) (k:=k) (rest:=rest) hb;obtain⟨pb,hpb,hpb0,okb⟩:=hr.own kb _ hkb;obtain⟨tb0,csb,frb,hcsb⟩:=hr.typ kb pb hpb _ s3;obtain⟨cs,e,lo,hi,h1,h2,h3,h4,h5,h6⟩:=okb.row (Jt _);rw[hcsb]at h1;cases h1;rw[byteCells_length]at h3;rw[e1]at hv1;simp only[VR]at hv1;obtain⟨k',p',c,a,hk',hp',rfl,hle,hca⟩:=hv1;cases hk';rw[hpb]at hp';cases hp';have hln:l.length≠0:=by simpa using s4
  obtain⟨ha,hroom⟩:=hca (by omega);subst ha;rw[tb0]at hc1;rw[e2];rw[e2]at hl;refine(qAj p.blk pb.blk c csb.size l s4 w hc1 (by omega) (by simp[World.shape?,hcsb]) (by omega) (by omega) fun j x hj=>?_).mono fun e w' ⟨f1,f2⟩=>⟨_,f1,fi, .str l,h,fi.le_refl,?_,rfl,rfl,rfl⟩
  ·have hjl:j<l.length:=by
    rcases Nat.lt_or_ge j l.length with hx|hx
    ·exact hx
    ·rw[Kr hx]at hj;cases hj
   obtain⟨cj,hcj,hvj⟩:=okb.cell j (by rw[byteCells_length];exact hjl) (by rw[qcO hjl];rfl);rw[tb0,Js]at hcj;simp only[qcO hjl]at hvj;simp only[VR]at hvj;subst hvj;have ex:l.getD j 0=x:=by rw[Ko,hj];rfl
   rw[ex]at hcj;have e8:(⟨pb.blk,0,none⟩:Addr).add j=⟨pb.blk,j,none⟩:=by
    unfold Addr.add;by_cases hi:j=0<;>simp[hi]
   rw[e8];exact hcj
  ·subst f2
   obtain⟨z1,z2,z3,z4,z5,z6⟩:=qnV w.drew ⟨pb.blk,0,none⟩ l.length;exact hr.drew.dropRow hkb hpb z1 z2 z3 z4 z5 z6 fun j c hj=>⟨BB hk hst j c hj,fun e=>by subst e;rw[s2]at hj;cases hj⟩
theorem qBa:(5:Nat)<4096:=by decide
theorem qrb(wz:World)(h:AHeap)(k:Nat)(rest:List AVal)(st:Bld)(T:TypeId)(hT:BldT T (rest.length+2))(ht:UM k=some T)(hk:h k=none)(hst:st.ok 5 h k)(c:UInt8)(hl:st.bytes.length+1<=140737488355328):
 ACall Tryz.prog wz 135 [.ptr (.own k) 0, .int .u8 c.toNat] (bldH h k rest st) (fun v h'=>v= .nilIface/\∃st':Bld,st'.ok 5 h k/\st'.bytes=st.bytes++[c]/\h'=bldH h k rest st'):=by
 have hst2:(⟨true,st.buf⟩:Bld).ok 5 h k:=hst;have hhead:=qcr (rest:=rest) hst2;refine qU (n:=17) (rs:=[.tmp 4]) Tryz.func135 rfl rfl rfl rfl (VN rfl) ?_;simp only[Qg];refine awp_rseq [0,1] (by rfl) fun K hK=>?_;simp+decide only[qa,ev,qH,qG,putD,VO,VP,Ka,Kb,↓qd,qb];apply hK;clear hK K;refine awp_rseq [0,1] (by rfl) fun K hK=>?_;simp+decide only[ev,putD,VO,VQ,Ka,Kb,↓qg,qc];refine QU (by rfl) (by rfl) (qpZ wz h k rest st T hT ht hst) fun x1q1 h1q1 hx1q1=>?_;obtain⟨rfl,rfl⟩:=hx1q1;simp+decide only[qa,putD,VO,VP,Ka];apply hK;clear hK K;refine awp_rseq [] (by rfl) fun K hK=>?_;simp+decide only[ev,putD,VO,VQ,Ka,Kb,↓qg,qc,↓Qo,qV,QA,↓qB,ql,qoc,↓qF,qY,qz qCN,Bw,VZ,Kn,QB wz hhead];refine Qr (cs:=byteCells [c]) (by rfl) fun k6 hk6=>?_;refine qlW (src:=[c]) (hZ:=h) (k:=k) (cs:=rest) (st:=⟨true,st.buf⟩) (by rfl) (by rfl) Tryz.underlying22 Tryz.underlying22 (by intro k e;cases e) sz5 by5 ze5 qBa (by rfl) hk hst2 (Vh hk6) (by rfl) (SrcB.of (IsB.own (Ve _ _ _) rfl (KL _))) (by simpa[Bld.bytes]using hl) fun st' hu' hst' hb' h' hk' hsub=>?_;simp+decide only[ev,putD,VO,VQ,Ka,Kb,↓Qo,qV,QA,↓qB,ql,qoc];refine qp (by rfl) (by rfl) hk' qDa (Bw _) (by rw[BF];rfl) (by simp) (Jt _) (by rw[BF];simp[Qt,Bld.slice_scal]) ?_;rw[BF];simp only[setAt,Kj,VY];have hhd:st'.head k=(⟨true,st.buf⟩:Bld).head k:=by unfold Bv;rw[hu']
 rw[hhd]at hsub;simp+decide only[qa,putD,VP,if_false];apply hK;clear hK K;refine awp_rseq [4] (by rfl) fun K hK=>?_;simp+decide only[qa,ev,qH,qG,putD,VO,VP,if_true,Kb,↓qd,qb];apply hK;clear hK K;refine qL ?_;refine Qb (bldH h k rest st') hsub (qN (Qc)) ?_;simp+decide only[VQ,if_true,Kb,Qs];exact⟨st',hst',hb',rfl⟩
end Go.Proofs.YtlhhaagmakhilaaGreatDoor
namespace Go.Proofs.YtlhhaagmakhilaaGreatDoor
open Go.AM
open Go.Proofs
open Go.Col
open Go.Tok
open Go.RowKit (Below)
set_option maxRecDepth 100000
theorem Bld.slice_lenT{st:Bld}:st.slice= .nilSlice/\st.bytes=[]\/∃l o c,st.slice= .slice l o st.bytes.length c:=by
 cases hb:st.buf with
 |none=>exact .inl ⟨Bz hb,BA hb⟩
 |some q=>exact .inr ⟨.own q.1,0, .grow 1,by rw[BC (kb:=q.1) (l:=q.2) hb,BD (kb:=q.1) (l:=q.2) hb]⟩
theorem qAg(wz:World)(h:AHeap)(k:Nat)(rest:List AVal)(st:Bld)(hst:st.ok 5 h k):
 ACall Tryz.prog wz 96 [.ptr (.own k) 0] (bldH h k rest st) (fun v h'=>v= .int .i64 st.bytes.length/\h'=bldH h k rest st):=by
 have hhead:=qcr (rest:=rest) hst;have r1:rd wz (bldH h k rest st) (.own k) 1=st.slice:=QB wz hhead 1;have hl:∀H:AHeap,YN Tryz.prog H 22 st.slice=⟨True, .int .i64 st.bytes.length⟩:=by
  rcases Bld.slice_lenT (st:=st)with⟨e1,e2⟩|⟨l,o,c,e⟩
  ·rw[e1,e2];exact fun _=>qfo Tryz.underlying22
  ·rw[e];exact fun _=>Zh Tryz.underlying22 _ _ _ _
 refine qU (n:=8) (rs:=[.tmp 2]) Tryz.func96 rfl rfl rfl rfl (VN rfl) ?_;simp only[Qg];refine awp_rseq [0] (by rfl) fun K hK=>?_;simp+decide only[qa,ev,qH,qG,putD,VO,VP,Ka,Kb,↓qd,qb];apply hK;clear hK K;refine awp_rseq [2] (by rfl) fun K hK=>?_;simp+decide only[qa,ev,putD,VO,VQ,VP,Ka,Kb,↓qg,qc,↓Qo,qV,QA,↓qB,ql,qoc,↓qF,qY,qz qCN,↓Xe,Qw,↓qd,qb,r1,Bw,hl];apply hK;clear hK K;refine qL ?_;refine Qb _ (Vm _) (qN (Qc)) ?_;simp+decide only[VQ,if_true,and_true,Qs];all_goals first|rfl|exact⟨rfl,rfl⟩|(simp+decide only[Ka, *];done)|(trace_state;fail)
theorem qsC:BldT 140 ([]:List AVal).length.succ.succ:=⟨by kernel_rfl,by kernel_rfl,by decide⟩
set_option maxHeartbeats 1000000 in
theorem qzZ(wz:World)(h:AHeap)(kx:Nat)(lf:Bool)(s:Str)(mv tv:AVal)(i:Nat)(eb_x:h kx=some ⟨[.bool lf, .str s,mv, .int .i64 i,tv],0⟩)(hi:i<s.length)(hs:s.length<=1099511627776):
 ACall Tryz.prog wz 108 [.ptr (.own kx) 0] h (fun r h'=>r=nxR (qbO s i)/\h'=h):=by
 have hs_h:Sub h h:=Vm h;refine qU (n:=44) (rs:=[.cell 2 54, .tmp 3, .tmp 4]) Tryz.func108 rfl rfl rfl rfl (VN rfl) ?_;simp only[Qg];refine awp_rseq [0,2] (by rfl) fun K hK=>?_;refine Qi qat (cs:=[.int .u8 0, .str [], .int .i64 0, .int .i64 0, .bool false]) (by rfl) fun k0q0 hk0q0=>?_;have hn_0q0:h k0q0=none:=by first|assumption|(simp only[V9]at hk0q0;simp only[hk0q0])
 have hf_0q0:h k0q0=none:=Bi hs_h hn_0q0;have ne_0q0_x:k0q0≠kx:=Bj hn_0q0 eb_x;simp+decide only[qa,ev,qH,qG,putD,VO,VP,Ka,Kb,↓qd,qb];apply hK;clear hK K;refine qvm [0,2,5] (by decide) (by decide) qCa (cs:=[.nilPtr, .nilSlice]) (by rfl) fun k1q0 hk1q0 ht1q0=>?_;simp+decide only[VO,VP,Ka];have ne_1q0_0q0:k1q0≠k0q0:=by simp only[V9]at hk1q0;simp only[hk1q0,ne_eq,not_false_eq_true]
 have hn_1q0:h k1q0=none:=by first|assumption|(simp only[V9]at hk1q0;simp only[hk1q0])
 have hf_1q0:h k1q0=none:=Bi hs_h hn_1q0;have ne_1q0_x:k1q0≠kx:=Bj hn_1q0 eb_x;obtain⟨H,hH⟩:∃H,H=h.set k0q0 ⟨[.int .u8 0, .str [], .int .i64 0, .int .i64 0, .bool false],0⟩:=⟨_,rfl⟩
 have hxH:H kx=some ⟨[.bool lf, .str s,mv, .int .i64 i,tv],0⟩:=by rw[hH];exact zqA
 have h0H:H k0q0=some ⟨[.int .u8 0, .str [], .int .i64 0, .int .i64 0, .bool false],0⟩:=by rw[hH];exact zqA
 have hsH:Sub h H:=by rw[hH];exact zqB
 rw[<-hH]at hk1q0|-
 refine qJ ?_;refine awp_rseq [0,2,5,6] (by rfl) fun K hK=>?_;simp+decide only[qa,ev,qH,qG,putD,VO,VP,Ka,Kb,↓qd,qb];apply hK;clear hK K;refine Qm ?_;refine XC [0,2,5,6] (fun g:Nat×Bld=>[(0, .ptr (.own kx) 0),(2, .ptr (.own k0q0) 0),(5, .ptr (.own k1q0) 0),(6, .int .i64 g.1)]) (fun g:Nat×Bld=>bldH H k1q0 [] g.2) (fun g:Nat×Bld=>i+g.1<=s.length/\g.2.ok 5 H k1q0/\ZP (s.drop (i+g.1)) g.2.bytes g.1=qbO s i/\g.2.bytes.length<=g.1) (fun g:Nat×Bld=>s.length-g.1) (1,Bld.none) (by rfl) (Vm _) ⟨hi,Bld.none_ok,rfl,Jt _⟩ ?_;rintro⟨n,st⟩ ⟨hn,hst,hgo,hbl⟩;simp only at hn hst hgo hbl|-
 have hsb:=BB (rest:=[]) hk1q0 hst;have hSb:=hsH.trans hsb;have hxb:=hsb _ _ hxH;have h0b:=hsb _ _ h0H;have rx:=fun o=>QB wz hxb o;refine qJ ?_;refine Zt [0,2,5,6,19] mixed (by kernel_rfl) (by rfl) (by rfl) fun K hK=>?_;simp+decide only[qa,ev,putD,VO,VQ,VP,Ka,Kb,↓qg,qc,↓Qo,qV,QA,↓qB,ql,WU,↓qF,qY,qz ag3,↓qw,qm,qR,cond_false,qo,Xa,UK,WH,qz ag9,↓Xe,Qw,WB Tryz.underlying9,XZ,VZ,Kn,Js,qi,qE,rx];try simp(disch:=omega)only[wrap_i64]
 apply hK;clear hK K;refine qI (b:=_) rfl (fun hb1=>?_) (fun hb1=>?_)
 ·try simp only[decide_eq_true_eq]at hb1
  have hin:i+n<s.length:=by omega
  have hpn:QF s ((i:Int)+n)=s.getD (i+n) 0:=by rw[show(i:Int)+(n:Int)=((i+n:Nat):Int) by omega,Wm hin]
  have hpn1:QF s ((i:Int)+((n:Int)+1))=QF s ((i+n+1:Nat):Int):=by congr 1
  rw[qey hin]at hgo;refine qP ?_;change Awp _ _ _ _ _ _ _;refine qJ ?_;refine Qm ?_;refine qJ ?_;refine awp_rseq [0,2,5,6,25] (by rfl) fun K hK=>?_;simp+decide only[ev,putD,VO,VQ,Ka,Kb,↓qg,qc];refine qO (V:= .int .u8 (s.getD (i+n) 0).toNat) (by rfl) (by rfl) (by rw[<-hpn];exact qag wz _ kx lf s mv tv i n hxb (by omega) (by omega) (by omega)) ?_;simp+decide only[qa,ev,qH,qG,putD,VO,VQ,VP,Ka,Kb,↓qw,qm,qA,cond_false,qo,Za];apply hK;clear hK K;refine UH [0,2,5,6] (fun m:Nat=>[(0, .ptr (.own kx) 0),(2, .ptr (.own k0q0) 0),(5, .ptr (.own k1q0) 0),(6, .int .i64 m)]) (fun m:Nat=>bldH H k1q0 [] st) (fun m:Nat=>n<=m/\i+m<s.length/\ZP (s.drop (i+m+1)) (st.bytes++[s.getD (i+m) 0]) (m+1)=qbO s i) ?_ ?_
  ·refine qI (b:=_) rfl (fun hb2=>?_) (fun hb2=>?_)
   ·try simp only[decide_eq_true_eq]at hb2
    have hb2':s.getD (i+n) 0=34:=(ZJ _ 34).mp hb2;rw[hb2']at hgo;refine qJ ?_;refine awp_rseq [0,2,5,6,30] (by rfl) fun K hK=>?_;simp+decide only[ev,qH,qG,putD,VO,VQ,Ka,Kb,↓qg,qc,↓qw,qm,qA,cond_false,qo,Xa];try simp(disch:=omega)only[wrap_i64]
    refine qO (V:= .int .u8 (QF s ((i:Int)+((n:Int)+1))).toNat) (by rfl) (by rfl) (qag wz _ kx lf s mv tv i ((n:Int)+1) hxb (by omega) (by omega) (by omega)) ?_;simp+decide only[qa,ev,qH,qG,putD,VO,VQ,VP,Ka,Kb,↓qw,qm,qA,cond_false,qo,Un];apply hK;clear hK K;refine qI (b:=_) rfl (fun hb3=>?_) (fun hb3=>?_)
    ·try simp only[decide_eq_false_iff_not,Jj]at hb3
     have hb3':(s.drop (i+n+1)).head?≠some 34:=by
      intro e;rw[List.head?_drop]at e;obtain⟨e1,e2⟩:=List.getElem?_eq_some_iff.1 e;rw[hpn1,Wm e1,Ko,e]at hb3;exact hb3 rfl
     rw[qfk hb3']at hgo;refine qJ ?_;refine awp_rseq [2,5,6,32] (by rfl) fun K hK=>?_;refine qO (V:= .int .i64 st.bytes.length) (by rfl) (by rfl) (qAg wz H k1q0 [] st hst) ?_;simp+decide only[qa,ev,qH,qG,putD,VO,VQ,VP,Ka,Kb,↓qw,qm,qA,cond_false,qo,Za];apply hK;clear hK K;refine qI (b:=_) rfl (fun hb4=>?_) (fun hb4=>?_)
     ·try simp only[decide_eq_true_eq]at hb4
      have hne:st.bytes=[]:=Kg (by omega);have hgo':qbO s i= .err 4:=by rw[<-hgo,if_pos hne]
      refine XE ?_;change Awp _ _ _ _ _ _ _;refine awp_rseq [2,3,4] (by rfl) fun K hK=>?_;simp+decide only[ev,qH,qG,putD,VO,VQ,if_false,Kb,↓Qu,↓Qa,qbY,evP,Vk];refine qp (by rfl) (by rfl) zqA Xb (by rfl) (by rfl) zqD (Jt _) (by rfl) ?_;simp only[VX];simp+decide only[qa,ev,qH,qG,putD,VO,VQ,VP,Ka,Kb,↓qd,qb,setAt,VY,Kj,Js,Nat.reduceAdd];apply hK;clear hK K;refine qL ?_;refine Qb h zqC (?_) ?_
      ·simp+decide only[QG,qy,qj,VQ,Ka,and_true,qy,qj,qh ZB Xb,qZ,qf,VZ,Kn,Js,Nat.reduceAdd,qD,qi,qE,allLive,JU,qf,VZ,Kn,Js,Nat.reduceAdd,qD,qi,qE,allLive,JU]
      simp+decide only[VQ,Ka,and_true,QJ,qy,qj,qh ZB Xb,qZ,qf,VZ,Kn,Js,Nat.reduceAdd,qD,qi,qE,allLive,JU,qf,VZ,Kn,Js,Nat.reduceAdd,qD,qi,qE,allLive,JU,nxA,nxR];rw[hgo'];rfl
     ·try simp only[decide_eq_false_iff_not]at hb4
      have hne:¬st.bytes=[]:=fun e=>hb4 (by rw[e];rfl);refine qP ?_;change Awp _ _ _ _ _ _ _;refine awp_rseq [2,3,4] (by rfl) fun K hK=>?_;refine QU (by rfl) (by rfl) (qvg wz H k1q0 [] st _ hk1q0 ht1q0 hst (by omega)) fun x8q0 h8q0 hx8q0=>?_;obtain⟨hv8,hh8⟩:=hx8q0;rw[hv8,hh8];rw[if_neg hne]at hgo;simp+decide only[ev,qH,qG,putD,VO,VQ,Ka,Kb,↓Qu,↓Qa,qar,evP,Ke,Vk,↓qg,qc,↓qw,qm,qA,cond_false,qo,Xa];try simp(disch:=omega)only[wrap_i64]
      refine qp (by rfl) (by rfl) zqA Xb (by rfl) (by rfl) zqD (Jt _) (by rfl) ?_;simp only[VX];simp+decide only[qa,ev,qH,qG,putD,VO,VQ,VP,Ka,Kb,↓qd,qb,setAt,VY,Kj,Js,Nat.reduceAdd];apply hK;clear hK K;refine qL ?_;try simp only[Qe,Qp]
      refine Qb h zqC (?_) ?_
      ·simp+decide only[QG,qy,qj,VQ,Ka,and_true,qy,qj,qh ZB Xb,qZ,qf,VZ,Kn,Js,Nat.reduceAdd,qD,qi,qE,allLive,JU,qf,VZ,Kn,Js,Nat.reduceAdd,qD,qi,qE,allLive,JU]
      simp+decide only[VQ,Ka,and_true,QJ,qy,qj,qh ZB Xb,qZ,qf,VZ,Kn,Js,Nat.reduceAdd,qD,qi,qE,allLive,JU,qf,VZ,Kn,Js,Nat.reduceAdd,qD,qi,qE,allLive,JU,nxA,nxR];rw[<-hgo];rfl
    ·try simp only[decide_eq_true_eq,VU]at hb3
     have hb3':QF s ((i+n+1:Nat):Int)=34:=by rw[<-hpn1];exact(ZJ _ 34).mp hb3
     have hin1:i+n+1<s.length:=qcA (by rw[hb3'];decide);rw[Wm hin1]at hb3';rw[qey hin1,hb3',qfi]at hgo;refine qP ?_;change Awp _ _ _ _ _ _ _;refine XW [0,2,5,6] (by rfl) ?_;simp+decide only[qa,ev,qH,qG,putD,VO,VQ,VP,Ka,Kb,↓qg,qc,↓qw,qm,qA,cond_false,qo,Xa,↓qd,qb,nxA,nxR];try simp(disch:=omega)only[wrap_i64]
     try simp only[Qj]
     first
     |exact⟨n+1,rfl,Vm _,by omega,by omega,by rw[<-hgo,show i+(n+1)=i+n+1 by omega,hb3']⟩
     |exact⟨n,rfl,Vm _,by omega,by omega,by rw[<-hgo,qbz (fun e=>hb2 ((ZJ _ 34).mpr e))]⟩
   ·try simp only[decide_eq_false_iff_not]at hb2
    refine qP ?_;try simp only[Qj]
    first
    |exact⟨n+1,rfl,Vm _,by omega,by omega,by rw[<-hgo,show i+(n+1)=i+n+1 by omega,hb3']⟩
    |exact⟨n,rfl,Vm _,by omega,by omega,by rw[<-hgo,qbz (fun e=>hb2 ((ZJ _ 34).mpr e))]⟩
  ·rintro m ⟨hnm,him,hgm⟩
   have hpm:QF s ((i:Int)+m)=s.getD (i+m) 0:=by rw[show(i:Int)+(m:Int)=((i+m:Nat):Int) by omega,Wm him]
   refine XW [0,2,5,6] (by rfl) ?_;simp+decide only[ev,putD,VO,VQ,Ka,Kb,↓qg,qc,nxA,nxR];refine qO (V:= .int .u8 (s.getD (i+m) 0).toNat) (by rfl) (by rfl) (by rw[<-hpm];exact qag wz _ kx lf s mv tv i m hxb (by omega) (by omega) (by omega)) ?_;refine QU (by rfl) (by rfl) (qrb wz H k1q0 [] st _ qsC ht1q0 hk1q0 hst (s.getD (i+m) 0) (by omega)) fun x10q3 h10q3 hx10q3=>?_;obtain⟨hv10,st',hst',hbt',hh10⟩:=hx10q3;rw[hh10];simp+decide only[qa,putD,VO,VP,Ka];change Awp _ _ _ _ _ _ _;refine XW [0,2,5,6] (by rfl) ?_;simp+decide only[qa,ev,qH,qG,putD,VO,VQ,VP,Ka,Kb,↓qg,qc,↓qw,qm,qA,cond_false,qo,Xa,↓qd,qb];try simp(disch:=omega)only[wrap_i64]
   try simp only[Qj]
   refine⟨(m+1,st'),rfl,Vm _,⟨by simp only;omega,hst',?_,by simp only;rw[hbt',Jc];simp;omega⟩,by simp only;omega⟩;simp only;rw[hbt',<-Nat.add_assoc];exact hgm
 ·try simp only[decide_eq_false_iff_not]at hb1
  have hend:qbO s i= .err 4:=by rw[<-hgo,List.drop_eq_nil_of_le (by omega),qfj]
  refine XE ?_;change Awp _ _ _ _ _ _ _;refine awp_rseq [2,3,4] (by rfl) fun K hK=>?_;simp+decide only[ev,qH,qG,putD,VO,VQ,if_false,Kb,↓Qu,↓Qa,qbY,evP,Vk];refine qp (by rfl) (by rfl) zqA Xb (by rfl) (by rfl) zqD (Jt _) (by rfl) ?_;simp only[VX];simp+decide only[qa,ev,qH,qG,putD,VO,VQ,VP,Ka,Kb,↓qd,qb,setAt,VY,Kj,Js,Nat.reduceAdd];apply hK;clear hK K;refine qL ?_;refine Qb h zqC (?_) ?_
  ·simp+decide only[QG,qy,qj,VQ,Ka,and_true,qy,qj,qh ZB Xb,qZ,qf,VZ,Kn,Js,Nat.reduceAdd,qD,qi,qE,allLive,JU,qf,VZ,Kn,Js,Nat.reduceAdd,qD,qi,qE,allLive,JU]
  simp+decide only[VQ,Ka,and_true,QJ,qy,qj,qh ZB Xb,qZ,qf,VZ,Kn,Js,Nat.reduceAdd,qD,qi,qE,allLive,JU,qf,VZ,Kn,Js,Nat.reduceAdd,qD,qi,qE,allLive,JU,nxA,nxR];rw[hend];rfl
set_option maxHeartbeats 1000000 in
theorem qBE(wz:World)(h:AHeap)(kx:Nat)(lf:Bool)(s:Str)(mv tv:AVal)(i:Nat)(l:List TokC)(eb_x:h kx=some ⟨[.bool lf, .str s,mv, .int .i64 i,tv],0⟩)(ht:IsL wz h 5 tv (l.map QI))(hl:l.length<=1099511627776)(h32:QF s i≠32)(hs:s.length<=1099511627776):
 ACall Tryz.prog wz 83 [.ptr (.own kx) 0] h (fun r h'=>r=nxR (Ug s i l)/\h'=h):=by
 have hs_h:Sub h h:=Vm h;have hi:=qcA h32;have hdr:(s.drop ((i:Int)).toNat).take (((s.length:Nat):Int).toNat-((i:Int)).toNat)=s.drop i:=by rw[Vr,Vr,Jr (by simp)]
 obtain⟨eqs,heqs⟩:∃e,e=List.isPrefixOf [61,61] (s.drop i):=⟨_,rfl⟩
 have hnx:Ug s i l=if (Yl l).1=true/\eqs=false then Wz s i (Yl l).2
  else if QF s i=34 then qbO s i
  else if QF s i=46/\QF s (i+1)=32 then Tok.takeE s i 6 1
  else if eqs=true then Tok.takeE s i 7 2
  else if 0<(WE s i).n\/(WE s i).e≠0 then WE s i
  else if Yf (QF s i)=true/\QF s i≠45 then qgF s i
  else qfe s i:=by rw[heqs];rfl
 refine qU (n:=110) (rs:=[.cell 2 54, .tmp 3, .tmp 4]) Tryz.func83 rfl rfl rfl rfl (VN rfl) ?_;simp only[Qg];refine awp_rseq [0,2] (by rfl) fun K hK=>?_;refine Qi qat (cs:=[.int .u8 0, .str [], .int .i64 0, .int .i64 0, .bool false]) (by rfl) fun k0q0 hk0q0=>?_;have hn_0q0:h k0q0=none:=by first|assumption|(simp only[V9]at hk0q0;simp only[hk0q0])
 have hf_0q0:h k0q0=none:=Bi hs_h hn_0q0;have ne_0q0_x:k0q0≠kx:=Bj hn_0q0 eb_x;simp+decide only[qa,ev,qH,qG,putD,VO,VP,Ka,Kb,↓qd,qb];apply hK;clear hK K;refine qJ ?_;refine awp_rseq [0,2,5,6] (by rfl) fun K hK=>?_;simp+decide only[ev,putD,VO,VQ,Ka,Kb,↓qg,qc];refine qO (V:= .tuple [.bool (Yl l).1, .bool (Yl l).2]) (by rfl) (by rfl) (qlv wz _ kx lf s mv tv i l (zqA) (ht.mono (zqB)) hl) ?_;simp+decide only[qa,ev,putD,VO,VQ,VP,Ka,Kb,↓qg,qc,↓QY,QL,QV,KY,J9,VZ,Kn,↓qd,qb,VZ,Kn,Js,Nat.reduceAdd];apply hK;clear hK K;refine Uw [0,2,6,30] mixed (by kernel_rfl) (by rfl) fun K hK=>?_;simp+decide only[ev,putD,VO,VQ,Ka,Kb,↓qdV,qc,↓qnw,vgP,qdp,qM,qK,qC,implies_true,↓qeV,qV,QA,qcL,qcM,↓qaR,ql,UK,ZH,ZI,WH,↓qhj,XU,qz ag9,qtA,qtB,WU,qz ag3,↓qkn,ZG,evO,qen Tryz.underlying9,qaU,qgt,qah,qyj,qyl,qsj,qsk,QZ,ne_eq,not_false_eq_true,ne_0q0_x.symm,QB wz eb_x,VZ,Kn,Js,qi,qE,hdr];repeat (with_reducible refine And.intro ?_ ?_;· first|trivial|omega|(intro hg;simp only[Ky,JW,Jj,VS,VT,VU,decide_eq_true_eq,decide_eq_false_iff_not,XY]at hg;omega))
 refine qdW (V:= .bool eqs) (f:=_) (cap:=_) (xs:=_) (by first|rfl|(simp+decide only[gv,qM,VQ,Ka,Xg,qK])) (fun hg=>⟨rfl,?_⟩) (fun hg=>by rw[heqs];exact qsr wz _ (s.drop i) [61,61]) ?_
 ·try simp+decide only[gv,qM,VQ,Ka,qC]at hg
  simp+decide only[evs,ev,VQ,Ka,hg,Qy,Bg,Ke,Vk,qH,qG]
 simp+decide only[qct,ev,qH,qG,putD,VO,VQ,VP,Ka,Kb,gv,qM,qC,↓qzg,Zl,vgP,qdp,qK,implies_true,YC,qnd,qnh,↓qhf,Qz,Qk,Xp,Xy];apply hK;clear hK K;refine qI (b:=_) rfl (fun hb1=>?_) (fun hb1=>?_)
 ·try simp only[Jj,Ky]at hb1
  refine awp_rseq [2,3,4] (by rfl) fun K hK=>?_;simp+decide only[ev,putD,VO,VQ,Ka,Kb,↓qg,qc];refine qO (V:=nxR (Wz s i (Yl l).2)) (by rfl) (by rfl) (qva wz _ kx lf s mv tv i _ (zqA) h32 hs) ?_;simp+decide only[ev,putD,VO,VQ,Ka,Kb,↓QY,QL,QV,KY,J9,VZ,Kn,VZ,Kn,Js,Nat.reduceAdd,nxA,nxR];refine qp (by rfl) (by rfl) zqA Xb (by rfl) (by rfl) zqD (Jt _) (by rfl) ?_;simp only[Vi,VX];simp+decide only[qa,ev,putD,VO,VQ,VP,Ka,Kb,↓qd,qb,setAt,VY,Kj,Js,Nat.reduceAdd];apply hK;clear hK K;refine qL ?_;try simp only[Qe]
  refine Qb h zqC (?_) ?_
  ·simp+decide only[QG,qy,qj,VQ,Ka,and_true,qy,qj,qh ZB Xb,qZ,qf,VZ,Kn,Js,Nat.reduceAdd,qD,qi,qE,allLive,JU,qf,VZ,Kn,Js,Nat.reduceAdd,qD,qi,qE,allLive,JU]
  simp+decide only[VQ,Ka,and_true,QJ,qy,qj,qh ZB Xb,qZ,qf,VZ,Kn,Js,Nat.reduceAdd,qD,qi,qE,allLive,JU,qf,VZ,Kn,Js,Nat.reduceAdd,qD,qi,qE,allLive,JU,nxA,nxR];rw[hnx,if_pos hb1]
 ·try simp only[VU,VS]at hb1
  have hb1':¬((Yl l).1=true/\eqs=false):=by
   rintro⟨q1,q2⟩;rcases hb1 with z|z
   ·rw[q1]at z;cases z
   ·rw[q2]at z;cases z
  rw[hnx,if_neg hb1'];refine qP ?_;change Awp _ _ _ _ _ _ _;refine qJ ?_;refine awp_rseq [0,2,7] (by rfl) fun K hK=>?_;simp+decide only[ev,putD,VO,VQ,Ka,Kb,↓qg,qc];refine qO (V:= .int .u8 (QF s i).toNat) (by rfl) (by rfl) (qdb wz _ kx lf s mv tv i (zqA) (by omega)) ?_;simp+decide only[qa,ev,putD,VO,VQ,VP,Ka,Kb,↓qd,qb];apply hK;clear hK K;refine Qm ?_;refine awp_rseq [0,2,7,39] (by rfl) fun K hK=>?_;simp+decide only[qa,ev,qH,qG,putD,VO,VQ,VP,Ka,Kb,↓qg,qc,↓qw,qm,qA,cond_false,qo,Za,↓qd,qb];apply hK;clear hK K;refine qI (b:=_) rfl (fun hb2=>?_) (fun hb2=>?_)
  ·try simp only[decide_eq_true_eq]at hb2
   have hb2':QF s i=34:=(ZJ _ 34).mp hb2;refine awp_rseq [2,3,4] (by rfl) fun K hK=>?_;simp+decide only[ev,putD,VO,VQ,Ka,Kb,↓qg,qc];refine qO (V:=nxR (qbO s i)) (by rfl) (by rfl) (qzZ wz _ kx lf s mv tv i (zqA) hi hs) ?_;simp+decide only[ev,putD,VO,VQ,Ka,Kb,↓QY,QL,QV,KY,J9,VZ,Kn,VZ,Kn,Js,Nat.reduceAdd,nxA,nxR];refine qp (by rfl) (by rfl) zqA Xb (by rfl) (by rfl) zqD (Jt _) (by rfl) ?_;simp only[Vi,VX];simp+decide only[qa,ev,putD,VO,VQ,VP,Ka,Kb,↓qd,qb,setAt,VY,Kj,Js,Nat.reduceAdd];apply hK;clear hK K;refine qL ?_;try simp only[Qe,Qp]
   refine Qb h zqC (?_) ?_
   ·simp+decide only[QG,qy,qj,VQ,Ka,and_true,qy,qj,qh ZB Xb,qZ,qf,VZ,Kn,Js,Nat.reduceAdd,qD,qi,qE,allLive,JU,qf,VZ,Kn,Js,Nat.reduceAdd,qD,qi,qE,allLive,JU]
   simp+decide only[VQ,Ka,and_true,QJ,qy,qj,qh ZB Xb,qZ,qf,VZ,Kn,Js,Nat.reduceAdd,qD,qi,qE,allLive,JU,ne_eq,qf,VZ,Kn,Js,Nat.reduceAdd,qD,qi,qE,allLive,JU,nxA,nxR,Tok.takeE];rw[if_pos hb2'];try rfl
  ·try simp only[decide_eq_false_iff_not]at hb2
   have hb2':¬QF s i=34:=fun q=>hb2 ((ZJ _ 34).mpr q);rw[if_neg hb2'];refine awp_rseq [0,2,47] (by rfl) fun K hK=>?_;simp+decide only[ev,qH,qG,putD,VO,VQ,Ka,Kb,↓qg,qc,↓qw,qm,qA,cond_false,qo,Za,↓Xf,agP,Qv,qM,qK,qC,implies_true]
   (refine ZC (V:= .int .u8 (QF s (i+1)).toNat) (f:=_) (cap:=_) (xs:=_) (by first|rfl|(simp+decide only[gv,qM,VQ,Ka,Xg,qK])) (fun hg=>⟨rfl,?_⟩) (fun hg=>qag wz _ kx lf s mv tv i 1 (zqA) (by omega) (by omega) (by omega)) ?_;· (simp+decide only[gv,qM,VQ,Ka,qC]at hg;simp+decide only[evs,ev,VQ,Ka,hg,Qy,Bg,Ke,Vk,qH,qG]<;>try rfl))
   simp+decide only[qa,ev,qH,qG,putD,VO,VQ,VP,Ka,Kb,gv,qM,qC,↓Xd,qm,agP,Qv,qK,implies_true,qA,cond_false,Zv,Zw,qo,Za,↓QW,Qz,Qk,Xp,Xy,↓qd,qb];apply hK;clear hK K;refine qI (b:=_) rfl (fun hb3=>?_) (fun hb3=>?_)
   ·try simp only[decide_eq_true_eq,Ky]at hb3
    have hb3':QF s i=46/\QF s (i+1)=32:=⟨(ZJ _ 46).mp hb3.1,(ZJ _ 32).mp hb3.2⟩
    refine awp_rseq [2,3,4] (by rfl) fun K hK=>?_;simp+decide only[ev,putD,VO,VQ,Ka,Kb,↓qg,qc];refine qO (V:=nxR (Tok.takeE s i 6 1)) (by rfl) (by rfl) (qgs wz _ kx lf s mv tv i 1 6 (zqA) (by omega) hs) ?_;simp+decide only[ev,putD,VO,VQ,Ka,Kb,↓QY,QL,QV,KY,J9,VZ,Kn,VZ,Kn,Js,Nat.reduceAdd,nxA,nxR,Tok.takeE];refine qp (by rfl) (by rfl) zqA Xb (by rfl) (by rfl) zqD (Jt _) (by rfl) ?_;simp only[Vi,VX];simp+decide only[qa,ev,putD,VO,VQ,VP,Ka,Kb,↓qd,qb,setAt,VY,Kj,Js,Nat.reduceAdd];apply hK;clear hK K;refine qL ?_;try simp only[Qe,Qp]
    refine Qb h zqC (?_) ?_
    ·simp+decide only[QG,qy,qj,VQ,Ka,and_true,qy,qj,qh ZB Xb,qZ,qf,VZ,Kn,Js,Nat.reduceAdd,qD,qi,qE,allLive,JU,qf,VZ,Kn,Js,Nat.reduceAdd,qD,qi,qE,allLive,JU]
    simp+decide only[VQ,Ka,and_true,QJ,qy,qj,qh ZB Xb,qZ,qf,VZ,Kn,Js,Nat.reduceAdd,qD,qi,qE,allLive,JU,ne_eq,qf,VZ,Kn,Js,Nat.reduceAdd,qD,qi,qE,allLive,JU,nxA,nxR,Tok.takeE];rw[if_pos hb3'];try rfl
   ·try simp only[decide_eq_false_iff_not,VS]at hb3
    have hb3':¬(QF s i=46/\QF s (i+1)=32):=fun q=>by
     rcases hb3 with z|z
     ·exact z ((ZJ _ 46).mpr q.1)
     ·exact z ((ZJ _ 32).mpr q.2)
    rw[if_neg hb3'];refine Uw [0,2,60] mixed (by kernel_rfl) (by rfl) fun K hK=>?_;simp+decide only[ev,putD,VO,VQ,Ka,Kb,↓qdV,qc,↓qcS,qV,QA,↓qai,ql,UK,WH,↓qfS,XU,qz ag9,WU,qz ag3,↓qoL,ZG,evO,qen Tryz.underlying9,qaU,qgt,qah,QZ,ne_eq,not_false_eq_true,ne_0q0_x.symm,QB wz eb_x,VZ,Kn,Js,qi,qE,hdr];repeat (with_reducible refine And.intro ?_ ?_;· first|trivial|omega|(intro hg;simp only[Ky,JW,Jj,VS,VT,VU,decide_eq_true_eq,decide_eq_false_iff_not,XY]at hg;omega))
    refine qkp (V:= .bool eqs) (by rfl) (by rfl) (by rw[heqs];exact qsr wz _ (s.drop i) [61,61]) ?_;simp+decide only[qct,ev,putD,VO,VQ,VP,Ka,Kb,↓qdo,qb];apply hK;clear hK K;refine qI (b:=_) rfl (fun hb4=>?_) (fun hb4=>?_)
    ·skip
     have h2:i+2<=s.length:=by
      rw[hb4]at heqs;have:=(Vw.1 heqs.symm).length_le;rw[K6]at this;simp at this;omega
     refine awp_rseq [2,3,4] (by rfl) fun K hK=>?_;simp+decide only[ev,putD,VO,VQ,Ka,Kb,↓qg,qc];refine qO (V:=nxR (Tok.takeE s i 7 2)) (by rfl) (by rfl) (qgs wz _ kx lf s mv tv i 2 7 (zqA) h2 hs) ?_;simp+decide only[ev,putD,VO,VQ,Ka,Kb,↓QY,QL,QV,KY,J9,VZ,Kn,VZ,Kn,Js,Nat.reduceAdd,nxA,nxR,Tok.takeE];refine qp (by rfl) (by rfl) zqA Xb (by rfl) (by rfl) zqD (Jt _) (by rfl) ?_;simp only[Vi,VX];simp+decide only[qa,ev,putD,VO,VQ,VP,Ka,Kb,↓qd,qb,setAt,VY,Kj,Js,Nat.reduceAdd];apply hK;clear hK K;refine qL ?_;try simp only[Qe,Qp]
     refine Qb h zqC (?_) ?_
     ·simp+decide only[QG,qy,qj,VQ,Ka,and_true,qy,qj,qh ZB Xb,qZ,qf,VZ,Kn,Js,Nat.reduceAdd,qD,qi,qE,allLive,JU,qf,VZ,Kn,Js,Nat.reduceAdd,qD,qi,qE,allLive,JU]
     simp+decide only[VQ,Ka,and_true,QJ,qy,qj,qh ZB Xb,qZ,qf,VZ,Kn,Js,Nat.reduceAdd,qD,qi,qE,allLive,JU,ne_eq,qf,VZ,Kn,Js,Nat.reduceAdd,qD,qi,qE,allLive,JU,nxA,nxR,Tok.takeE];rw[if_pos hb4];try rfl
    ·skip
     have hb4':¬eqs=true:=by rw[hb4];decide
     rw[if_neg hb4'];refine qP ?_;change Awp _ _ _ _ _ _ _;refine qJ ?_;refine awp_rseq [0,2,8,9,10] (by rfl) fun K hK=>?_;simp+decide only[ev,putD,VO,VQ,Ka,Kb,↓qg,qc];refine qO (V:=nxR (WE s i)) (by rfl) (by rfl) (qyC wz _ kx lf s mv tv i (zqA) hi hs) ?_;simp+decide only[ev,putD,VO,VQ,Ka,Kb,↓qg,qc,↓QY,QL,QV,KY,J9,VZ,Kn,VZ,Kn,Js,Nat.reduceAdd,nxA,nxR];refine Qi qat (cs:=[.int .u8 0, .str [], .int .i64 0, .int .i64 0, .bool false]) (by rfl) fun k11q6 hk11q6=>?_;have ne_11q6_0q0:k11q6≠k0q0:=by simp only[V9]at hk11q6;simp only[hk11q6,ne_eq,not_false_eq_true]
     have hn_11q6:h k11q6=none:=by first|assumption|(simp only[V9]at hk11q6;simp only[hk11q6])
     have hf_11q6:h k11q6=none:=Bi hs_h hn_11q6;have ne_11q6_x:k11q6≠kx:=Bj hn_11q6 eb_x;refine qp (by rfl) (by rfl) zqA Xb (by rfl) (by rfl) zqD (Jt _) (by rfl) ?_;simp only[Vi,VX];simp+decide only[qa,ev,putD,VO,VQ,VP,Ka,Kb,↓qd,qb,setAt,VY,Kj,Js,Nat.reduceAdd];apply hK;clear hK K;refine awp_rseq [0,2,8,9,10,88] (by rfl) fun K hK=>?_;simp+decide only[qa,ev,qH,qG,putD,VO,VQ,VP,Ka,Kb,↓qg,qc,↓qw,qm,qA,cond_false,qo,qau,↓Xf,agP,Qv,qM,qK,Qh,implies_true,↓Xd,Zv,Zw,Un,↓QW,Qz,Qk,ZA,ZO];apply hK;clear hK K;refine qI (b:=_) rfl (fun hb5=>?_) (fun hb5=>?_)
     ·try simp only[decide_eq_true_eq,decide_eq_false_iff_not,Jj,JW]at hb5
      have hb5':0<(WE s i).n\/(WE s i).e≠0:=hb5.imp (fun q=>by omega) id;refine awp_rseq [2,3,4] (by rfl) fun K hK=>?_;simp+decide only[ev,putD,VO,VQ,Ka,Kb,↓qF,qY,qh ZB Xb,↓qg,qc,QT,qf,VZ,Kn,Js,Nat.reduceAdd,qD,qi,qE,allLive,JU];refine qp (by rfl) (by rfl) zqA Xb (by rfl) (by rfl) zqD (Jt _) (by rfl) ?_;simp only[VX];simp+decide only[qa,ev,putD,VO,VQ,VP,Ka,Kb,↓qd,qb,setAt,VY,Kj,Js,Nat.reduceAdd];apply hK;clear hK K;refine qL ?_;try simp only[Qe]
      refine Qb h zqC (?_) ?_
      ·simp+decide only[QG,qy,qj,VQ,Ka,and_true,qy,qj,qh ZB Xb,qZ,qf,VZ,Kn,Js,Nat.reduceAdd,qD,qi,qE,allLive,JU,qf,VZ,Kn,Js,Nat.reduceAdd,qD,qi,qE,allLive,JU]
      simp+decide only[VQ,Ka,and_true,QJ,qy,qj,qh ZB Xb,qZ,qf,VZ,Kn,Js,Nat.reduceAdd,qD,qi,qE,allLive,JU,ne_eq,qf,VZ,Kn,Js,Nat.reduceAdd,qD,qi,qE,allLive,JU,nxA,nxR];rw[if_pos hb5'];try rfl
     ·try simp only[decide_eq_true_eq,decide_eq_false_iff_not,VU,VT]at hb5
      have hb5':¬(0<(WE s i).n\/(WE s i).e≠0):=fun q=>q.elim (fun q=>hb5.1 (by omega)) (fun q=>q hb5.2);rw[if_neg hb5'];refine qP ?_;change Awp _ _ _ _ _ _ _;refine qJ ?_;refine awp_rseq [0,2,99] (by rfl) fun K hK=>?_;simp+decide only[ev,putD,VO,VQ,Ka,Kb,↓qg,qc];refine qO (V:= .int .u8 (QF s i).toNat) (by rfl) (by rfl) (qdb wz _ kx lf s mv tv i (zqA) (by omega)) ?_;refine qO (V:= .bool (Yf (QF s i))) (by rfl) (by rfl) (qio wz _ _) ?_;simp+decide only[ev,putD,VO,VQ,Ka,Kb,↓qg,qc,↓Xf,agP,Qv,qM,qK,qC,implies_true]
      (refine ZC (V:= .int .u8 (QF s i).toNat) (f:=_) (cap:=_) (xs:=_) (by first|rfl|(simp+decide only[gv,qM,VQ,Ka,Xg,qK])) (fun hg=>⟨rfl,?_⟩) (fun hg=>qdb wz _ kx lf s mv tv i (zqA) (by omega)) ?_;· (simp+decide only[gv,qM,VQ,Ka,qC]at hg;simp+decide only[evs,ev,VQ,Ka,hg,Qy,Bg,Ke,Vk,qH,qG]<;>try rfl))
      simp+decide only[qa,ev,qH,qG,putD,VO,VQ,VP,Ka,Kb,gv,qM,qC,↓Xd,qm,agP,Qv,qK,implies_true,qA,cond_false,Zv,Zw,qo,Un,↓QW,Qz,Qk,Xp,Xy];apply hK;clear hK K;refine qI (b:=_) rfl (fun hb6=>?_) (fun hb6=>?_)
      ·try simp only[decide_eq_false_iff_not,Jj,Ky]at hb6
       have hb6':Yf (QF s i)=true/\QF s i≠45:=⟨hb6.1,fun q=>hb6.2 ((ZJ _ 45).mpr q)⟩
       refine awp_rseq [2,3,4] (by rfl) fun K hK=>?_;simp+decide only[ev,putD,VO,VQ,Ka,Kb,↓qg,qc];refine qO (V:=nxR (qgF s i)) (by rfl) (by rfl) (qBF wz _ kx lf s mv tv i (zqA) hi (by rw[<-Wm hi];exact hb6.1) hs) ?_;simp+decide only[ev,putD,VO,VQ,Ka,Kb,↓QY,QL,QV,KY,J9,VZ,Kn,VZ,Kn,Js,Nat.reduceAdd,nxA,nxR];refine qp (by rfl) (by rfl) zqA Xb (by rfl) (by rfl) zqD (Jt _) (by rfl) ?_;simp only[VX];simp+decide only[qa,ev,putD,VO,VQ,VP,Ka,Kb,↓qd,qb,setAt,VY,Kj,Js,Nat.reduceAdd];apply hK;clear hK K;refine qL ?_;try simp only[Qe]
       refine Qb h zqC (?_) ?_
       ·simp+decide only[QG,qy,qj,VQ,Ka,and_true,qy,qj,qh ZB Xb,qZ,qf,VZ,Kn,Js,Nat.reduceAdd,qD,qi,qE,allLive,JU,qf,VZ,Kn,Js,Nat.reduceAdd,qD,qi,qE,allLive,JU]
       simp+decide only[VQ,Ka,and_true,QJ,qy,qj,qh ZB Xb,qZ,qf,VZ,Kn,Js,Nat.reduceAdd,qD,qi,qE,allLive,JU,ne_eq,qf,VZ,Kn,Js,Nat.reduceAdd,qD,qi,qE,allLive,JU,nxA,nxR];rw[if_pos hb6'];try rfl
      ·try simp only[decide_eq_true_eq,VU,VS]at hb6
       have hb6':¬(Yf (QF s i)=true/\QF s i≠45):=fun q=>by
        rcases hb6 with z|z
        ·rw[q.1]at z;cases z
        ·exact q.2 ((ZJ _ 45).mp z)
       rw[if_neg hb6'];refine qP ?_;change Awp _ _ _ _ _ _ _;refine awp_rseq [2,3,4] (by rfl) fun K hK=>?_;simp+decide only[ev,putD,VO,VQ,Ka,Kb,↓qg,qc];refine qO (V:=nxR (qfe s i)) (by rfl) (by rfl) (qBy wz _ kx lf s mv tv i (zqA) hi hs) ?_;simp+decide only[ev,putD,VO,VQ,Ka,Kb,↓QY,QL,QV,KY,J9,VZ,Kn,VZ,Kn,Js,Nat.reduceAdd,nxA,nxR];refine qp (by rfl) (by rfl) zqA Xb (by rfl) (by rfl) zqD (Jt _) (by rfl) ?_;simp only[VX];simp+decide only[qa,ev,putD,VO,VQ,VP,Ka,Kb,↓qd,qb,setAt,VY,Kj,Js,Nat.reduceAdd];apply hK;clear hK K;refine qL ?_;refine Qb h zqC (?_) ?_
       ·simp+decide only[QG,qy,qj,VQ,Ka,and_true,qy,qj,qh ZB Xb,qZ,qf,VZ,Kn,Js,Nat.reduceAdd,qD,qi,qE,allLive,JU,qf,VZ,Kn,Js,Nat.reduceAdd,qD,qi,qE,allLive,JU]
       simp+decide only[VQ,Ka,and_true,QJ,qy,qj,qh ZB Xb,qZ,qf,VZ,Kn,Js,Nat.reduceAdd,qD,qi,qE,allLive,JU,qf,VZ,Kn,Js,Nat.reduceAdd,qD,qi,qE,allLive,JU,nxA,nxR];try rfl
end Go.Proofs.YtlhhaagmakhilaaGreatDoor
namespace Go.Proofs.YtlhhaagmakhilaaGreatDoor
open Go.AM
open Go.Proofs
open Go.Col
set_option maxRecDepth 100000
def XF(cb:Option Buf)(x:Rd):List AVal:=[QH 3 cb, .int .i64 x.line, .int .i64 x.col, .bool x.odd]
def rdH(kx:Nat)(B:AHeap)(cb mb:Option Buf)(x:Rd):AHeap:=Ql (Ql (B.set kx ⟨XF cb x,0⟩) cb) mb
def ZM(p:CardC×AVal):List AVal:=[.bool p.1.left, .str p.1.text,p.2]
structure RdInv(wz:World)(h:AHeap)(kx:Nat)(B M:AHeap)(cb mb:Option Buf)(x:Rd):Prop where
 sub:Sub h B
 subM:Sub M B
 hk:B kx=none
 okc:bufOk (B.set kx ⟨XF cb x,0⟩) 3 cb
 okm:bufOk (Ql (B.set kx ⟨XF cb x,0⟩) cb) 3 mb
 cards:(x.cards=[]/\cb=none/\mb=none)\/∃(done:List (CardC×AVal)) (c:CardC) (kc:Nat),x.cards=done.map (·.1)++[c]/\cb=some ⟨kc,(done.map ZM).flatten++[.bool c.left, .str c.text,QH 3 mb]⟩/\Yh mb=(c.marks.map UY).flatten/\∀p∈done,IsL wz M 3 p.2 (p.1.marks.map UY)
theorem qlE{H:AHeap}{b:Option Buf}{j:Nat}(hj:Ql H b j=none)(c:Blk):(Ql H b).set j c=Ql (H.set j c) b/\H j=none:=by
 cases b with
 |none=>exact⟨rfl,hj⟩
 |some b=>
  have hne:j≠b.blk:=fun e=>by subst e;rw[show Ql H (some b)=H.set b.blk ⟨b.cells,0⟩from rfl,Ve]at hj;cases hj
  exact⟨Vj _ _ _ hne,by rw[show Ql H (some b)=H.set b.blk ⟨b.cells,0⟩from rfl,Vd _ _ hne]at hj;exact hj⟩
theorem qlD{H:AHeap}{es:Nat}{b:Option Buf}(hb:bufOk H es b){j:Nat}(hj:Ql H b j=none)(c:Blk):bufOk (H.set j c) es b:=by
 cases b with
 |none=>trivial
 |some b=>
  refine⟨?_,hb.2⟩;have hne:j≠b.blk:=fun e=>by subst e;rw[show Ql H (some b)=H.set b.blk ⟨b.cells,0⟩from rfl,Ve]at hj;cases hj
  rw[Vd _ _ hne.symm];exact hb.1
theorem qot{H:AHeap}{es:Nat}{a b:Option Buf}(ha:bufOk H es a)(hb:bufOk (Ql H a) es b):Ql (Ql H a) b=Ql (Ql H b) a/\bufOk H es b/\bufOk (Ql H b) es a:=by
 cases a with
 |none=>exact⟨rfl,hb,trivial⟩
 |some a=>
  cases b with
  |none=>exact⟨rfl,trivial,ha⟩
  |some b=>
   have hne:b.blk≠a.blk:=fun e=>by
    have:=hb.1;rw[e,show Ql H (some a)=H.set a.blk ⟨a.cells,0⟩from rfl,Ve]at this;cases this
   have hb1:H b.blk=none:=by
    have:=hb.1
    rwa [show Ql H (some a)=H.set a.blk ⟨a.cells,0⟩from rfl,Vd _ _ hne]at this
   exact⟨Vj _ _ _ hne,⟨hb1,hb.2⟩,⟨(Vd _ _ hne.symm).trans ha.1,ha.2⟩⟩
theorem qkb{wz:World}{h:AHeap}{kx:Nat}{B M:AHeap}{cb mb:Option Buf}{x:Rd}(hi:RdInv wz h kx B M cb mb x){j:Nat}(hj:rdH kx B cb mb x j=none)(c:Blk):
 (rdH kx B cb mb x).set j c=rdH kx (B.set j c) cb mb x/\RdInv wz h kx (B.set j c) M cb mb x/\j≠kx/\B j=none:=by
 unfold rdH at hj;obtain⟨e1,h1⟩:=qlE hj c;obtain⟨e2,h2⟩:=qlE h1 c;have hne:j≠kx:=fun e=>by subst e;rw[Ve]at h2;cases h2
 have h3:B j=none:=by rwa [Vd _ _ hne]at h2
 have e3:(B.set kx ⟨XF cb x,0⟩).set j c=(B.set j c).set kx ⟨XF cb x,0⟩:=Vj _ _ _ hne;refine⟨?_,⟨V5 hi.sub (hi.sub.none h3),V5 hi.subM (hi.subM.none h3),(Vd _ _ hne.symm).trans hi.hk,?_,?_,hi.cards⟩,hne,h3⟩
 ·unfold rdH
  rw[e1,e2,e3]
 ·rw[<-e3]
  exact qlD hi.okc h1 c
 ·rw[<-e3,<-e2]
  exact qlD hi.okm hj c
section
variable {wz:World} {h:AHeap} {kx:Nat} {B M:AHeap} {cb mb:Option Buf} {x:Rd}
theorem RdInv.at(hi:RdInv wz h kx B M cb mb x):rdH kx B cb mb x kx=some ⟨XF cb x,0⟩:=ZY hi.okm (ZY hi.okc (Ve _ _ _))
theorem RdInv.other(hi:RdInv wz h kx B M cb mb x){j:Nat}{c:Blk}(hj:B j=some c):rdH kx B cb mb x j=some c:=
 ZY hi.okm (ZY hi.okc ((Vd _ _ (fun e=>by subst e;rw[hi.hk]at hj;cases hj)).trans hj))
theorem RdInv.above(hi:RdInv wz h kx B M cb mb x):Sub h (rdH kx B cb mb x):=fun _ _ hj=>hi.other (hi.sub _ _ hj)
theorem RdInv.put(hi:RdInv wz h kx B M cb mb x){j:Nat}{c:Blk}(hj:B j=some c)(hh:h j=none)(hM:M j=none)(d:Blk):(rdH kx B cb mb x).set j d=rdH kx (B.set j d) cb mb x/\RdInv wz h kx (B.set j d) M cb mb x:=by
 have hne:j≠kx:=fun e=>by subst e;rw[hi.hk]at hj;cases hj
 have hj1:B.set kx ⟨XF cb x,0⟩ j=some c:=(Vd _ _ hne).trans hj;have e3:(B.set kx ⟨XF cb x,0⟩).set j d=(B.set j d).set kx ⟨XF cb x,0⟩:=Vj _ _ _ hne;refine⟨?_,⟨V5 hi.sub hh,V5 hi.subM hM,(Vd _ _ hne.symm).trans hi.hk,?_,?_,hi.cards⟩⟩
 ·unfold rdH
  rw[Wv hi.okm (ZY hi.okc hj1),Wv hi.okc hj1,e3]
 ·rw[<-e3]
  exact Yk hi.okc hj1 d
 ·rw[<-e3,<-Wv hi.okc hj1]
  exact Yk hi.okm (ZY hi.okc hj1) d
theorem qlr:∀p:CardC×AVal,(ZM p).length=3:=fun _=>rfl
theorem RdInv.many(hi:RdInv wz h kx B M cb mb x):(Yh cb).length / 3=x.cards.length:=by
 rcases hi.cards with⟨c1,c2,_⟩|⟨done,c',kc,c1,c2,c3,c4⟩
 ·rw[c1,c2];rfl
 ·rw[c1,c2]
  simp only[Yh,Jc,Jp,KY,J9];rw[ZF (es:=3) (by intro y hy;obtain⟨p,_,rfl⟩:=JH.1 hy;rfl),Jp];omega
theorem qAh(P:Program){t e:TypeId}(ht:P.underlying t=some (.slice e))(es:Nat)(b:Option Buf):∀H:AHeap,YN P H t (QH es b)=⟨True, .int .i64 ((Yh b).length / es:Nat)⟩:=by
 cases b with
 |none=>intro H;simp[QH,Yh,YN,qaB,qkN,ht]
 |some b=>intro H;simp only[QH,Yh,YN,qaB,qkN,ht,cond_false]
end
end Go.Proofs.YtlhhaagmakhilaaGreatDoor
namespace Go.Proofs.YtlhhaagmakhilaaGreatDoor
open Go.AM
open Go.Proofs
open Go.Col
open Go.Tok
open Go.RowKit (Below)
set_option maxRecDepth 100000
def qho(c:CardC)(j:Nat)(t:Nx):TokC:=⟨t.kind,t.text,(atE c j).1,(atE c j).2.1,decide ((atE c j).2.1<12)⟩
def qnj(c:CardC)(i:Nat)(l:List TokC):List TokC×FaultC:=qeA c (c.text.length+1-i) i l
theorem qaf(c:CardC)(f i:Nat)(l:List TokC):qeA c (f+1) i l=
 if c.text.length<=Yo c.text (Yl l).1 i then(l,okF)
 else if qic (Ug c.text (Yo c.text (Yl l).1 i) l) l.length≠0 then(l,⟨qic (Ug c.text (Yo c.text (Yl l).1 i) l) l.length,(atE c (Yo c.text (Yl l).1 i)).1,(atE c (Yo c.text (Yl l).1 i)).2.1⟩)
 else qeA c f (Yo c.text (Yl l).1 i+(Ug c.text (Yo c.text (Yl l).1 i) l).n) (l++[qho c (Yo c.text (Yl l).1 i) (Ug c.text (Yo c.text (Yl l).1 i) l)]):=rfl
theorem qjF(c:CardC):∀(f g i:Nat) (l:List TokC),c.text.length<i+f->c.text.length<i+g->qeA c f i l=qeA c g i l
 |0,g,i,l,h,h'=>by
  have hj:=qfd c.text (Yl l).1 i;cases g with
  |zero=>rfl
  |succ g=>rw[qaf,if_pos (by omega)];rfl
 |f+1,0,i,l,h,h'=>by
  have hj:=qfd c.text (Yl l).1 i;rw[qaf,if_pos (by omega)];rfl
 |f+1,g+1,i,l,h,h'=>by
  have hj:=qfd c.text (Yl l).1 i;rw[qaf,qaf];split
  ·rfl
  ·rename_i hl
   split
   ·rfl
   ·rename_i he
    have hn:=qpp (by omega) (qib (Decidable.of_not_not he));have:=hn.n0;exact qjF c f g _ _ (by omega) (by omega)
theorem qsm(c:CardC)(i:Nat)(l:List TokC):qnj c i l=
 if c.text.length<=Yo c.text (Yl l).1 i then(l,okF)
 else if qic (Ug c.text (Yo c.text (Yl l).1 i) l) l.length≠0 then(l,⟨qic (Ug c.text (Yo c.text (Yl l).1 i) l) l.length,(atE c (Yo c.text (Yl l).1 i)).1,(atE c (Yo c.text (Yl l).1 i)).2.1⟩)
 else qnj c (Yo c.text (Yl l).1 i+(Ug c.text (Yo c.text (Yl l).1 i) l).n) (l++[qho c (Yo c.text (Yl l).1 i) (Ug c.text (Yo c.text (Yl l).1 i) l)]):=by
 have hj:=qfd c.text (Yl l).1 i;by_cases h:c.text.length<i
 ·unfold qnj
  rw[show c.text.length+1-i=0 by omega,if_pos (by omega)];rfl
 ·unfold qnj
  rw[show c.text.length+1-i=(c.text.length-i)+1 by omega,qaf];split
  ·rfl
  ·split
   ·rfl
   ·rename_i hl he
    have hn:=qpp (by omega) (qib (Decidable.of_not_not he));have:=hn.n0;exact qjF c _ _ _ _ (by omega) (by omega)
theorem qls(c:CardC)(P:TokC->Prop)(hP:∀(j:Nat) (l:List TokC),j<c.text.length->QF c.text j≠32->(Ug c.text j l).e=0->P (qho c j (Ug c.text j l))):∀(f i:Nat) (l:List TokC),(∀t∈l,P t)->∀t∈(qeA c f i l).1,P t
 |0,i,l,h=>h
 |f+1,i,l,h=>by
  rw[qaf];split
  ·exact h
  ·rename_i hl
   split
   ·exact h
   ·rename_i he
    refine qls c P hP f _ _ fun t ht=>?_;rw[JJ,BG]at ht;rcases ht with ht|rfl
    ·exact h t ht
    ·exact hP _ _ (by omega) (qku (by omega)) (qib (Decidable.of_not_not he))
theorem quV(c:CardC)(P:TokC->Prop)(hP:∀(j:Nat) (l:List TokC),validC c=true->j<c.text.length->QF c.text j≠32->(Ug c.text j l).e=0->P (qho c j (Ug c.text j l)))(l:List TokC)(h:∀t∈l,P t):∀t∈(qbk c l).1,P t:=by
 unfold qbk;split
 ·exact h
 ·rename_i h0
  have hv:validC c=true:=by
   unfold atE at h0;split at h0
   ·rename_i q;exact q.1
   ·exact absurd (show((0:Int),(0:Int),(1:Int)).2.2≠0 by decide) h0
  exact qls c P (fun j l a b d=>hP j l hv a b d) _ _ _ h
theorem qky(P:TokC->Prop):∀(cs:List CardC),(∀c∈cs,∀(j:Nat) (l:List TokC),validC c=true->j<c.text.length->QF c.text j≠32->(Ug c.text j l).e=0->P (qho c j (Ug c.text j l)))->∀(l:List TokC),(∀t∈l,P t)->∀t∈(qcv cs l).1,P t
 |[],_,l,h=>h
 |c::r,hP,l,h=>by
  rw[qcv];split
  ·exact fun t ht=>by cases ht
  ·exact qky P r (fun d hd=>hP d (by simp[hd])) _ (quV c P (hP c (by simp)) l h)
theorem qjE(c:CardC):∀(f i:Nat) (l:List TokC),l.length<=65536->(qeA c f i l).1.length<=65536
 |0,i,l,h=>h
 |f+1,i,l,h=>by
  rw[qaf];split
  ·exact h
  ·split
   ·exact h
   ·rename_i he
    refine qjE c f _ _ ?_;have hlt:¬65536<=l.length:=fun q=>by
     have h0:=qib (Decidable.of_not_not he);unfold qic at he;rw[if_pos ⟨h0,q⟩]at he;exact he (by decide)
    simp;omega
theorem qsl(c:CardC)(l:List TokC)(h:l.length<=65536):(qbk c l).1.length<=65536:=by
 unfold qbk;split
 ·exact h
 ·exact qjE c _ _ _ h
theorem qji:∀(cs:List CardC) (l:List TokC),l.length<=65536->(qcv cs l).1.length<=65536
 |[],l,h=>h
 |c::r,l,h=>by
  rw[qcv];split
  ·exact Jt _
  ·exact qji r _ (qsl c l h)
def scH(kx:Nat)(B:AHeap)(tb:Option Buf)(lf:Bool)(s:Str)(mv:AVal)(i:Nat):AHeap:=Ql (B.set kx ⟨[.bool lf, .str s,mv, .int .i64 i,QH 5 tb],0⟩) tb
structure ScInv(kx:Nat)(B:AHeap)(tb:Option Buf)(l:List TokC):Prop where
 hk:B kx=none
 ok:∀c,bufOk (B.set kx c) 5 tb
 eq:Yh tb=(l.map QI).flatten
theorem Xn{l:List TokC}:∀x∈l.map QI,x.length=5:=fun x hx=>by obtain⟨y,_,rfl⟩:=JH.1 hx;rfl
section
variable {wz:World} {kx:Nat} {B:AHeap} {tb:Option Buf} {l:List TokC} {lf:Bool} {s:Str} {mv:AVal} {i:Nat}
theorem ScInv.at(hi:ScInv kx B tb l):scH kx B tb lf s mv i kx=some ⟨[.bool lf, .str s,mv, .int .i64 i,QH 5 tb],0⟩:=ZY (hi.ok _) (Ve _ _ _)
theorem ScInv.other(hi:ScInv kx B tb l){j:Nat}{c:Blk}(hj:B j=some c):scH kx B tb lf s mv i j=some c:=
 ZY (hi.ok _) ((Vd _ _ (fun e=>by subst e;rw[hi.hk]at hj;cases hj)).trans hj)
theorem ScInv.above(hi:ScInv kx B tb l):Sub B (scH kx B tb lf s mv i):=fun _ _ hj=>hi.other hj
theorem ScInv.toks(hi:ScInv kx B tb l)(c:Blk):IsL wz (Ql (B.set kx c) tb) 5 (QH 5 tb) (l.map QI):=BH (hi.ok c) (by decide) hi.eq Xn (Vm _)
theorem ScInv.set(hi:ScInv kx B tb l)(c:Blk):(scH kx B tb lf s mv i).set kx c=Ql (B.set kx c) tb:=by
 unfold scH;rw[Wv (hi.ok _) (Ve _ _ _),Vi]
theorem ScInv.lay(hi:ScInv kx B tb l){j:Nat}(hj:scH kx B tb lf s mv i j=none)(c:Blk):
 (scH kx B tb lf s mv i).set j c=scH kx (B.set j c) tb lf s mv i/\ScInv kx (B.set j c) tb l/\j≠kx/\B j=none:=by
 have hj':=hj;unfold scH at hj;obtain⟨e1,h1⟩:=qlE hj c;have hne:j≠kx:=fun e=>by subst e;rw[Ve]at h1;cases h1
 have h3:B j=none:=by rwa [Vd _ _ hne]at h1
 have e3:∀d,(B.set kx d).set j c=(B.set j c).set kx d:=fun d=>Vj _ _ _ hne;refine⟨?_,⟨(Vd _ _ hne.symm).trans hi.hk,fun d=>?_,hi.eq⟩,hne,h3⟩
 ·unfold scH
  rw[e1,e3]
 ·rw[<-e3]
  refine qlD (hi.ok d) ?_ c;rw[<-ScInv.set hi (lf:=lf) (s:=s) (mv:=mv) (i:=i) d,Vd _ _ hne];exact hj'
theorem ScInv.down(hi:ScInv kx B tb l){B':AHeap}(hs:Sub B' B):ScInv kx B' tb l:=⟨hs.none hi.hk,fun c=>(hi.ok c).sub (Bb hs _ _),hi.eq⟩
theorem ScInv.none(hi:ScInv kx B tb l){B':AHeap}{j:Nat}{b:Blk}(hj:B j=some b)(hj':B' j=Option.none):scH kx B' tb lf s mv i j=Option.none:=by
 have hne:j≠kx:=fun e=>by rw[e,hi.hk]at hj;cases hj
 have hok:=hi.ok ⟨[],0⟩;unfold scH;cases tb with
 |none=>exact(Vd _ _ hne).trans hj'
 |some q=>
  have hq:j≠q.blk:=fun e=>by
   have:=hok.1;rw[<-e,Vd _ _ hne,hj]at this;cases this
  exact(Vd _ _ hq).trans ((Vd _ _ hne).trans hj')
theorem qnD{B':AHeap}(hs:Sub B' B):Sub (scH kx B' tb lf s mv i) (scH kx B tb lf s mv i):=by
 unfold scH;cases tb with
 |none=>exact Bb hs _ _
 |some b=>exact Bb (Bb hs _ _) _ _
end
structure ScG where
 i:Nat
 l:List TokC
 tb:Option Buf
structure ScOk(kx:Nat)(B:AHeap)(c:CardC)(R:List TokC×FaultC)(g:ScG):Prop where
 inv:ScInv kx B g.tb g.l
 i:g.i<=c.text.length
 eq:qnj c g.i g.l=R
 len:g.l.length<=65536
set_option maxHeartbeats 1000000 in
theorem qBK(wz:World)(kx:Nat)(B:AHeap)(tb:Option Buf)(c:CardC)(mv:AVal)(l:List TokC)(hi:ScInv kx B tb l)(hm:IsL wz B 3 mv (c.marks.map UY))(hml:c.marks.length<=4611686018427387904)(hct:c.text.length<=1099511627776)(hl:l.length<=65536):
 ACall Tryz.prog wz 65 [.ptr (.own kx) 0] (scH kx B tb c.left c.text mv 0)
  (fun v h'=>v=QC (qbk c l).2/\(qbk c l).1.length<=65536/\∃tb' i',h'=scH kx B tb' c.left c.text mv i'/\ScInv kx B tb' (qbk c l).1):=by
 have hlm:=hm.live;obtain⟨H0,hH0⟩:∃H0,H0=scH kx B tb c.left c.text mv 0:=⟨_,rfl⟩
 have eb_x:H0 kx=some ⟨[.bool c.left, .str c.text,mv, .int .i64 (0:Nat),QH 5 tb],0⟩:=by rw[hH0];exact hi.at
 have hs_H0:Sub B H0:=by rw[hH0];exact hi.above
 have ht0:(if (atE c 0).2.2≠0 then(l,(⟨(atE c 0).2.2,0,0⟩:FaultC))else qnj c 0 l)=qbk c l:=rfl;rw[<-hH0];refine qU (n:=82) (rs:=[.cell 2 35]) Tryz.func65 rfl rfl rfl rfl (VN rfl) ?_;simp only[Qg];refine awp_rseq [0,2] (by rfl) fun K hK=>?_;refine Qi qaE (cs:=[.int .i64 0, .int .i64 0, .int .i64 0]) (by rfl) fun k0q0 hk0q0=>?_;have hn_0q0:H0 k0q0=none:=by first|assumption|(simp only[V9]at hk0q0;simp only[hk0q0])
 have hf_0q0:B k0q0=none:=Bi hs_H0 hn_0q0;have ne_0q0_x:k0q0≠kx:=Bj hn_0q0 eb_x;simp+decide only[qa,putD,VO,VP,Ka];apply hK;clear hK K;refine qJ ?_;refine awp_rseq [0,2,4] (by rfl) fun K hK=>?_;simp+decide only[ev,putD,VO,VQ,Ka,Kb,↓qg,qc,↓Qo,qV,QA,↓qB,ql,UK,↓qF,qY,qh qri qdr,QZ,ne_eq,not_false_eq_true,ne_0q0_x.symm,QB wz eb_x,qf,VZ,Kn,Js,Nat.reduceAdd,qD,qE,allLive,JU,hlm];refine qO (V:= .tuple [Wy (atE c 0).1 (atE c 0).2.1, .int .i64 (atE c 0).2.2]) (by rfl) (by rfl) (qCH wz _ c mv 0 (hm.mono zqB) hml (by omega) (by omega)) ?_;simp+decide only[ev,putD,VO,VQ,Ka,Kb,↓qg,qc,↓QY,QL,QV,KY,J9,VZ,Kn,VZ,Kn,Js,Nat.reduceAdd,Wy];refine Qi qzf (cs:=[.int .i64 0, .int .i64 0]) (by rfl) fun k1q8 hk1q8=>?_;have ne_1q8_0q0:k1q8≠k0q0:=by simp only[V9]at hk1q8;simp only[hk1q8,ne_eq,not_false_eq_true]
 have hn_1q8:H0 k1q8=none:=by first|assumption|(simp only[V9]at hk1q8;simp only[hk1q8])
 have hf_1q8:B k1q8=none:=Bi hs_H0 hn_1q8;have ne_1q8_x:k1q8≠kx:=Bj hn_1q8 eb_x;refine qp (by rfl) (by rfl) zqA qbd (by rfl) (by rfl) zqD (Jt _) (by rfl) ?_;simp only[Vi,VX];simp+decide only[qa,ev,putD,VO,VQ,VP,Ka,Kb,↓qd,qb,setAt,VY,Kj,Js];apply hK;clear hK K;refine awp_rseq [0,2,4,19] (by rfl) fun K hK=>?_;simp+decide only[qa,ev,qH,qG,putD,VO,VQ,VP,Ka,Kb,↓qg,qc,↓qw,qm,qA,cond_false,qo,Un];apply hK;clear hK K;refine qI (b:=_) rfl (fun hb1=>?_) (fun hb1=>?_)
 ·try simp only[decide_eq_false_iff_not,Jj]at hb1
  refine awp_rseq [2] (by rfl) fun K hK=>?_;simp+decide only[ev,qH,qG,putD,VO,VQ,Ka,Kb,↓qg,qc,↓Qu,↓Qa,qtG,evP,Ke,Vk];refine qp (by rfl) (by rfl) zqA QN (by rfl) (by rfl) zqD (Jt _) (by rfl) ?_;simp only[VX];simp+decide only[qa,ev,putD,VQ,VP,Ka,setAt,VY,Kj,Js,Nat.reduceAdd];apply hK;clear hK K;refine qL ?_;try simp only[Qe]
  refine QD (?_) ?_
  ·simp+decide only[QG,qj,VQ,if_true,and_true,qj,qh Xw QN,qZ,qf,VZ,Kn,Js,Nat.reduceAdd,qi,allLive,JU,qf,VZ,Kn,Js,Nat.reduceAdd,qi,allLive,JU]
  simp+decide only[VQ,if_true,Zu,qj,qh Xw QN,qZ,qf,VZ,Kn,Js,Nat.reduceAdd,qi,allLive,JU,qf,VZ,Kn,Js,Nat.reduceAdd,qi,allLive,JU,QC];rw[if_pos hb1]at ht0;rw[<-ht0];exact⟨scH kx B tb c.left c.text mv 0,by rw[<-hH0];exact zqB,rfl,hl,tb,0,rfl,hi⟩
 ·try simp only[decide_eq_true_eq,VU]at hb1
  have hv0:(atE c 0).2.2=0:=by simpa using hb1
  rw[if_neg (by rw[hv0];simp)]at ht0;obtain⟨a1,a2,a3,a4⟩:=hi.lay (j:=k0q0) (lf:=c.left) (s:=c.text) (mv:=mv) (i:=0) (by rw[<-hH0];exact hk0q0) ⟨[.int .i64 0, .int .i64 0, .int .i64 0],0⟩;obtain⟨B1,hB1⟩:∃B1,B1=B.set k0q0 ⟨[.int .i64 0, .int .i64 0, .int .i64 0],0⟩:=⟨_,rfl⟩
  rw[<-hB1]at a1 a2;have hB1s:Sub B B1:=by rw[hB1];exact Vh a4
  have hB1k:B1 k0q0=some ⟨[.int .i64 0, .int .i64 0, .int .i64 0],0⟩:=by rw[hB1];exact Ve _ _ _
  have hv:validC c=true:=by
   unfold atE at hv0;split at hv0
   ·rename_i q;exact q.1
   ·cases hv0
  refine BI (h':=scH kx B1 tb c.left c.text mv 0) (by rw[<-a1,<-hH0];exact Vh hk1q8) ?_;refine qP ?_;change Awp _ _ _ _ _ _ _;refine qJ ?_;refine Qm ?_;refine XC [0,2] (fun g:ScG=>[(0, .ptr (.own kx) 0),(2, .ptr (.own k0q0) 0)]) (fun g:ScG=>scH kx B1 g.tb c.left c.text mv g.i) (fun g:ScG=>ScOk kx B1 c (qbk c l) g) (fun g:ScG=>c.text.length-g.i) ⟨0,l,tb⟩ (by rfl) (Vm _) ⟨a2,Jt _,ht0,hl⟩ ?_;rintro⟨i,l1,tb1⟩ ⟨i1,i2,i3,i4⟩;simp only at i1 i2 i3 i4|-
  have hjl:=qoU c.text (Yl l1).1 i i2;have hjg:=qfd c.text (Yl l1).1 i;have hnot:=qku (s:=c.text) (next:=(Yl l1).1) (i:=i);have hstep:=qsm c i l1;have hsk:=qBw wz (scH kx B1 tb1 c.left c.text mv i) kx c.left c.text mv (QH 5 tb1) i l1 i1.at (i1.toks _) (fun d=>by rw[i1.set];exact i1.toks d) (by omega) hct i2;have hst:=i1.set (lf:=c.left) (s:=c.text) (mv:=mv) (i:=i) ⟨[.bool c.left, .str c.text,mv, .int .i64 (Yo c.text (Yl l1).1 i),QH 5 tb1],0⟩;obtain⟨j,hj⟩:∃j,j=Yo c.text (Yl l1).1 i:=⟨_,rfl⟩
  rw[<-hj]at hjl hjg hnot hstep hsk hst;rw[i3]at hstep;have hval:atE c j=((atE c j).1,(atE c j).2.1,0):=by
   unfold atE;rw[if_pos ⟨hv,by omega,by omega⟩]
  refine qJ ?_;refine awp_rseq [0,2,23] (by rfl) fun K hK=>?_;simp+decide only[ev,putD,VO,VQ,Ka,Kb,↓qg,qc];refine QU (by rfl) (by rfl) (hsk) fun x4q1 h4q1 hx4q1=>?_;obtain⟨hv4,hh4⟩:=hx4q1;rw[hv4,hh4,hst];simp+decide only[qa,putD,VO,VP,Ka];apply hK;clear hK K;refine qI (b:=_) rfl (fun hb2=>?_) (fun hb2=>?_)
  ·try simp only[decide_eq_true_eq]at hb2
   refine qP ?_;change Awp _ _ _ _ _ _ _;refine Qm ?_;have hjlt:j<c.text.length:=by simpa using hb2
   have h32:=hnot hjlt;obtain⟨H1,hH1⟩:∃H1,H1=scH kx B1 tb1 c.left c.text mv j:=⟨_,rfl⟩
   have htk:IsL wz H1 5 (QH 5 tb1) (l1.map QI):=by rw[hH1];exact i1.toks _
   replace eb_x:H1 kx=some ⟨[.bool c.left, .str c.text,mv, .int .i64 j,QH 5 tb1],0⟩:=by rw[hH1];exact i1.at
   have eb_0q0:H1 k0q0=some ⟨[.int .i64 0, .int .i64 0, .int .i64 0],0⟩:=by rw[hH1];exact i1.other hB1k
   have hs_H1:Sub B H1:=by rw[hH1];exact hB1s.trans i1.above
   have htl:=htk.live;have hlen:=htk.len Tryz.underlying26;rw[Jp]at hlen;rw[if_neg (by omega)]at hstep;obtain⟨t,ht⟩:∃t,t=Ug c.text j l1:=⟨_,rfl⟩
   rw[<-ht]at hstep;show Awp _ _ _ _ _ _ (scH kx B1 tb1 c.left c.text mv j)
   rw[<-hH1];refine Wo 13 [11] [0,2,5] mixed (by kernel_rfl) (by rfl) fun K hK=>?_;simp only[Ki,V8,VE,KQ];simp+decide only[ev,putD,VO,VQ,Ka,Kb,↓Zd,qc,↓Uh,qV,QA,↓Yd,ql,UK,↓ZN,XU,qh qri qdr,WU,qz ag3,QB wz eb_x,qf,VZ,Kn,Js,Nat.reduceAdd,qD,qi,qE,allLive,JU,hlm];refine Xu (V:= .tuple [Wy (atE c j).1 (atE c j).2.1, .int .i64 (atE c j).2.2]) (by rfl) (by rfl) (by first|trivial|(simp+decide only[Be,XL,and_true,Kb,QC,UY,Wy,qgI,nxA,nxR,Ve,JK];done)|(simp[Be,XL,Bf];done)) (fun g hg=>qCH wz _ c mv j (hm.mono (hs_H1.trans hg)) hml (by omega) (by omega)) ?_;simp+decide only[ev,putD,VO,VQ,Ka,Kb,↓Zd,qc,↓qrW,QL,QV,KY,J9,VZ,Kn,VZ,Kn,Js,Nat.reduceAdd,Wy];refine qdH (by rfl) ?_;refine Qi qzf (cs:=[.int .i64 0, .int .i64 0]) (by rfl) fun k5q12 hk5q12=>?_;have hn_5q12:H1 k5q12=none:=by first|assumption|(simp only[V9]at hk5q12;simp only[hk5q12])
   have hf_5q12:B k5q12=none:=Bi hs_H1 hn_5q12;have ne_5q12_x:k5q12≠kx:=Bj hn_5q12 eb_x;have ne_5q12_0q0:k5q12≠k0q0:=Bj hn_5q12 eb_0q0;rw[qa];try simp only[YK]
   refine qp (by rfl) (by rfl) zqA qbd (by rfl) (by rfl) zqD (Jt _) (by rfl) ?_;simp only[Vi,VX];simp+decide only[qa,ev,putD,VO,VQ,VP,Ka,Kb,↓qd,qb,setAt,VY,Kj,Js];apply hK;clear hK K;refine awp_rseq [0,2,5,7,8,9] (by rfl) fun K hK=>?_;simp+decide only[ev,putD,VO,VQ,Ka,Kb,↓qg,qc];refine qO (V:=nxR t) (by rfl) (by rfl) (by rw[ht];exact qBE wz _ kx c.left c.text mv (QH 5 tb1) j l1 (zqA) (htk.mono zqB) (by omega) h32 hct) ?_;simp+decide only[ev,putD,VO,VQ,Ka,Kb,↓qg,qc,↓QY,QL,QV,KY,J9,VZ,Kn,VZ,Kn,Js,Nat.reduceAdd,nxA,nxR];refine Qi qat (cs:=[.int .u8 0, .str [], .int .i64 0, .int .i64 0, .bool false]) (by rfl) fun k6q6 hk6q6=>?_;have ne_6q6_5q12:k6q6≠k5q12:=by simp only[V9]at hk6q6;simp only[hk6q6,ne_eq,not_false_eq_true]
   have hn_6q6:H1 k6q6=none:=by first|assumption|(simp only[V9]at hk6q6;simp only[hk6q6])
   have hf_6q6:B k6q6=none:=Bi hs_H1 hn_6q6;have ne_6q6_x:k6q6≠kx:=Bj hn_6q6 eb_x;have ne_6q6_0q0:k6q6≠k0q0:=Bj hn_6q6 eb_0q0;refine qp (by rfl) (by rfl) zqA Xb (by rfl) (by rfl) zqD (Jt _) (by rfl) ?_;simp only[Vi,VX];simp+decide only[qa,ev,putD,VO,VQ,VP,Ka,Kb,↓qd,qb,setAt,VY,Kj,Js,Nat.reduceAdd];apply hK;clear hK K;refine qJ ?_;refine awp_rseq [0,2,5,7,8,9,51] (by rfl) fun K hK=>?_;simp+decide only[qa,ev,qH,qG,putD,VO,VQ,VP,Ka,Kb,↓qg,qc,↓qw,qm,qA,cond_false,qo,Za,↓Xf,agP,Qv,qM,qK,qC,implies_true,↓YL,qV,QA,qcL,qcM,↓Xj,ql,qeu,ZH,ZI,↓Zn,XT,YY,qeE,qz qaw,↓qdn,Qw,qiU,qiV,↓Xd,Zv,Zw,Ua,↓QW,Qz,Qk,Xp,Xy,QZ,ne_eq,not_false_eq_true,ne_5q12_x.symm,ne_6q6_x.symm,QB wz eb_x,VZ,Kn,Js,htl,hlen];apply hK;clear hK K;refine UH [0,2,5,7,8,9] (fun z:Unit=>[(0, .ptr (.own kx) 0),(2, .ptr (.own k0q0) 0),(5, .ptr (.own k5q12) 0),(7, .ptr (.own k6q6) 0),(8, .int .i64 t.n),(9, .int .i64 (qic t l1.length))]) (fun z:Unit=>(H1.set k5q12 ⟨[.int .i64 (atE c j).1, .int .i64 (atE c j).2.1],0⟩).set k6q6 ⟨[.int .u8 t.kind.toNat, .str t.text, .int .i64 0, .int .i64 0, .bool false],0⟩) (fun z:Unit=>True) ?_ ?_
   ·refine qI (b:=_) rfl (fun hb3=>?_) (fun hb3=>?_)
    ·try simp only[decide_eq_true_eq,Ky]at hb3
     have hee:qic t l1.length=3:=by unfold qic;rw[if_pos ⟨hb3.1,by omega⟩]
     refine XW [0,2,5,7,8,9] (by rfl) ?_;simp+decide only[qa,ev,qH,qG,putD,VO,VP,Ka,Kb,and_true,↓qd,qb,QC];try simp only[Qj]
     first
     |exact⟨(),by rw[hee];rfl,Vm _,trivial⟩
     |exact⟨(),by rw[hee];rfl,Vm _⟩
    ·try simp only[decide_eq_false_iff_not,VS]at hb3
     have hee:qic t l1.length=t.e:=by unfold qic;rw[if_neg (fun q=>hb3.elim (fun z=>z q.1) (fun z=>z (by omega)))]
     refine qP ?_;try simp only[Qj]
     first
     |exact⟨(),by rw[hee];rfl,Vm _,trivial⟩
     |exact⟨(),by rw[hee];rfl,Vm _⟩
   ·intro _ _
    refine qJ ?_;refine awp_rseq [0,2,5,7,8,9,53] (by rfl) fun K hK=>?_;simp+decide only[qa,ev,qH,qG,putD,VO,VQ,VP,Ka,Kb,↓qg,qc,↓qw,qm,qA,cond_false,qo,Un];apply hK;clear hK K;refine qI (b:=_) rfl (fun hb4=>?_) (fun hb4=>?_)
    ·try simp only[decide_eq_false_iff_not,Jj]at hb4
     rw[if_pos hb4]at hstep;have hSB:Sub (scH kx B tb1 c.left c.text mv j) H1:=by rw[hH1];exact qnD hB1s
     have hz0:(scH kx B tb1 c.left c.text mv j) k0q0=none:=i1.none hB1k a4;have hz5:=Bi hSB hn_5q12;have hz6:=Bi hSB hn_6q6;refine awp_rseq [2] (by rfl) fun K hK=>?_;simp+decide only[ev,qH,qG,putD,VO,VQ,Ka,Kb,↓qg,qc,↓qF,qY,qh qeG qbd,↓Qu,↓Qa,Wi,evP,Ke,Vk,QZ,ne_eq,not_false_eq_true,ne_6q6_5q12.symm,QT,qf,VZ,Kn,Js,qi,allLive,JU];refine qp (by rfl) (by rfl) zqA QN (by rfl) (by rfl) zqD (Jt _) (by rfl) ?_;simp only[VX];simp+decide only[qa,ev,putD,VQ,VP,Ka,setAt,VY,Kj,Js,Nat.reduceAdd];apply hK;clear hK K;refine qL ?_;try simp only[Qe,Qp]
     refine QD (?_) ?_
     ·simp+decide only[QG,qj,VQ,if_true,and_true,qj,qh Xw QN,qZ,qf,VZ,Kn,Js,Nat.reduceAdd,qi,allLive,JU,qf,VZ,Kn,Js,Nat.reduceAdd,qi,allLive,JU]
     simp+decide only[VQ,if_true,Zu,qj,qh Xw QN,qZ,qf,VZ,Kn,Js,Nat.reduceAdd,qi,allLive,JU,qf,VZ,Kn,Js,Nat.reduceAdd,qi,allLive,JU,QC];rw[hstep];exact⟨scH kx B tb1 c.left c.text mv j,zqB,rfl,i4,tb1,j,rfl,i1.down hB1s⟩
    ·try simp only[decide_eq_true_eq,VU]at hb4
     have hez:qic t l1.length=0:=by simpa using hb4
     rw[if_neg (by rw[hez];simp)]at hstep;have hte:=qib hez;have hlt:l1.length<65536:=by
      unfold qic at hez;split at hez
      ·cases hez
      ·rename_i q;exact Nat.lt_of_not_le fun z=>q ⟨hte,z⟩
     have hnk:NxOk c.text j t:=by
      rw[ht]at hte|-
      exact next_ok hjlt (by rwa [Wm hjlt]at h32) hte
     have hn0:=hnk.n0;have hn1:=hnk.n1;refine qP ?_;change Awp _ _ _ _ _ _ _;refine qhb 5 [1,2,3] [k5q12] [0,2,7,8] mixed (by kernel_rfl) (by rfl) fun K hK=>?_;simp only[Ki,V8,VE,KQ];simp+decide only[YK,ev,qH,qG,putD,VO,VQ,Ka,Kb,↓ZN,XU,qh qeG qbd,↓Yd,ql,qsd,qz ag3,↓qfA,qm,qA,cond_false,qo,XZ,qdm,QZ,ne_eq,not_false_eq_true,ne_6q6_5q12.symm,QT,qf,VZ,Kn,Js,qi,allLive,JU];refine And.intro (by simp(decide:=true) [qdk,ev,VQ]) ?_;refine qcn ?_;refine qp (by rfl) (by rfl) zqA qbd (by rfl) (by rfl) zqD (Jt _) (by rfl) ?_;simp only[Vi,VX];rw[qa];refine And.intro (by intro k hk;simp only[KX,Bn,or_false]at hk;first|rfl|(first|subst hk|(rcases hk with rfl|rfl|rfl|rfl|rfl));all_goals (simp[Bf,ne_6q6_5q12.symm]<;>rfl)) ?_;simp+decide only[ev,putD,VO,VQ,Ka,Kb,↓qnT,ql,qBr,setAt,VY,Kj,Js,Nat.reduceAdd];refine qcn ?_;refine qp (by rfl) (by rfl) zqA sz4 (by rfl) (by rfl) zqD (Jt _) (by rfl) ?_;simp only[Vi,VX];rw[qa];refine And.intro (by intro k hk;simp only[KX,Bn,or_false]at hk;first|rfl|(first|subst hk|(rcases hk with rfl|rfl|rfl|rfl|rfl));all_goals (simp[Bf,ne_6q6_5q12.symm]<;>rfl)) ?_;simp+decide only[qlf,ev,putD,VQ,VP,Ka,setAt,VY,Kj];apply hK;clear hK K;refine Wo 7 [0] [0,2,8] mixed (by kernel_rfl) (by rfl) fun K hK=>?_;simp only[Ki,V8,VE,KQ];simp+decide only[ev,putD,VO,VQ,Ka,Kb,↓Zd,qc,↓Uh,qV,QA,↓Yd,ql,qeu,↓ZN,XU,qz qaw,qh ZB Xb,QZ,ne_eq,not_false_eq_true,ne_5q12_x.symm,ne_6q6_x.symm,QB wz eb_x,QT,qf,VZ,Kn,Js,Nat.reduceAdd,qD,qi,qE,allLive,JU,htl];refine qdH (by rfl) ?_;refine Qr (cs:=QI (qho c j t)) (by kernel_rfl) fun k12q6 hk12q6=>?_;have ne_12q6_5q12:k12q6≠k5q12:=by simp only[V9]at hk12q6;simp only[hk12q6,ne_eq,not_false_eq_true]
     have ne_12q6_6q6:k12q6≠k6q6:=by simp only[V9]at hk12q6;simp only[hk12q6,ne_eq,not_false_eq_true]
     have hn_12q6:H1 k12q6=none:=by first|assumption|(simp only[V9]at hk12q6;simp only[hk12q6])
     have hf_12q6:B k12q6=none:=Bi hs_H1 hn_12q6;have ne_12q6_x:k12q6≠kx:=Bj hn_12q6 eb_x;have ne_12q6_0q0:k12q6≠k0q0:=Bj hn_12q6 eb_0q0;rw[qa];try simp only[YK]
     refine Xt (es:=5) (zs:=l1.map QI) (xs:=[QI (qho c j t)]) (hZ:=B1.set kx ⟨[.bool c.left, .str c.text,mv, .int .i64 j,QH 5 tb1],0⟩) (b:=tb1) (by rfl) (by rfl) Tryz.underlying26 Tryz.underlying26 (fun k e=>by cases e) Xb qha qat (by rfl) (by decide) (by rfl) (i1.ok _) i1.eq Xn (by rw[show Ql (B1.set kx ⟨[.bool c.left, .str c.text,mv, .int .i64 j,QH 5 tb1],0⟩) tb1=H1 from hH1.symm];exact zqB) (by rfl) (Ba (Ve _ _ _) (by simp[QI]) (by rfl) (by rfl) (.exact 1) (KL _)) (by rfl) (by simp;omega) (by simp;omega) fun tb2 h12 o1 o2 o3=>?_;have hlv2:=QP 5 tb2;simp+decide only[ev,putD,VO,VQ,Ka,Kb,↓Qo,qV,QA,↓qB,ql,qeu,Js];refine qp (v:=QH 5 tb2) (by rfl) (by rfl) (o3 _ _ (ZY o1 (Ve _ _ _))) qCi hlv2 (by cases tb2<;>rfl) (by cases tb2<;>simp[QH]) (Jt _) (by cases tb2<;>rfl) ?_;rw[show(QH 5 tb2).cells=[QH 5 tb2] by cases tb2<;>rfl];simp only[setAt,VY,Kj];simp+decide only[qa,putD,VP,Ka];apply hK;clear hK K;have j1:ScInv kx B1 tb2 (l1++[qho c j t]):=⟨i1.hk,fun d=>by have:=Yk o1 (Ve _ _ _) d;rwa [Vi]at this,by rw[o2,Bd];rfl⟩
     have hfor:Sub (scH kx B1 tb2 c.left c.text mv j) (h12.set kx ⟨[.bool c.left, .str c.text,mv, .int .i64 j,QH 5 tb2],0⟩):=by
      have:=Bb o3 kx ⟨[.bool c.left, .str c.text,mv, .int .i64 j,QH 5 tb2],0⟩;rw[Wv o1 (Ve _ _ _),Vi]at this;exact this
     refine BI (h':=scH kx B1 tb2 c.left c.text mv j) hfor ?_;have r13:=fun o=>QB wz (j1.at (lf:=c.left) (s:=c.text) (mv:=mv) (i:=j)) o;refine XW [0,2] (by rfl) ?_;simp+decide only[ev,putD,VO,VQ,Ka,Kb,↓qg,qc,↓Qo,qV,QA,↓qB,ql,WU,↓qF,qY,qz ag3,↓qw,qm,qR,cond_false,qo,Xa,VZ,Kn,Js,qi,QC,r13];try simp(disch:=omega)only[wrap_i64]
     refine qp (v:= .int .i64 ((j:Int)+t.n)) (by rfl) (by rfl) j1.at sz3 (by rfl) (by rfl) (by simp) (Jt _) (by rfl) ?_;simp only[setAt,VX,VY,Kj];rw[j1.set,show(j:Int)+(t.n:Int)=((j+t.n:Nat):Int) by omega];simp+decide only[qa,putD,VP,Ka];try simp only[Qj,Yc]
     exact⟨⟨j+t.n,l1++[qho c j t],tb2⟩,rfl,Vm _,⟨j1,hn1,hstep.symm,by simp only[Jc,KY,J9];omega⟩,by simp only;omega⟩
  ·try simp only[decide_eq_false_iff_not]at hb2
   refine XE ?_;change Awp _ _ _ _ _ _ _;have hjge:¬j<c.text.length:=by simpa using hb2
   obtain⟨H1,hH1⟩:∃H1,H1=scH kx B1 tb1 c.left c.text mv j:=⟨_,rfl⟩
   have eb_0q0:H1 k0q0=some ⟨[.int .i64 0, .int .i64 0, .int .i64 0],0⟩:=by rw[hH1];exact i1.other hB1k
   have hs_H1:Sub B H1:=by rw[hH1];exact hB1s.trans i1.above
   rw[if_pos (by omega)]at hstep;show Awp _ _ _ _ _ _ (scH kx B1 tb1 c.left c.text mv j)
   rw[<-hH1];refine awp_rseq [2] (by rfl) fun K hK=>?_;simp+decide only[ev,qH,qG,putD,VO,VQ,if_false,Kb,↓Qu,↓Qa,Yn,evP,Vk];refine qp (by rfl) (by rfl) zqA QN (by rfl) (by rfl) zqD (Jt _) (by rfl) ?_;simp only[VX];simp+decide only[qa,ev,putD,VQ,VP,Ka,setAt,VY,Kj,Js,Nat.reduceAdd];apply hK;clear hK K;refine qL ?_;refine QD (?_) ?_
   ·simp+decide only[QG,qj,VQ,if_true,and_true,qj,qh Xw QN,qZ,qf,VZ,Kn,Js,Nat.reduceAdd,qi,allLive,JU,qf,VZ,Kn,Js,Nat.reduceAdd,qi,allLive,JU]
   simp+decide only[VQ,if_true,Zu,qj,qh Xw QN,qZ,qf,VZ,Kn,Js,Nat.reduceAdd,qi,allLive,JU,qf,VZ,Kn,Js,Nat.reduceAdd,qi,allLive,JU,QC];have hSB:Sub (scH kx B tb1 c.left c.text mv j) H1:=by rw[hH1];exact qnD hB1s
   have hz0:(scH kx B tb1 c.left c.text mv j) k0q0=none:=i1.none hB1k a4;rw[hstep];exact⟨scH kx B tb1 c.left c.text mv j,zqB,rfl,i4,tb1,j,rfl,i1.down hB1s⟩
end Go.Proofs.YtlhhaagmakhilaaGreatDoor
namespace Go.Proofs.YtlhhaagmakhilaaGreatDoor
open Go.AM
open Go.Proofs
open Go.Col
set_option maxRecDepth 100000
theorem qgv{x:Rd}{l:List CardC}{c:CardC}(hx:x.cards=l++[c])(line col:Int)(t:Str):addE x line col t=⟨l++[qgA c line col t],line,col,qdi (c.text++t)⟩:=by
 unfold addE;rw[hx];simp
theorem qiZ(es:Nat)(b:Buf):QH es (some b)= .slice (.own b.blk) 0 (b.cells.length / es) (.grow es):=rfl
theorem qsA(wz:World)(h:AHeap)(kx:Nat)(B M:AHeap)(cb mb:Option Buf)(x:Rd)(hi:RdInv wz h kx B M cb mb x)(hx:x.cards≠[])(line col:Int)(t:Str)(hb:∀c∈x.cards,c.text.length<=549755813888/\c.marks.length<=549755813888)(hn:x.cards.length<=549755813888)(ht:t.length<=80):
 ACall Tryz.prog wz 80 [.ptr (.own kx) 0, .int .i64 line, .int .i64 col, .str t] (rdH kx B cb mb x)
  (fun v h'=>v= .tuple []/\∃cb' mb',h'=rdH kx B cb' mb' (addE x line col t)/\RdInv wz h kx B M cb' mb' (addE x line col t)):=by
 rcases hi.cards with⟨c1,_⟩|⟨done,c,kc,c1,c2,c3,c4⟩
 ·exact absurd c1 hx
 have hD:((done.map ZM).flatten).length=done.length*3:=by
  rw[ZF (es:=3) (by intro y hy;obtain⟨p,_,rfl⟩:=JH.1 hy;rfl),Jp]
 have hlen:x.cards.length=done.length+1:=by rw[c1];simp
 have hcm:c∈x.cards:=by rw[c1];simp
 obtain⟨b1,b2⟩:=hb c hcm;have hokc:=hi.okc;have hokm:=hi.okm;have hL:((done.map ZM).flatten++[.bool c.left, .str c.text,QH 3 mb]).length / 3=done.length+1:=by
  rw[Jc,hD];simp only[KY,J9];omega
 have hv:QH 3 cb= .slice (.own kc) 0 (done.length+1) (.grow 3):=by
  rw[c2,qiZ,hL]
 subst c2;have hkc:kc≠kx:=fun e=>by
  have:=hokc.1;simp only[e,Ve]at this;cases this
 have hBc:B kc=none:=by
  have:=hokc.1
  rwa [Vd _ _ hkc]at this
 have call:=qCG wz (Ql (B.set kx ⟨XF (some ⟨kc,(done.map ZM).flatten++[.bool c.left, .str c.text,QH 3 mb]⟩) x,0⟩) (some ⟨kc,(done.map ZM).flatten++[.bool c.left, .str c.text,QH 3 mb]⟩)) kx kc (done.map ZM).flatten done.length mb c x.line x.col x.odd line col t
  (by rw[show Ql (B.set kx ⟨XF (some ⟨kc,(done.map ZM).flatten++[.bool c.left, .str c.text,QH 3 mb]⟩) x,0⟩) (some ⟨kc,(done.map ZM).flatten++[.bool c.left, .str c.text,QH 3 mb]⟩)=(B.set kx ⟨XF (some ⟨kc,(done.map ZM).flatten++[.bool c.left, .str c.text,QH 3 mb]⟩) x,0⟩).set kc ⟨(done.map ZM).flatten++[.bool c.left, .str c.text,QH 3 mb],0⟩from rfl,Vd _ _ hkc.symm,Ve];unfold XF;rw[hv])
  (Ve _ _ _) hD hokm c3 (by omega) (by omega) (by omega)
 refine call.mono fun v h' hr=>?_;obtain⟨e1,mb',e2,o1,o2⟩:=hr;have hadd:=qgv c1 line col t;have hL':((done.map ZM).flatten++[.bool c.left, .str (qgA c line col t).text,QH 3 mb']).length / 3=done.length+1:=by
  rw[Jc,hD];simp only[KY,J9];omega
 have hcells:XF (some ⟨kc,(done.map ZM).flatten++[.bool c.left, .str (qgA c line col t).text,QH 3 mb']⟩) (addE x line col t)=[.slice (.own kc) 0 (done.length+1) (.grow 3), .int .i64 line, .int .i64 col, .bool (qdi (c.text++t))]:=by
  unfold XF;rw[hadd,qiZ,hL']
 have hH:(((Ql (B.set kx ⟨XF (some ⟨kc,(done.map ZM).flatten++[.bool c.left, .str c.text,QH 3 mb]⟩) x,0⟩) (some ⟨kc,(done.map ZM).flatten++[.bool c.left, .str c.text,QH 3 mb]⟩)).set kx ⟨[.slice (.own kc) 0 (done.length+1) (.grow 3), .int .i64 line, .int .i64 col, .bool (qdi (c.text++t))],0⟩).set kc ⟨(done.map ZM).flatten++[.bool c.left, .str (qgA c line col t).text,QH 3 mb'],0⟩)
  =Ql (B.set kx ⟨XF (some ⟨kc,(done.map ZM).flatten++[.bool c.left, .str (qgA c line col t).text,QH 3 mb']⟩) (addE x line col t),0⟩) (some ⟨kc,(done.map ZM).flatten++[.bool c.left, .str (qgA c line col t).text,QH 3 mb']⟩):=by
  rw[hcells];simp only[Ql];rw[Vj _ _ _ hkc.symm,Vi,Vi]
 rw[hH]at e2 o1;refine⟨e1,_,mb',e2,⟨hi.sub,hi.subM,hi.hk,?_,o1, .inr ⟨done,qgA c line col t,kc,by rw[hadd],?_,o2,c4⟩⟩⟩
 ·refine⟨(Vd _ _ hkc).trans hBc,?_,?_⟩
  ·rw[Jc,hD]
   simp only[KY,J9];omega
  ·have hlv:=hokc.2.2
   rw[qbc,Ky]at hlv|-
   refine⟨hlv.1,?_⟩;show(true && (true && ((QH 3 mb').live && true)))=true
   rw[QP];rfl
 ·have hleft:(qgA c line col t).left=c.left:=rfl
  rw[hleft]
theorem qou{H:AHeap}{es:Nat}{b:Option Buf}{j:Nat}{c d:Blk}(hb:bufOk (H.set j c) es b):Ql (H.set j d) b=(Ql H b).set j d/\bufOk H es b/\Ql H b j=H j:=by
 cases b with
 |none=>exact⟨rfl,trivial,rfl⟩
 |some b=>
  have hne:b.blk≠j:=fun e=>by
   have:=hb.1;rw[e,Ve]at this;cases this
  have h1:H b.blk=none:=by have:=hb.1;rwa [Vd _ _ hne]at this
  exact⟨Vj _ _ _ hne,⟨h1,hb.2⟩,Vd _ _ hne.symm⟩
theorem RdInv.chunks{wz:World}{h:AHeap}{kx:Nat}{B M:AHeap}{cb mb:Option Buf}{x:Rd}(hi:RdInv wz h kx B M cb mb x):∃zs:List (List AVal),Yh cb=zs.flatten/\(∀z∈zs,z.length=3)/\zs.length=x.cards.length:=by
 rcases hi.cards with⟨c1,c2,_⟩|⟨done,c,kc,c1,c2,c3,c4⟩
 ·exact⟨[],by rw[c2];rfl,by simp,by rw[c1];rfl⟩
 ·refine⟨done.map ZM++[[.bool c.left, .str c.text,QH 3 mb]],by rw[c2];simp[Yh],?_,by rw[c1];simp⟩
  intro z hz;rw[JJ]at hz;rcases hz with hz|hz
  ·obtain⟨p,_,rfl⟩:=JH.1 hz;rfl
  ·rw[BG.1 hz];rfl
theorem RdInv.push{wz:World}{h:AHeap}{kx:Nat}{B M:AHeap}{cb mb:Option Buf}{x:Rd}(hi:RdInv wz h kx B M cb mb x)(left:Bool){cb':Option Buf}{h5:AHeap}
 (o1:bufOk (Ql (B.set kx ⟨XF cb x,0⟩) mb) 3 cb') (o2:Yh cb'=Yh cb++[.bool left, .str [], .nilSlice]) (o3:Sub (Ql (Ql (B.set kx ⟨XF cb x,0⟩) mb) cb') h5):
 RdInv wz h kx (Ql B mb) (Ql M mb) cb' none ⟨x.cards++[⟨left,[],[]⟩],x.line,x.col,x.odd⟩/\Sub (rdH kx (Ql B mb) cb' none ⟨x.cards++[⟨left,[],[]⟩],x.line,x.col,x.odd⟩) (h5.set kx ⟨XF cb' ⟨x.cards++[⟨left,[],[]⟩],x.line,x.col,x.odd⟩,0⟩)/\(∀j c,B j=some c->Ql B mb j=some c)/\∀j c,B j=some c->M j=none->Ql M mb j=none:=by
 obtain⟨q1,q2,q3⟩:=qot hi.okc hi.okm;obtain⟨p1,p2,p3⟩:=qou (d:=⟨XF cb x,0⟩) q2;have hsub:Sub B (Ql B mb):=BJ p2;rw[p1]at o1 o3;obtain⟨r1,r2,r3⟩:=qou (d:=⟨XF cb' ⟨x.cards++[⟨left,[],[]⟩],x.line,x.col,x.odd⟩,0⟩) o1;obtain⟨s1,_,_⟩:=qou (d:=⟨XF cb x,0⟩) o1;have pM:bufOk M 3 mb:=p2.sub hi.subM;have hsubM:Sub M (Ql M mb):=BJ pM;have hMB:Sub (Ql M mb) (Ql B mb):=by
  cases mb with
  |none=>exact hi.subM
  |some b=>exact Bb hi.subM _ _
 refine⟨⟨hi.sub.trans hsub,hMB,p3.trans hi.hk,?_,trivial, .inr ?_⟩,?_,fun j c hj=>hsub _ _ hj,fun j c hj hM=>?_⟩
 ·have:=Yk o1 (Ve _ _ _) ⟨XF cb' ⟨x.cards++[⟨left,[],[]⟩],x.line,x.col,x.odd⟩,0⟩
  rwa [Vi]at this
 ·have hsome:∃kc,cb'=some ⟨kc,Yh cb++[.bool left, .str [], .nilSlice]⟩:=by
   cases cb' with
   |none=>simp[Yh]at o2
   |some b=>exact⟨b.blk,by rw[<-o2];rfl⟩
  obtain⟨kc',hcb'⟩:=hsome;rcases hi.cards with⟨c1,c2,c3⟩|⟨done,c,kc,c1,c2,c3,c4⟩
  ·refine⟨[],⟨left,[],[]⟩,kc',by rw[c1];rfl,by rw[hcb',c2];rfl,rfl,by simp⟩
  ·refine⟨done++[(c,QH 3 mb)],⟨left,[],[]⟩,kc',by rw[c1];simp,?_,rfl,?_⟩
   ·rw[hcb',c2]
    simp[Yh,ZM,QH]
   ·intro p hp
    rw[JJ]at hp;rcases hp with hp|hp
    ·exact(c4 p hp).mono hsubM
    ·rw[BG.1 hp]
     exact BH pM (by decide) c3 (by intro y hy;obtain⟨m,_,rfl⟩:=JH.1 hy;rfl) (Vm _)
 ·show Sub (Ql ((Ql B mb).set kx ⟨XF cb' ⟨x.cards++[⟨left,[],[]⟩],x.line,x.col,x.odd⟩,0⟩) cb') _
  rw[r1];rw[s1]at o3;have:=Bb o3 kx ⟨XF cb' ⟨x.cards++[⟨left,[],[]⟩],x.line,x.col,x.odd⟩,0⟩
  rwa [Vi]at this
 ·cases mb with
  |none=>exact hM
  |some b=>
   have:j≠b.blk:=fun e=>by
    have:=p2.1;rw[<-e,hj]at this;cases this
   exact(Vd _ _ this).trans hM
theorem take1{x:Rd}{r:RowC}(h1:r.more=false)(h2:x.odd=true):takeE x r=(x,⟨4,x.line,x.col⟩):=by unfold takeE;rw[h1,h2];rfl
theorem take2{x:Rd}{r:RowC}(h1:r.more=false)(h2:x.odd=false):takeE x r=(addE ⟨x.cards++[⟨decide (r.col<12),[],[]⟩],x.line,x.col,x.odd⟩ r.line r.col r.text,okF):=by unfold takeE;rw[h1,h2];rfl
theorem take3{x:Rd}{r:RowC}(h1:r.more=true)(h2:x.cards=[]):takeE x r=(x,⟨6,r.line,7⟩):=by unfold takeE;rw[h1,if_neg (by simp),if_neg (by simp),if_pos h2]
theorem qCg{x:Rd}{r:RowC}(h1:r.more=true)(h2:x.cards≠[])(h3:r.col<12\/(x.odd=true/\r.text.getD 0 0≠34)):takeE x r=(x,⟨4,r.line,r.col⟩):=by unfold takeE;rw[h1,if_neg (by simp),if_neg (by simp),if_neg h2,if_pos h3]
theorem qCf{x:Rd}{r:RowC}(h1:r.more=true)(h2:x.cards≠[])(h3:¬(r.col<12\/(x.odd=true/\r.text.getD 0 0≠34)))(h4:x.odd=true):takeE x r=(addE x r.line (r.col+1) (r.text.drop 1),okF):=by unfold takeE;rw[h1,if_neg (by simp),if_neg (by simp),if_neg h2,if_neg h3,if_pos h4]
theorem qCe{x:Rd}{r:RowC}(h1:r.more=true)(h2:x.cards≠[])(h3:¬(r.col<12\/(x.odd=true/\r.text.getD 0 0≠34)))(h4:x.odd=false):takeE x r=(addE x r.line r.col r.text,okF):=by unfold takeE;rw[h1,if_neg (by simp),if_neg (by simp),if_neg h2,if_neg h3,if_neg (by rw[h4];decide)]
theorem qBv(wz:World)(h:AHeap)(kx:Nat)(B M:AHeap)(cb mb:Option Buf)(x:Rd)(hi:RdInv wz h kx B M cb mb x)(r:RowC)(hb:∀c∈x.cards,c.text.length<=549755813887/\c.marks.length<=549755813887)(hn:x.cards.length<=549755813887)(ht:r.text.length<=80)(ht0:r.text≠[])(hc0:0<=r.col)(hc1:r.col<=80):
 ACall Tryz.prog wz 62 [.ptr (.own kx) 0,qkD r] (rdH kx B cb mb x)
  (fun v h'=>v=QC (takeE x r).2/\∃B' M' cb' mb',h'=rdH kx B' cb' mb' (takeE x r).1/\RdInv wz h kx B' M' cb' mb' (takeE x r).1/\Sub B B'/\∀j,B j≠none->M j=none->M' j=none):=by
 have hlvc:=QP 3 cb;have hmany:=hi.many;have hlen:=qAh Tryz.prog Tryz.underlying101 3 cb;rw[hmany]at hlen;have htp:0<r.text.length:=List.length_pos_iff.2 ht0;refine qU (n:=100) (rs:=[.cell 4 35]) Tryz.func62 rfl rfl rfl rfl (VN rfl) ?_;simp only[Qg];refine awp_rseq [0,3,4] (by rfl) fun K hK=>?_;refine Wt (by rfl) (by rfl) (by rfl) fun k0q0 hk0q0=>?_;try have hf_0q0:(rdH kx B cb mb x) k0q0=none:=by first|assumption|(simp only[V9]at hk0q0;simp only[hk0q0])
 skip;refine Qi qaE (cs:=[.int .i64 0, .int .i64 0, .int .i64 0]) (by rfl) fun k0q1 hk0q1=>?_;have ne_0q1_0q0:k0q1≠k0q0:=by simp only[V9]at hk0q1;simp only[hk0q1,ne_eq,not_false_eq_true]
 try have hf_0q1:(rdH kx B cb mb x) k0q1=none:=by first|assumption|(simp only[V9]at hk0q1;simp only[hk0q1])
 simp+decide only[qa,ev,putD,VO,VQ,VP,Ka,VX,Js,qkD];obtain⟨a1,a2,a3,a4⟩:=qkb hi hk0q0 ⟨[.int .i64 r.line, .bool r.more, .str r.text, .int .i64 r.col],0⟩;have hk1':rdH kx (B.set k0q0 ⟨[.int .i64 r.line, .bool r.more, .str r.text, .int .i64 r.col],0⟩) cb mb x k0q1=none:=by rw[<-a1];exact hk0q1
 obtain⟨b1,b2,b3,b4⟩:=qkb a2 hk1' ⟨[.int .i64 0, .int .i64 0, .int .i64 0],0⟩;have hheap:((rdH kx B cb mb x).set k0q0 ⟨[.int .i64 r.line, .bool r.more, .str r.text, .int .i64 r.col],0⟩).set k0q1 ⟨[.int .i64 0, .int .i64 0, .int .i64 0],0⟩=rdH kx ((B.set k0q0 ⟨[.int .i64 r.line, .bool r.more, .str r.text, .int .i64 r.col],0⟩).set k0q1 ⟨[.int .i64 0, .int .i64 0, .int .i64 0],0⟩) cb mb x:=by rw[a1,b1]
 have hat:(((rdH kx B cb mb x).set k0q0 ⟨[.int .i64 r.line, .bool r.more, .str r.text, .int .i64 r.col],0⟩).set k0q1 ⟨[.int .i64 0, .int .i64 0, .int .i64 0],0⟩) kx=some ⟨XF cb x,0⟩:=by rw[hheap];exact b2.at
 have hrx:=fun o=>QB wz hat o;apply hK;clear hK K;refine qJ ?_;refine Qm ?_;refine awp_rseq [0,3,4,13] (by rfl) fun K hK=>?_;simp+decide only[qa,ev,qH,qG,putD,VO,VQ,VP,Ka,Kb,↓qB,ql,qtv,↓qF,qY,qz ag4,↓YI,Zl,YC,↓qg,qc,↓Xf,agP,Qv,qM,qK,qC,implies_true,↓YL,qV,QA,qcL,qcM,↓Xj,qev,ZH,ZI,↓Zn,XT,YY,qeE,↓QW,Qz,Qk,Xp,Xy,↓qd,qb,QZ,ne_eq,not_false_eq_true,ne_0q1_0q0.symm,QT,VZ,Kn,Js,qD,hrx,XF];apply hK;clear hK K;refine qI (b:=_) rfl (fun hb1=>?_) (fun hb1=>?_)
 ·try simp only[Jj,Ky]at hb1
  refine awp_rseq [4] (by rfl) fun K hK=>?_;simp+decide only[ev,qH,qG,putD,VO,VQ,Ka,Kb,↓qg,qc,↓Qo,qV,QA,↓qB,ql,qia,↓qF,qY,qh qeG qbd,↓Qu,↓Qa,Wi,evP,Ke,Vk,qf,VZ,Kn,Js,Nat.reduceAdd,qi,allLive,JU,hrx,XF];refine qp (by rfl) (by rfl) zqA QN (by rfl) (by rfl) zqD (Jt _) (by rfl) ?_;simp only[Vi,VX];simp+decide only[qa,ev,putD,VQ,VP,Ka,setAt,VY,Kj,Js,Nat.reduceAdd];apply hK;clear hK K;refine qL ?_;try simp only[Qe,Qp]
  refine Qb (rdH kx B cb mb x) zqC (?_) ?_
  ·simp+decide only[QG,qj,VQ,if_true,and_true,qj,qh Xw QN,qZ,qf,VZ,Kn,Js,Nat.reduceAdd,qi,allLive,JU,qf,VZ,Kn,Js,Nat.reduceAdd,qi,allLive,JU]
  simp+decide only[VQ,if_true,Zu,qj,qh Xw QN,qZ,qf,VZ,Kn,Js,Nat.reduceAdd,qi,allLive,JU,ne_eq,qf,VZ,Kn,Js,Nat.reduceAdd,qi,allLive,JU,QC];rw[take1 hb1.1 hb1.2];exact⟨rfl,B,M,cb,mb,rfl,hi,Vm _,fun _ _ h=>h⟩
 ·try simp only[VU,VS]at hb1
  refine awp_rseq [0,3,4,28] (by rfl) fun K hK=>?_;simp+decide only[qa,ev,putD,VO,VQ,VP,Ka,Kb,↓qB,ql,qtv,↓qF,qY,qz ag4,↓YI,Zl,YC,↓qd,qb,QZ,ne_eq,not_false_eq_true,ne_0q1_0q0.symm,QT,VZ,Kn,Js,qD];apply hK;clear hK K;refine qI (b:=_) rfl (fun hb2=>?_) (fun hb2=>?_)
  ·try simp only[Jj]at hb2
   rw[hheap];obtain⟨B₁,hB₁⟩:∃B₁,B₁=(B.set k0q0 ⟨[.int .i64 r.line, .bool r.more, .str r.text, .int .i64 r.col],0⟩).set k0q1 ⟨[.int .i64 0, .int .i64 0, .int .i64 0],0⟩:=⟨_,rfl⟩
   rw[<-hB₁]at b2|-
   have e0:B₁ k0q0=some ⟨[.int .i64 r.line, .bool r.more, .str r.text, .int .i64 r.col],0⟩:=by rw[hB₁,Vd _ _ ne_0q1_0q0.symm,Ve]
   have e1:B₁ k0q1=some ⟨[.int .i64 0, .int .i64 0, .int .i64 0],0⟩:=by rw[hB₁,Ve]
   have s0:=fun o=>QB wz (b2.other e0) o;have sx:=fun o=>QB wz b2.at o;obtain⟨q1,q2,q3⟩:=qot b2.okc b2.okm;obtain⟨zs,z1,z2,z3⟩:=b2.chunks;refine Wo 10 [0] [0,3,4] mixed (by kernel_rfl) (by rfl) fun K hK=>?_;simp only[Ki,V8,VE,KQ];simp+decide only[ev,qH,qG,putD,VO,VQ,Ka,Kb,↓Zd,qc,↓Uh,qV,QA,↓Yd,ql,qcg,↓ZN,XU,qz qjI,qgn,qz ag3,↓qfA,qm,qA,cond_false,qo,XZ,↓qac,↓Qa,qyO,evP,Ke,Vk,VZ,Kn,Js,qi,XF,hlvc,s0,sx];refine qdH (by rfl) ?_;refine Qr (cs:=[.bool (decide (r.col<12)), .str [], .nilSlice]) (by kernel_rfl) fun k5q9 hk5q9=>?_;try have hf_5q9:(rdH kx B cb mb x) k5q9=none:=by first|assumption|(simp only[V9]at hk5q9;simp only[hk5q9])
   rw[qa];try simp only[YK]
   refine Xt (es:=3) (zs:=zs) (xs:=[[.bool (decide (r.col<12)), .str [], .nilSlice]]) (hZ:=Ql (B₁.set kx ⟨XF cb x,0⟩) mb) (b:=cb) (by rfl) (by rfl) Tryz.underlying101 Tryz.underlying101 (fun k e=>by cases e) qdr qCJ qAH (by rfl) (by decide) (by rfl) q3 z1 z2 (by rw[<-q1];exact Vh hk5q9) (by rfl) (Ba (Ve _ _ _) (by simp) (by rfl) (by rfl) (.exact 1) (KL _)) (by rfl) (by simp;omega) (by simp;omega) fun cb' h5 o1 o2 o3=>?_;have hlv':=QP 3 cb';simp+decide only[ev,putD,VO,VQ,Ka,Kb,↓Qo,qV,QA,↓qB,ql,qcg,Js];refine qp (v:=QH 3 cb') (by rfl) (by rfl) (o3 _ _ (ZY o1 (ZY q2 (Ve _ _ _)))) qCk hlv' (by cases cb'<;>rfl) (by cases cb'<;>simp[XF,QH]) (Jt _) (by cases cb'<;>rfl) ?_;rw[show(QH 3 cb').cells=[QH 3 cb'] by cases cb'<;>rfl];simp only[setAt,XF,VY];simp+decide only[qa,putD,VP,Ka];apply hK;clear hK K;obtain⟨i1,u1,u2,u3⟩:=b2.push (decide (r.col<12)) o1 (by rw[o2,List.flatten_append,<-z1];rfl) o3;refine BI (h':=rdH kx (Ql B₁ mb) cb' none ⟨x.cards++[⟨decide (r.col<12),[],[]⟩],x.line,x.col,x.odd⟩) u1 ?_;have t0:=fun o=>QB wz (i1.other (u2 _ _ e0)) o;have hb':∀c∈x.cards++[⟨decide (r.col<12),[],[]⟩],c.text.length<=549755813888/\c.marks.length<=549755813888:=by
    intro c hc;rw[JJ]at hc;rcases hc with hc|hc
    ·have:=hb c hc
     omega
    ·rw[BG.1 hc]
     exact⟨by simp,by simp⟩
   refine XW [4] (by rfl) ?_;simp+decide only[ev,putD,VO,VQ,Ka,Kb,↓qg,qc,↓qB,ql,qhZ,↓qF,qY,qz ag3,qgn,qkd,qz ag9,ne_eq,VZ,Kn,Js,qi,qE,QC,t0];refine QU (by rfl) (by rfl) (qsA wz h kx _ _ cb' none _ i1 (by simp) r.line r.col r.text hb' (by simp;omega) ht) fun x6q7 h6q7 hx6q7=>?_;obtain⟨-,cb2,mb2,rfl,i2⟩:=hx6q7;have hz:=i2.other (u2 _ _ e1);have hsB:Sub B (Ql B₁ mb):=fun j c hj=>u2 _ _ (by rw[hB₁];exact V5 (V5 (Vm _) a4) (by rwa [Vd _ _ ne_0q1_0q0]at b4) j c hj);have hsM:∀j,B j≠none->M j=none->Ql M mb j=none:=fun j hj hM=>by
    cases hjc:B j with
    |none=>exact absurd hjc hj
    |some c=>exact u3 j c (by rw[hB₁];exact V5 (V5 (Vm _) a4) (by rwa [Vd _ _ ne_0q1_0q0]at b4) j c hjc) hM
   have hfin:=take2 (x:=x) (r:=r) (by simpa using hb2) (by simpa[hb2]using hb1);simp+decide only[qa,putD,VO,VP,Ka];change Awp _ _ _ _ _ _ _;refine awp_rseq [4] (by rfl) fun K hK=>?_;simp+decide only[ev,qH,qG,putD,VO,VQ,if_false,Kb,↓Qu,↓Qa,Yn,evP,Vk];refine qp (v:= .agg [.int .i64 0, .int .i64 0, .int .i64 0]) (by rfl) (by rfl) hz QN (by rfl) (by rfl) (by simp[]) (Jt _) (by rfl) ?_;simp only[setAt,VX,VY,Kj,Js,Nat.reduceAdd];rw[YH hz];simp+decide only[qa,putD,VP,Ka];apply hK;clear hK K;refine qL ?_;refine QD (?_) ?_
   ·simp+decide only[QG,qj,VQ,if_true,and_true,qj,qh Xw QN,qf,VZ,Kn,Js,Nat.reduceAdd,qi,allLive,JU,qf,VZ,Kn,Js,Nat.reduceAdd,qi,allLive,JU,QB wz hz]
   simp+decide only[VQ,if_true,Zu,qj,qh Xw QN,qf,VZ,Kn,Js,Nat.reduceAdd,qi,allLive,JU,qf,VZ,Kn,Js,Nat.reduceAdd,qi,allLive,JU,QB wz hz];refine⟨_,Vm _,?_⟩;rw[hfin];exact⟨rfl,_,_,_,_,rfl,i2,hsB,hsM⟩
  ·try simp only[VU]at hb2
   refine awp_rseq [0,3,4,53] (by rfl) fun K hK=>?_;simp+decide only[qa,ev,qH,qG,putD,VO,VQ,VP,Ka,Kb,↓qg,qc,↓Qo,qV,QA,↓qB,ql,qcg,↓qF,qY,qz qjI,↓Xe,Qw,↓qw,qm,qA,cond_false,qo,Za,↓qd,qb,VZ,Js,hrx,XF,hlvc,hlen];apply hK;clear hK K;refine qI (b:=_) rfl (fun hb3=>?_) (fun hb3=>?_)
   ·try simp only[decide_eq_true_eq]at hb3
    refine awp_rseq [4] (by rfl) fun K hK=>?_;simp+decide only[ev,putD,VO,VQ,Ka,Kb,↓qB,ql,qhZ,↓qF,qY,qz ag3,QZ,ne_eq,not_false_eq_true,ne_0q1_0q0.symm,QT,VZ,Js,qi];refine qO (V:=QC ⟨6,r.line,7⟩) (by rfl) (by rfl) (qir wz _ 6 r.line 7) ?_;refine qp (by rfl) (by rfl) zqA QN (by rfl) (by rfl) zqD (Jt _) (by rfl) ?_;simp only[Vi,VX];simp+decide only[qa,ev,putD,VO,VQ,VP,Ka,setAt,VY,Kj,Js,Nat.reduceAdd,QC];apply hK;clear hK K;refine qL ?_;try simp only[Qe,Qp]
    refine Qb (rdH kx B cb mb x) zqC (?_) ?_
    ·simp+decide only[QG,qj,VQ,if_true,and_true,qj,qh Xw QN,qZ,qf,VZ,Kn,Js,Nat.reduceAdd,qi,allLive,JU,qf,VZ,Kn,Js,Nat.reduceAdd,qi,allLive,JU]
    simp+decide only[VQ,if_true,Zu,qj,qh Xw QN,qZ,qf,VZ,Kn,Js,Nat.reduceAdd,qi,allLive,JU,ne_eq,qf,VZ,Kn,Js,Nat.reduceAdd,qi,allLive,JU,QC];rw[take3 (by simpa using hb2) (Kg (by omega))];exact⟨rfl,B,M,cb,mb,rfl,hi,Vm _,fun _ _ h=>h⟩
   ·try simp only[decide_eq_false_iff_not]at hb3
    have hm:r.more=true:=by simpa using hb2
    have hne:x.cards≠[]:=fun e=>hb3 (by rw[e];rfl);refine awp_rseq [0,3,4,63] (by rfl) fun K hK=>?_;simp+decide only[qa,ev,qH,qG,putD,VO,VQ,VP,Ka,Kb,↓qB,ql,qgn,↓qF,qY,qz ag3,↓qw,qm,qA,cond_false,qo,XZ,↓qg,qc,↓Xf,agP,Qv,qM,qK,Xg,We,qC,Qh,qpK,implies_true,↓YL,qV,QA,qcL,qcM,↓Xj,qev,ZH,ZI,↓Zn,XT,YY,qdg,qtI,qz ag4,qkd,qz ag9,↓qrg,qgc,qer Tryz.underlying9,qne,qni,↓Xd,Zv,Zw,Un,↓qdf,Qz,Qk,ZA,qii,Xy,ZO,qif,qih,↓QW,↓qd,qb,QZ,ne_eq,not_false_eq_true,ne_0q1_0q0.symm,QT,VZ,Kn,Js,qD,qi,qE,hrx,XF,Int.toNat_zero];repeat (with_reducible refine And.intro ?_ ?_;· first|trivial|omega|(intro hg;simp only[Ky,JW,Jj,VS,VT,VU,decide_eq_true_eq,decide_eq_false_iff_not,XY]at hg;omega))
    apply hK;clear hK K;refine qI (b:=_) rfl (fun hb4=>?_) (fun hb4=>?_)
    ·try simp only[decide_eq_true_eq,decide_eq_false_iff_not,Jj,Ky,JW]at hb4
     refine awp_rseq [4] (by rfl) fun K hK=>?_;simp+decide only[ev,putD,VO,VQ,Ka,Kb,↓qB,ql,qhZ,↓qF,qY,qz ag3,qgn,QZ,ne_eq,not_false_eq_true,ne_0q1_0q0.symm,QT,VZ,Kn,Js,qi];refine qO (V:=QC ⟨4,r.line,r.col⟩) (by rfl) (by rfl) (qir wz _ 4 r.line r.col) ?_;refine qp (by rfl) (by rfl) zqA QN (by rfl) (by rfl) zqD (Jt _) (by rfl) ?_;simp only[Vi,VX];simp+decide only[qa,ev,putD,VO,VQ,VP,Ka,setAt,VY,Kj,Js,Nat.reduceAdd,QC];apply hK;clear hK K;refine qL ?_;try simp only[Qe,Qp]
     refine Qb (rdH kx B cb mb x) zqC (?_) ?_
     ·simp+decide only[QG,qj,VQ,if_true,and_true,qj,qh Xw QN,qZ,qf,VZ,Kn,Js,Nat.reduceAdd,qi,allLive,JU,qf,VZ,Kn,Js,Nat.reduceAdd,qi,allLive,JU]
     simp+decide only[VQ,if_true,Zu,qj,qh Xw QN,qZ,qf,VZ,Kn,Js,Nat.reduceAdd,qi,allLive,JU,ne_eq,qf,VZ,Kn,Js,Nat.reduceAdd,qi,allLive,JU,QC];rw[qCg hm hne (hb4.imp id (fun e=>⟨e.1,fun q=>e.2 (by rw[q];rfl)⟩))];exact⟨rfl,B,M,cb,mb,rfl,hi,Vm _,fun _ _ h=>h⟩
    ·try simp only[decide_eq_true_eq,decide_eq_false_iff_not,VU,VS,VT]at hb4
     have hnq:¬(r.col<12\/(x.odd=true/\r.text.getD 0 0≠34)):=by
      rintro(e|⟨e1,e2⟩)
      ·exact hb4.1 e
      ·rcases hb4.2 with e|e
       ·rw[e1]at e;cases e
       ·exact e2 ((ZJ _ 34).mp e)
     refine awp_rseq [0,3,4,84] (by rfl) fun K hK=>?_;simp+decide only[qa,ev,putD,VO,VQ,VP,Ka,Kb,↓qg,qc,↓Qo,qV,QA,↓qB,ql,qev,↓qF,qY,qz ag4,↓qd,qb,VZ,Kn,Js,qD,hrx,XF];apply hK;clear hK K;refine qI (b:=_) rfl (fun hb5=>?_) (fun hb5=>?_)
     ·skip
      rw[hheap];obtain⟨B₁,hB₁⟩:∃B₁,B₁=(B.set k0q0 ⟨[.int .i64 r.line, .bool r.more, .str r.text, .int .i64 r.col],0⟩).set k0q1 ⟨[.int .i64 0, .int .i64 0, .int .i64 0],0⟩:=⟨_,rfl⟩
      rw[<-hB₁]at b2|-
      have e0:B₁ k0q0=some ⟨[.int .i64 r.line, .bool r.more, .str r.text, .int .i64 r.col],0⟩:=by rw[hB₁,Vd _ _ ne_0q1_0q0.symm,Ve]
      have e1:B₁ k0q1=some ⟨[.int .i64 0, .int .i64 0, .int .i64 0],0⟩:=by rw[hB₁,Ve]
      have s0:=fun o=>QB wz (b2.other e0) o;have sx:=fun o=>QB wz b2.at o;have hcut:(r.text.drop (1:Int).toNat).take ((r.text.length:Int).toNat-(1:Int).toNat)=r.text.drop 1:=by
       rw[Vr,show Int.toNat 1=1 from rfl,Jr (by simp)]
      refine qbD 9 mixed (by kernel_rfl) (by rfl) (by rfl) ?_;simp+decide only[ev,qH,qG,putD,VO,VQ,Ka,Kb,↓qg,qc,↓qB,ql,qhZ,↓qF,qY,qz ag3,qgn,↓qw,qm,qA,cond_false,qo,Xa,qkd,qz ag9,ne_eq,VZ,Kn,Js,qi,qE,QC,s0];try simp(disch:=omega)only[wrap_i64]
      try simp+decide only[ev,qH,qG,putD,VO,VQ,Ka,Kb,↓Wp,ZG,evO,qen Tryz.underlying9,qaU,qgt,qah,hcut]
      repeat (with_reducible refine And.intro ?_ ?_;· first|trivial|omega|(intro hg;simp only[Ky,JW,Jj,VS,VT,VU,decide_eq_true_eq,decide_eq_false_iff_not,XY]at hg;omega))
      refine QU (by rfl) (by rfl) (qsA wz h kx _ _ cb mb _ b2 hne r.line (r.col+1) (r.text.drop 1) (by intro c hc;have:=hb c hc;omega) (by omega) (by simp;omega)) fun x12q9 h12q9 hx12q9=>?_;obtain⟨-,cb2,mb2,rfl,i2⟩:=hx12q9;have hz:=i2.other e1;have hsB:Sub B B₁:=fun j c hj=>by rw[hB₁];exact V5 (V5 (Vm _) a4) (by rwa [Vd _ _ ne_0q1_0q0]at b4) j c hj
      have hsM:∀j,B j≠none->M j=none->M j=none:=fun _ _ h=>h;have hfin:=qCf (x:=x) (r:=r) hm hne hnq hb5;simp+decide only[qa,putD,VO,if_false];change Awp _ _ _ _ _ _ _;refine awp_rseq [4] (by rfl) fun K hK=>?_;simp+decide only[ev,qH,qG,putD,VO,VQ,if_false,Kb,↓Qu,↓Qa,Yn,evP,Vk];refine qp (v:= .agg [.int .i64 0, .int .i64 0, .int .i64 0]) (by rfl) (by rfl) hz QN (by rfl) (by rfl) (by simp[]) (Jt _) (by rfl) ?_;simp only[setAt,VX,VY,Kj,Js,Nat.reduceAdd];rw[YH hz];simp+decide only[qa,putD,VP,Ka];apply hK;clear hK K;refine qL ?_;refine QD (?_) ?_
      ·simp+decide only[QG,qj,VQ,if_true,and_true,qj,qh Xw QN,qf,VZ,Kn,Js,Nat.reduceAdd,qi,allLive,JU,qf,VZ,Kn,Js,Nat.reduceAdd,qi,allLive,JU,QB wz hz]
      simp+decide only[VQ,if_true,Zu,qj,qh Xw QN,qf,VZ,Kn,Js,Nat.reduceAdd,qi,allLive,JU,qf,VZ,Kn,Js,Nat.reduceAdd,qi,allLive,JU,QB wz hz];refine⟨_,Vm _,?_⟩;rw[hfin];exact⟨rfl,_,_,_,_,rfl,i2,hsB,hsM⟩
     ·skip
      rw[hheap];obtain⟨B₁,hB₁⟩:∃B₁,B₁=(B.set k0q0 ⟨[.int .i64 r.line, .bool r.more, .str r.text, .int .i64 r.col],0⟩).set k0q1 ⟨[.int .i64 0, .int .i64 0, .int .i64 0],0⟩:=⟨_,rfl⟩
      rw[<-hB₁]at b2|-
      have e0:B₁ k0q0=some ⟨[.int .i64 r.line, .bool r.more, .str r.text, .int .i64 r.col],0⟩:=by rw[hB₁,Vd _ _ ne_0q1_0q0.symm,Ve]
      have e1:B₁ k0q1=some ⟨[.int .i64 0, .int .i64 0, .int .i64 0],0⟩:=by rw[hB₁,Ve]
      have s0:=fun o=>QB wz (b2.other e0) o;have sx:=fun o=>QB wz b2.at o;refine XW [4] (by rfl) ?_;simp+decide only[ev,putD,VO,VQ,Ka,Kb,↓qg,qc,↓qB,ql,qhZ,↓qF,qY,qz ag3,qgn,qkd,qz ag9,ne_eq,VZ,Kn,Js,qi,qE,QC,s0];refine QU (by rfl) (by rfl) (qsA wz h kx _ _ cb mb _ b2 hne r.line r.col r.text (by intro c hc;have:=hb c hc;omega) (by omega) ht) fun x1q7 h1q7 hx1q7=>?_;obtain⟨-,cb2,mb2,rfl,i2⟩:=hx1q7;have hz:=i2.other e1;have hsB:Sub B B₁:=fun j c hj=>by rw[hB₁];exact V5 (V5 (Vm _) a4) (by rwa [Vd _ _ ne_0q1_0q0]at b4) j c hj
      have hsM:∀j,B j≠none->M j=none->M j=none:=fun _ _ h=>h;have hfin:=qCe (x:=x) (r:=r) hm hne hnq hb5;simp+decide only[qa,putD,VO,VP,Ka];change Awp _ _ _ _ _ _ _;refine awp_rseq [4] (by rfl) fun K hK=>?_;simp+decide only[ev,qH,qG,putD,VO,VQ,if_false,Kb,↓Qu,↓Qa,Yn,evP,Vk];refine qp (v:= .agg [.int .i64 0, .int .i64 0, .int .i64 0]) (by rfl) (by rfl) hz QN (by rfl) (by rfl) (by simp[]) (Jt _) (by rfl) ?_;simp only[setAt,VX,VY,Kj,Js,Nat.reduceAdd];rw[YH hz];simp+decide only[qa,putD,VP,Ka];apply hK;clear hK K;refine qL ?_;refine QD (?_) ?_
      ·simp+decide only[QG,qj,VQ,if_true,and_true,qj,qh Xw QN,qf,VZ,Kn,Js,Nat.reduceAdd,qi,allLive,JU,qf,VZ,Kn,Js,Nat.reduceAdd,qi,allLive,JU,QB wz hz]
      simp+decide only[VQ,if_true,Zu,qj,qh Xw QN,qf,VZ,Kn,Js,Nat.reduceAdd,qi,allLive,JU,qf,VZ,Kn,Js,Nat.reduceAdd,qi,allLive,JU,QB wz hz];refine⟨_,Vm _,?_⟩;rw[hfin];exact⟨rfl,_,_,_,_,rfl,i2,hsB,hsM⟩
theorem qAf(wz:World)(h:AHeap)(v:AVal)(xs:List (List AVal))(hv:IsL wz h 3 v xs):ACall Tryz.prog wz 63 [v] h (fun r h'=>r=Yp v/\h'=h):=by
 have hlen:=hv.len Tryz.underlying124;have h3:=hv.slice3 Tryz.underlying124 qhp .i64 .i64 none rfl;refine qU (n:=9) (rs:=[.tmp 2]) Tryz.func63 rfl rfl rfl rfl (VN rfl) ?_;simp only[Qg];refine awp_rseq [0] (by rfl) fun K hK=>?_;simp+decide only[qa,ev,qH,qG,putD,VO,VP,Ka,Kb,↓qd,qb];apply hK;clear hK K;refine awp_rseq [2] (by rfl) fun K hK=>?_;simp+decide only[qa,ev,putD,VO,VQ,VP,Ka,Kb,↓qg,qc,↓Xe,Qw,↓Wp,ZG,evO,↓qd,qb,hlen,h3];apply hK;clear hK K;refine qL ?_;refine Qb _ (Vm _) (qN (Qc)) ?_;simp+decide only[VQ,if_true,and_true,Qs];all_goals first|rfl|exact⟨rfl,rfl⟩|(simp+decide only[Ka, *];done)|(trace_state;fail)
theorem qtE(wz:World)(h:AHeap)(v:AVal)(xs:List (List AVal))(hv:IsL wz h 3 v xs):ACall Tryz.prog wz 64 [v] h (fun r h'=>r=Yp v/\h'=h):=by
 have hlen:=hv.len Tryz.underlying101;have h3:=hv.slice3 Tryz.underlying101 qdr .i64 .i64 none rfl;refine qU (n:=9) (rs:=[.tmp 2]) Tryz.func64 rfl rfl rfl rfl (VN rfl) ?_;simp only[Qg];refine awp_rseq [0] (by rfl) fun K hK=>?_;simp+decide only[qa,ev,qH,qG,putD,VO,VP,Ka,Kb,↓qd,qb];apply hK;clear hK K;refine awp_rseq [2] (by rfl) fun K hK=>?_;simp+decide only[qa,ev,putD,VO,VQ,VP,Ka,Kb,↓qg,qc,↓Xe,Qw,↓Wp,ZG,evO,↓qd,qb,hlen,h3];apply hK;clear hK K;refine qL ?_;refine Qb _ (Vm _) (qN (Qc)) ?_;simp+decide only[VQ,if_true,and_true,Qs];all_goals first|rfl|exact⟨rfl,rfl⟩|(simp+decide only[Ka, *];done)|(trace_state;fail)
structure RdSm(N:Nat)(x:Rd):Prop where
 many:x.cards.length<=N
 small:∀c∈x.cards,c.text.length<=80*N/\c.marks.length<=N
theorem RdSm.next{N:Nat}{x:Rd}(h:RdSm N x):RdSm (N+1) x:=⟨by have:=h.many;omega,fun c hc=>by have:=h.small c hc;omega⟩
theorem qlS{c:CardC}{N:Nat}(h:c.text.length<=80*N/\c.marks.length<=N)(line col:Int)(t:Str)(ht:t.length<=80):(qgA c line col t).text.length<=80*(N+1)/\(qgA c line col t).marks.length<=N+1:=by
 have h1:=qoR t;unfold qgA;simp only[Jc];constructor
 ·split<;>omega
 ·split<;>(try split)<;>(try simp only[Jc,KY,J9])<;>omega
theorem qlR{N:Nat}{x:Rd}(h:RdSm N x)(line col:Int)(t:Str)(ht:t.length<=80):RdSm (N+1) (addE x line col t):=by
 rcases List.eq_nil_or_concat x.cards with e|⟨l,c,e⟩
 ·have:addE x line col t=x:=by unfold addE;rw[e];rfl
  rw[this];exact h.next
 ·rw[List.concat_eq_append]at e
  rw[qgv e];have hm:=h.many;rw[e]at hm;simp only[Jc,KY,J9]at hm;refine⟨by simp;omega,fun d hd=>?_⟩;rw[JJ]at hd;rcases hd with hd|hd
  ·have:=h.small d (by rw[e];simp[hd])
   omega
  ·rw[BG.1 hd]
   exact qlS (h.small c (by rw[e];simp)) line col t ht
theorem qeY{N:Nat}{x:Rd}(h:RdSm N x){r:RowC}(ht:r.text.length<=80):RdSm (N+1) (takeE x r).1:=by
 unfold takeE;split
 ·exact h.next
 split
 ·have hp:RdSm N x:=h
  have h':RdSm (N+1) ⟨x.cards++[⟨decide (r.col<12),[],[]⟩],x.line,x.col,x.odd⟩:=by
   refine⟨by have:=h.many;simp;omega,fun c hc=>?_⟩;rw[JJ]at hc;rcases hc with hc|hc
   ·exact h.next.small c hc
   ·rw[BG.1 hc]
    simp
  refine⟨?_,?_⟩
  ·have:=h.many
   rw[qgv (x:=⟨x.cards++[⟨decide (r.col<12),[],[]⟩],x.line,x.col,x.odd⟩) rfl];simp;omega
  ·intro c hc
   rw[qgv (x:=⟨x.cards++[⟨decide (r.col<12),[],[]⟩],x.line,x.col,x.odd⟩) rfl]at hc;simp only[JJ,BG]at hc;rcases hc with hc|rfl
   ·exact h.next.small c hc
   ·exact qlS ⟨by simp,by simp⟩ _ _ _ ht
 split
 ·exact h.next
 split
 ·exact h.next
 split
 ·exact qlR h _ _ _ (by simp;omega)
 ·exact qlR h _ _ _ ht
theorem qjt{s:Str}{line:Int}{dbg:Bool}:(qaa s line dbg).1.text.length<=65/\((qaa s line dbg).2.1=true->(qaa s line dbg).1.text≠[]/\0<=(qaa s line dbg).1.col/\(qaa s line dbg).1.col<=73):=by
 by_cases h80:80<s.length
 ·have:qaa s line dbg=(qmF,false,⟨5,line,81⟩):=by unfold qaa;rw[if_pos h80]
  rw[this];simp[qmF]
 ·cases hb:qdc s with
  |some i=>
   have:qaa s line dbg=(qmF,false,⟨4,line,(i:Int)+1⟩):=by unfold qaa;rw[if_neg h80,hb]
   rw[this];simp[qmF]
  |none=>
   rw[qld h80 hb];have h1:(qmd s line).text.length<=65:=V7 (qoS _) (by simp;omega);have h2:(qmd s line).col=73-(qmd s line).text.length:=rfl;split
   ·exact⟨h1,by simp⟩
   split
   ·refine⟨h1,fun h=>?_⟩
    simp only[Ky,Jj,decide_eq_false_iff_not]at h;exact⟨h.2,by simp only;omega,by simp only;omega⟩
   split
   ·refine⟨h1,fun h=>?_⟩
    simp only[Jj,decide_eq_false_iff_not]at h;exact⟨h,by simp only;omega,by simp only;omega⟩
   ·exact⟨h1,by simp⟩
theorem qfc:∀s:Str,(Zz s).length<=s.length+1
 |[]=>by simp[Zz]
 |b::s=>by
  have:=qfc s;unfold Zz;split
  ·simp;omega
  ·split<;>simp_all<;>omega
theorem qdY(s:Str):(YU s).length<=s.length:=by
 unfold YU;split<;>simp
def IsCards(wz:World)(h:AHeap)(v:AVal)(cs:List CardC):Prop:=∃ps:List (CardC×AVal),ps.map (·.1)=cs/\IsL wz h 3 v (ps.map ZM)/\∀p∈ps,IsL wz h 3 p.2 (p.1.marks.map UY)
theorem IsCards.mono{wz:World}{h h':AHeap}{v:AVal}{cs:List CardC}(hc:IsCards wz h v cs)(hs:Sub h h'):IsCards wz h' v cs:=by
 obtain⟨ps,h1,h2,h3⟩:=hc;exact⟨ps,h1,h2.mono hs,fun p hp=>(h3 p hp).mono hs⟩
def qrp(wz:World)(h:AHeap)(text:Str)(dbg:Bool)(v:AVal)(h':AHeap):Prop:=∃cv,v= .tuple [cv,QC (qas text dbg).2]/\IsCards wz h' cv (qas text dbg).1/\Sub h h'
structure RdL where
 i:Nat
 B:AHeap
 M:AHeap
 cb:Option Buf
 mb:Option Buf
 x:Rd
theorem UG(f:FaultC):(decide (f.e=0) && (decide (f.line=0) && decide (f.col=0)))=decide (f=okF):=by
 obtain⟨a,b,c⟩:=f;rw[KA];simp[okF]
theorem qrC{s:Str}{l:List Str}{n:Int}{x:Rd}{dbg:Bool}{r:RowC}{f:FaultC}(hp:qaa s n dbg=(r,false,f))(hf:f=okF):WP dbg (s::l) n x=WP dbg l (n+1) x:=by
 rw[WP,hp];simp only;rw[if_pos ⟨hf,trivial⟩]
theorem qoZ{s:Str}{l:List Str}{n:Int}{x:Rd}{dbg:Bool}{r:RowC}{cn:Bool}{f:FaultC}(hp:qaa s n dbg=(r,cn,f))(hf:f≠okF):WP dbg (s::l) n x=(x,f):=by
 rw[WP,hp];simp only;rw[if_neg (fun e=>hf e.1),if_neg hf]
theorem qtY{s:Str}{l:List Str}{n:Int}{x:Rd}{dbg:Bool}{r:RowC}{f:FaultC}(hp:qaa s n dbg=(r,true,f))(hf:f=okF)(hg:(takeE x r).2≠okF):WP dbg (s::l) n x=((takeE x r).1,(takeE x r).2):=by
 rw[WP,hp];simp only;rw[if_neg (fun e=>by cases e.2),if_pos hf,if_neg hg]
theorem qrB{s:Str}{l:List Str}{n:Int}{x:Rd}{dbg:Bool}{r:RowC}{f:FaultC}(hp:qaa s n dbg=(r,true,f))(hf:f=okF)(hg:(takeE x r).2=okF):WP dbg (s::l) n x=WP dbg l (n+1) (takeE x r).1:=by
 rw[WP,hp];simp only;rw[if_neg (fun e=>by cases e.2),if_pos hf,if_pos hg]
theorem qjj{text:Str}{dbg:Bool}(hl:text.length<=1048576){x:Rd}{f:FaultC}(h:WP dbg (Zz (YU text)) 1 .start=(x,f))(hf:f≠okF):qas text dbg=([],f):=by
 unfold qas;rw[if_neg (by omega),h];simp only;rw[if_pos hf]
theorem qjg:∀(s:Str),∀l∈Zz s,l.length<=s.length
 |[],l,h=>by simp[Zz]at h;subst h;simp
 |b::s,l,h=>by
  have ih:=qjg s;unfold Zz at h;split at h
  ·rcases KX.1 h with rfl|h
   ·simp
   ·have:=ih l h;simp;omega
  ·split at h
   ·rename_i e
    simp only[BG]at h;subst h;simp
   ·rename_i l0 ls e
    rcases KX.1 h with rfl|h
    ·have:=ih l0 (by rw[e];simp);simp;omega
    ·have:=ih l (by rw[e];simp[h]);simp;omega
theorem qmv{text:Str}{dbg:Bool}(hl:text.length<=1048576){x:Rd}(h:WP dbg (Zz (YU text)) 1 .start=(x,okF))(ho:x.odd=true):qas text dbg=([],⟨4,x.line,x.col⟩):=by
 unfold qas;rw[if_neg (by omega),h];simp only;rw[if_neg (by simp),if_pos ho]
theorem qpa{text:Str}{dbg:Bool}(hl:text.length<=1048576){x:Rd}(h:WP dbg (Zz (YU text)) 1 .start=(x,okF))(ho:x.odd=false):qas text dbg=(x.cards,okF):=by
 unfold qas;rw[if_neg (by omega),h];simp only;rw[if_neg (by simp),if_neg (by rw[ho];decide)]
theorem qvR(wz:World)(h B0:AHeap)(hs0:Sub h B0)(kr kx:Nat)(text:Str)(dbg:Bool)(hl:text.length<=1048576)(er:B0 kr=some ⟨[.int .i64 0, .int .i64 0, .int .i64 0],0⟩)(hr:h kr=none)
 (B M:AHeap) (cb mb:Option Buf) (x:Rd) (ri:RdInv wz B0 kx B M cb mb x) (hcards:x.cards=[]) (hrl:WP dbg (Zz (YU text)) 1 .start=(x,okF)):
 Awp Tryz.prog wz 82 (UL 5 (qjZ (UL 1 (qeB Tryz.f49)))) (qgf (qeg Tryz.prog wz [.tmp 4, .cell 5 35] (qrp wz h text dbg))) [(5, .ptr (.own kr) 0),(6, .ptr (.own kx) 0)] (rdH kx B cb mb x):=by
 obtain⟨rfl,rfl⟩:cb=none/\mb=none:=by
  rcases ri.cards with e|⟨done,c,kc,e,_⟩
  ·exact e.2
  ·rw[hcards]at e;simp at e
 have rix:=fun o=>QB wz ri.at o;have hnil:QH 3 none= .nilSlice:=rfl;change Awp _ _ _ (Code.seq _ _) _ _ _;refine qJ ?_;refine awp_rseq [5,6,55] (by rfl) fun K hK=>?_;simp+decide only[qa,ev,putD,VO,VQ,VP,Ka,Kb,↓qB,ql,qev,↓qF,qY,qz ag4,VZ,Kn,Js,qD,rix,XF,hnil];apply hK;clear hK K;refine qI (b:=_) rfl (fun hb1=>?_) (fun hb1=>?_)
 ·skip
  have hres:=qmv hl hrl hb1;refine Zk 4 [4,5] mixed (by kernel_rfl) (by rfl) (by rfl) fun K hK=>?_;simp+decide only[ev,qH,qG,putD,VO,VQ,Ka,Kb,↓qB,ql,qia,↓qF,qY,qh qeG qbd,↓Qu,↓Qa,Wi,evP,Ke,Vk,↓qd,qb,qf,VZ,Kn,Js,Nat.reduceAdd,qi,allLive,JU,rix,XF,hnil];refine qp (v:= .agg [.int .i64 4, .int .i64 x.line, .int .i64 x.col]) (by rfl) (by rfl) (ri.other (ri.sub _ _ er)) QN (by rfl) (by rfl) (by simp[]) (Jt _) (by rfl) ?_;simp only[setAt,VX,VY,Kj,Js,Nat.reduceAdd];simp+decide only[qa,putD,VP,Ka];apply hK;clear hK K;refine qL ?_;try simp only[Qe,WF]
  refine Qb h (V5 (hs0.trans ri.above) hr) (?_) ?_
  ·simp+decide only[QG,qy,qj,VQ,Ka,and_true,qy,qj,qh Xw QN,qZ,qf,VZ,Kn,Js,Nat.reduceAdd,qi,allLive,JU,qf,VZ,Kn,Js,Nat.reduceAdd,qi,allLive,JU]
  simp+decide only[VQ,Ka,XA,qy,qj,qh Xw QN,qZ,qf,VZ,Kn,Js,Nat.reduceAdd,qi,allLive,JU,qf,VZ,Kn,Js,Nat.reduceAdd,qi,allLive,JU];exact⟨.nilSlice,by rw[hres];rfl,by rw[hres];exact⟨[],rfl, .nil,by simp⟩,Vm _⟩
 ·skip
  have hres:=qpa hl hrl hb1;refine qP ?_;change Awp _ _ _ _ _ _ _;refine qJ ?_;refine awp_rseq [5,6,61,62] (by rfl) fun K hK=>?_;simp+decide only[qa,ev,qH,qG,putD,VO,VQ,VP,Ka,Kb,↓qB,ql,qcg,↓qF,qY,qz qjI,↓Xe,Qw,qfo Tryz.underlying101,↓qg,qc,VZ,Js,QM,rix,XF,hnil];apply hK;clear hK K;refine Qm ?_;refine XC [5,6,61,62] (fun g:Unit=>[(5, .ptr (.own kr) 0),(6, .ptr (.own kx) 0),(61, .int .i64 0),(62, .int .i64 0)]) (fun g:Unit=>rdH kx B none none x) (fun g:Unit=>True) (fun g:Unit=>0) () (by rfl) (Vm _) trivial ?_;intro _ _;refine awp_rseq [5,6,61,62,63] (by rfl) fun K hK=>?_;simp+decide only[qa,ev,putD,VO,VQ,VP,Ka,Kb,↓qw,qm,qR,cond_false,qo,XZ];apply hK;clear hK K;refine qJ (qI (b:=_) rfl (fun hb2=>?_) (fun hb2=>?_))
  ·exact absurd hb2 (by decide)
  ·try simp only[decide_eq_false_iff_not]at hb2
   refine XE ?_;change Awp _ _ _ _ _ _ _;refine awp_rseq [4,5] (by rfl) fun K hK=>?_;simp+decide only[ev,putD,VO,VQ,Ka,Kb,↓qB,ql,qcg,↓qF,qY,qz qjI,VZ,Js,QM,rix,XF,hnil];refine qO (V:= .nilSlice) (by rfl) (by rfl) ((qtE wz _ .nilSlice [] .nil)) ?_;simp+decide only[ev,qH,qG,putD,VO,VQ,Ka,Kb,↓Qu,↓Qa,Yn,evP,Vk,↓qd,qb];refine qp (v:= .agg [.int .i64 0, .int .i64 0, .int .i64 0]) (by rfl) (by rfl) (ri.other (ri.sub _ _ er)) QN (by rfl) (by rfl) (by simp[]) (Jt _) (by rfl) ?_;simp only[setAt,VX,VY,Kj,Js,Nat.reduceAdd];simp+decide only[qa,putD,VP,Ka];apply hK;clear hK K;refine qL ?_;try simp only[WF]
   refine Qb h (V5 (hs0.trans ri.above) hr) (?_) ?_
   ·simp+decide only[QG,qy,qj,VQ,Ka,and_true,qy,qj,qh Xw QN,qZ,qf,VZ,Kn,Js,Nat.reduceAdd,qi,allLive,JU,qf,VZ,Kn,Js,Nat.reduceAdd,qi,allLive,JU]
   simp+decide only[VQ,Ka,XA,qy,qj,qh Xw QN,qZ,qf,VZ,Kn,Js,Nat.reduceAdd,qi,allLive,JU,qf,VZ,Kn,Js,Nat.reduceAdd,qi,allLive,JU];exact⟨.nilSlice,by rw[hres];rfl,by rw[hres,hcards];exact⟨[],rfl, .nil,by simp⟩,Vm _⟩
theorem qCr{wz:World}{h:AHeap}{v:AVal}{xs:List (List AVal)}(hb:IsL wz h 3 v xs):(Yp v).okIn (fun k=>(h k).isSome):=by
 cases hb with
 |nil=>trivial
 |mk l o n c xs hn hw hc hl hcap=>
  cases l with
  |base b=>trivial
  |own k=>
   simp only[Yp,Be];intro h0;cases hk:h k with
   |some b=>rfl
   |none=>
    obtain⟨m,rfl⟩:∃m,n=m+1:=⟨n-1,by omega⟩
    rw[show(m+1)*3=(m*3+2)+1 by omega,qf]at hc;rw[<-hc]at hl;simp[allLive,rd,hk,AVal.live]at hl
def qeR(p:CardC×AVal):CardC×AVal:=(p.1,Yp p.2)
theorem qgl(l:List (CardC×AVal)):(l.map ZM).flatten.length=l.length*3:=by
 rw[ZF (es:=3) (by intro y hy;obtain⟨p,_,rfl⟩:=JH.1 hy;rfl),Jp]
theorem qpD:∀(l:List (CardC×AVal)) (i:Nat) (v:AVal) (hi:i<l.length),setAt (l.map ZM).flatten (i*3+2) [v]=((l.set i ((l[i]).1,v)).map ZM).flatten
 |p::l,0,v,_=>rfl
 |p::l,i+1,v,hi=>by
  have ih:=qpD l i v (by simpa using hi);simp only[setAt]at ih|-
  simp only[Ke,List.flatten_cons,Kj,List.getElem_cons_succ];rw[<-ih,VI _ _ (by rw[qlr];omega),qlr,show(i+1)*3+2-3=i*3+2 by omega]
theorem flat_get(l:List (CardC×AVal))(i:Nat)(hi:i<l.length):(l.map ZM).flatten.getD (i*3+2) .dead=(l[i]).2:=by
 rw[Ko,qfD (es:=3) (by intro y hy;obtain⟨p,_,rfl⟩:=JH.1 hy;rfl) (by rw[Jp];exact hi) (by decide)];simp[Ko,hi,ZM]
def psi(ps:List (CardC×AVal))(i:Nat):List (CardC×AVal):=(ps.take i).map qeR++ps.drop i
theorem qkc(ps:List (CardC×AVal))(i:Nat):(psi ps i).length=ps.length:=by
 unfold psi;simp;omega
theorem qtj(ps:List (CardC×AVal))(i:Nat)(hi:i<ps.length):(psi ps i)[i]'(by rw[qkc];exact hi)=ps[i]:=by
 unfold psi;rw[List.getElem_append_right (by simp;omega)];simp[Nat.min_eq_left (Nat.le_of_lt hi)]
theorem qwa(ps:List (CardC×AVal))(i:Nat)(hi:i<ps.length):(psi ps i).set i (qeR ps[i])=psi ps (i+1):=by
 unfold psi;have hl:((ps.take i).map qeR).length=i:=by simp;omega
 rw[VI _ _ (by omega),hl,Nat.sub_self,J5 hi,VY,VL,JA hi,Option.toList_some,Bd,List.append_assoc];rfl
theorem qvi{H:AHeap}{es:Nat}{b:Option Buf}{c:Buf}(h:bufOk H es b)(e:b=some c):H c.blk=none:=by subst e;exact h.1
theorem qyM{H:AHeap}{b:Option Buf}{c:Buf}(e:b=some c):Ql H b=H.set c.blk ⟨c.cells,0⟩:=by subst e;rfl
theorem qvP(wz:World)(h B0:AHeap)(hs0:Sub h B0)(kr kx:Nat)(text:Str)(dbg:Bool)(hl:text.length<=1048576)(er:B0 kr=some ⟨[.int .i64 0, .int .i64 0, .int .i64 0],0⟩)(hr:h kr=none)
 (B M:AHeap) (cb mb:Option Buf) (x:Rd) (ri:RdInv wz B0 kx B M cb mb x) (hcards:x.cards≠[]) (hsm:x.cards.length<=1099511627776) (hrl:WP dbg (Zz (YU text)) 1 .start=(x,okF)):
 Awp Tryz.prog wz 82 (UL 5 (qjZ (UL 1 (qeB Tryz.f49)))) (qgf (qeg Tryz.prog wz [.tmp 4, .cell 5 35] (qrp wz h text dbg))) [(5, .ptr (.own kr) 0),(6, .ptr (.own kx) 0)] (rdH kx B cb mb x):=by
 obtain⟨ps,kc,hps,hcb,hv,hL,hMM,hMk⟩:∃(ps:List (CardC×AVal)) (kc:Nat),ps.map (·.1)=x.cards/\cb=some ⟨kc,(ps.map ZM).flatten⟩/\QH 3 cb= .slice (.own kc) 0 ps.length (.grow 3)/\(∀p∈ps,IsL wz (Ql M mb) 3 p.2 (p.1.marks.map UY))/\Ql M mb kc=none/\Sub (Ql M mb) (rdH kx B cb mb x):=by
  rcases ri.cards with⟨e,_⟩|⟨done,c,kc,e1,e2,e3,e4⟩
  ·exact absurd e hcards
  ·obtain⟨q1,q2,q3⟩:=qot ri.okc ri.okm
   obtain⟨p1,p2,p3⟩:=qou (d:=⟨XF cb x,0⟩) q2;have pM:=p2.sub ri.subM;have hf:(done.map ZM).flatten++[.bool c.left, .str c.text,QH 3 mb]=((done++[(c,QH 3 mb)]).map ZM).flatten:=by simp[ZM]
   have hkc:(Ql (B.set kx ⟨XF cb x,0⟩) mb) kc=none:=qvi q3 e2;have hkx:kc≠kx:=fun e=>by
    rw[p1,e,Ve]at hkc;cases hkc
   have hMB:Sub (Ql M mb) (Ql B mb):=by
    cases mb with
    |none=>exact ri.subM
    |some b=>exact Bb ri.subM _ _
   have hkcB:Ql B mb kc=none:=by rwa [p1,Vd _ _ hkx]at hkc
   refine⟨done++[(c,QH 3 mb)],kc,by rw[e1];simp,by rw[e2,hf],?_,fun p hp=>?_,hMB.none hkcB,?_⟩
   ·rw[e2,qiZ,hf,qgl]
    simp
   ·rw[JJ]at hp
    rcases hp with hp|hp
    ·exact(e4 p hp).mono (BJ pM)
    ·rw[BG.1 hp]
     exact BH pM (by decide) e3 (by intro y hy;obtain⟨m,_,rfl⟩:=JH.1 hy;rfl) (Vm _)
   ·refine Sub.trans hMB ?_
    unfold rdH;rw[q1,qyM e2];refine Sub.trans ?_ (Vh hkc);rw[p1];exact Vh (by rw[p3];exact ri.hk)
 have hkcx:(rdH kx B cb mb x) kc=some ⟨(ps.map ZM).flatten,0⟩:=by
  have:=ri.okm;unfold rdH;exact ZY ri.okm (by rw[hcb];exact Ve _ _ _)
 have hkx:=ri.at;have hne:kx≠kc:=fun e=>by
  rw[<-e,hkx]at hkcx;have:=congrArg (fun o=>(o.map fun b=>b.cells.length).getD 0) hkcx;simp only[KI,VM,XF,KY,J9,qgl]at this;omega
 have hlenp:ps.length=x.cards.length:=by rw[<-hps,Jp]
 have hkr:=ri.other (ri.sub _ _ er);have hrc:kr≠kc:=fun e=>by
  rw[e,hkcx]at hkr;have:=congrArg (fun o=>(o.map fun b=>b.cells.length).getD 0) hkr;simp only[KI,VM,KY,J9,qgl]at this;have h1:ps.length=1:=by omega
  match ps,h1 with
  |[p],_=>simp[ZM]at hkr
 have hhc:h kc=none:=by
  cases hc:h kc with
  |none=>rfl
  |some b=>
   have:=ri.sub _ _ (hs0 _ _ hc);have h2:=ri.okc;rw[hcb]at h2;have:=(Vd B ⟨XF (some ⟨kc,(ps.map ZM).flatten⟩) x,0⟩ hne.symm).symm.trans h2.1
   simp_all
 obtain⟨H0,hH0⟩:∃H0,H0=rdH kx B cb mb x:=⟨_,rfl⟩
 have hsub:Sub h H0:=by rw[hH0];exact hs0.trans ri.above
 rw[<-hH0]at hkcx hkx hkr hMk|-
 have rix:=fun o=>QB wz hkx o;change Awp _ _ _ (Code.seq _ _) _ _ _;refine qJ ?_;refine awp_rseq [5,6,55] (by rfl) fun K hK=>?_;simp+decide only[qa,ev,putD,VO,VQ,VP,Ka,Kb,↓qB,ql,qev,↓qF,qY,qz ag4,VZ,Kn,Js,qD,rix,XF,hv];apply hK;clear hK K;refine qI (b:=_) rfl (fun hb1=>?_) (fun hb1=>?_)
 ·skip
  have hres:=qmv hl hrl hb1;refine Zk 4 [4,5] mixed (by kernel_rfl) (by rfl) (by rfl) fun K hK=>?_;simp+decide only[ev,qH,qG,putD,VO,VQ,Ka,Kb,↓qB,ql,qia,↓qF,qY,qh qeG qbd,↓Qu,↓Qa,Wi,evP,Ke,Vk,↓qd,qb,qf,VZ,Kn,Js,Nat.reduceAdd,qi,allLive,JU,rix,XF,hv];refine qp (v:= .agg [.int .i64 4, .int .i64 x.line, .int .i64 x.col]) (by rfl) (by rfl) hkr QN (by rfl) (by rfl) (by simp[]) (Jt _) (by rfl) ?_;simp only[setAt,VX,VY,Kj,Js,Nat.reduceAdd];simp+decide only[qa,putD,VP,Ka];apply hK;clear hK K;refine qL ?_;try simp only[Qe,WF]
  refine Qb h (V5 hsub hr) (?_) ?_
  ·simp+decide only[QG,qy,qj,VQ,Ka,and_true,qy,qj,qh Xw QN,qZ,qf,VZ,Kn,Js,Nat.reduceAdd,qi,allLive,JU,qf,VZ,Kn,Js,Nat.reduceAdd,qi,allLive,JU]
  simp+decide only[VQ,Ka,XA,qy,qj,qh Xw QN,qZ,qf,VZ,Kn,Js,Nat.reduceAdd,qi,allLive,JU,qf,VZ,Kn,Js,Nat.reduceAdd,qi,allLive,JU];exact⟨.nilSlice,by rw[hres];rfl,by rw[hres];exact⟨[],rfl, .nil,by simp⟩,Vm _⟩
 ·skip
  have hres:=qpa hl hrl hb1;refine qP ?_;change Awp _ _ _ _ _ _ _;refine qJ ?_;refine awp_rseq [5,6,61,62] (by rfl) fun K hK=>?_;simp+decide only[qa,ev,qH,qG,putD,VO,VQ,VP,Ka,Kb,↓qB,ql,qcg,↓qF,qY,qz qjI,↓Xe,Qw,Zh Tryz.underlying101,↓qg,qc,VZ,Js,qaY,rix,XF,hv];apply hK;clear hK K;refine Qm ?_;refine XC [5,6,61,62] (fun i:Nat=>[(5, .ptr (.own kr) 0),(6, .ptr (.own kx) 0),(61, .int .i64 ps.length),(62, .int .i64 i)]) (fun i:Nat=>H0.set kc ⟨((psi ps i).map ZM).flatten,0⟩) (fun i:Nat=>i<=ps.length) (fun i:Nat=>ps.length-i) 0 (by rfl) (by rw[show psi ps 0=ps from rfl,YH hkcx];exact Vm _) (Jt _) ?_;intro i hi;have hkxi:=(Vd H0 ⟨((psi ps i).map ZM).flatten,0⟩ hne).trans hkx;have rii:=fun o=>QB wz hkxi o;refine awp_rseq [5,6,61,62,63] (by rfl) fun K hK=>?_;simp+decide only[qa,ev,putD,VO,VQ,VP,Ka,Kb,↓qw,qm,qR,cond_false,qo,XZ];apply hK;clear hK K;refine qJ (qI (b:=_) rfl (fun hb2=>?_) (fun hb2=>?_))
  ·try simp only[decide_eq_true_eq]at hb2
   have hi':i<ps.length:=by omega
   have hg:((psi ps i).map ZM).flatten.getD (i*3+2) .dead=(ps[i]).2:=by rw[flat_get _ _ (by rw[qkc];exact hi'),qtj ps i hi']
   have hMi:Sub (Ql M mb) (H0.set kc ⟨((psi ps i).map ZM).flatten,0⟩):=V5 hMk hMM;have hLi:=(hL _ (List.getElem_mem hi')).mono hMi;have hlv:=hLi.live;have hok:Be (fun k=>((H0.set kc ⟨((psi ps i).map ZM).flatten,0⟩) k).isSome) (Yp (ps[i]).2):=qCr hLi;refine qP ?_;change Awp _ _ _ _ _ _ _;refine qJ ?_;refine Qm ?_;refine awp_rseq [5,6,13,61,62] (by rfl) fun K hK=>?_;simp+decide only[qa,ev,putD,VO,VQ,VP,Ka,Kb,↓qg,qc,↓qd,qb];apply hK;clear hK K;refine qeD 12 [] mixed (by kernel_rfl) (by rfl) ?_;simp only[Ki,V8,VE,KQ];simp+decide only[ev,putD,VO,VQ,Ka,Kb,↓Yd,ql,qcg,↓ZN,XU,qz qjI,↓Zd,qc,↓qce,qW Tryz.underlying101 qdr,UF,qcf,qz qlP,QT,VZ,Js,qaY,rii,XF,hv,Vr,hg,hlv];repeat (with_reducible refine And.intro ?_ ?_;· first|trivial|omega|(intro hg;simp only[Ky,JW,Jj,VS,VT,VU,decide_eq_true_eq,decide_eq_false_iff_not,XY]at hg;omega))
   refine Xu (V:=Yp (ps[i]).2) (by rfl) (by rfl) (by first|trivial|(simp+decide only[Be,XL,and_true,Kb,QC,UY,Wy,qgI,qkD,Ve,JK];done)|(simp[Be,XL,Bf];done)) (fun g hg=>qAf wz _ _ _ (by first|exact hLi|exact hLi.mono hg)) ?_;simp+decide only[YK,ev,putD,VO,VQ,Ka,Kb,↓qce,qW Tryz.underlying101 qdr,UF,↓Yd,ql,qcf,Js,Vr];repeat (with_reducible refine And.intro ?_ ?_;· first|trivial|omega|(intro hg;simp only[Ky,JW,Jj,VS,VT,VU,decide_eq_true_eq,decide_eq_false_iff_not,XY]at hg;omega))
   have hcl:=hLi.clip;have hset:setAt ((psi ps i).map ZM).flatten (i*3+2) [Yp (ps[i]).2]=((psi ps (i+1)).map ZM).flatten:=by
    rw[qpD _ _ _ (by rw[qkc];exact hi'),qtj ps i hi',<-qwa ps i hi'];rfl
   refine qp (v:=Yp (ps[i]).2) (by rfl) (by rfl) (Ve _ _ _) qAI hcl.live (by rw[hcl.cells];rfl) (by simp only[];rw[qgl,qkc];omega) (Jt _) (by rw[hcl.cells];simp[Qt,hcl.scal]) ?_;rw[Vi,hcl.cells];simp only[];rw[hset];simp+decide only[qa,putD];change Awp _ _ _ _ _ _ _;refine XW [5,6,61,62] (by rfl) ?_;simp+decide only[qa,ev,qH,qG,putD,VO,VQ,VP,Ka,Kb,↓qw,qm,qA,cond_false,qo,Xa,↓qg,qc];try simp(disch:=omega)only[wrap_i64]
   try simp only[Qj]
   exact⟨i+1,rfl,Vm _,by omega,by omega⟩
  ·try simp only[decide_eq_false_iff_not]at hb2
   obtain rfl:i=ps.length:=by omega
   have hpsi:psi ps ps.length=ps.map qeR:=by simp[psi]
   rw[hpsi]at hkxi rii|-
   have hlive:∀p∈ps,IsL wz (H0.set kc ⟨((ps.map qeR).map ZM).flatten,0⟩) 3 (Yp p.2) (p.1.marks.map UY):=fun p hp=>((hL p hp).mono (V5 hMk hMM)).clip;have hLc:IsL wz (H0.set kc ⟨((ps.map qeR).map ZM).flatten,0⟩) 3 (.slice (.own kc) 0 ps.length (.grow 3)) ((ps.map qeR).map ZM):=by
    have:=Ba (wz:=wz) (es:=3) (xs:=(ps.map qeR).map ZM) (Ve H0 kc ⟨((ps.map qeR).map ZM).flatten,0⟩) (by intro y hy;obtain⟨p,_,rfl⟩:=JH.1 hy;rfl) rfl (YB.2 (by
     intro y hy;obtain⟨p,hp,rfl⟩:=JH.1 hy;obtain⟨q,hq,rfl⟩:=JH.1 hp;show(true && (true && ((Yp q.2).live && true)))=true
     rw[(hlive q hq).live];rfl)) (.grow 3) rfl
    simpa using this
   have hkr':=(Vd H0 ⟨((ps.map qeR).map ZM).flatten,0⟩ hrc).trans hkr;refine XE ?_;change Awp _ _ _ _ _ _ _;refine awp_rseq [4,5] (by rfl) fun K hK=>?_;simp+decide only[ev,putD,VO,VQ,Ka,Kb,↓qB,ql,qcg,↓qF,qY,qz qjI,VZ,Js,qaY,rii,XF,hv];refine qO (V:= .slice (.own kc) 0 ps.length (.exact ps.length)) (by rfl) (by rfl) (qtE wz _ _ _ hLc) ?_;simp+decide only[ev,qH,qG,putD,VO,VQ,Ka,Kb,↓Qu,↓Qa,Yn,evP,Vk,↓qd,qb];refine qp (v:= .agg [.int .i64 0, .int .i64 0, .int .i64 0]) (by rfl) (by rfl) hkr' QN (by rfl) (by rfl) (by simp[]) (Jt _) (by rfl) ?_;simp only[setAt,VX,VY,Kj,Js,Nat.reduceAdd];rw[YH hkr'];simp+decide only[qa,putD,VP,Ka];apply hK;clear hK K;refine qL ?_;try simp only[WF]
   refine Qb (H0.set kc ⟨((ps.map qeR).map ZM).flatten,0⟩) (Vm _) (?_) ?_
   ·simp+decide only[QG,qy,qj,VQ,Ka,and_true,qy,qj,qh Xw QN,qf,VZ,Kn,Js,Nat.reduceAdd,qi,allLive,JU,qf,VZ,Kn,Js,Nat.reduceAdd,qi,allLive,JU,QB wz hkr']
   simp+decide only[VQ,Ka,XA,qy,qj,qh Xw QN,qf,VZ,Kn,Js,Nat.reduceAdd,qi,allLive,JU,qf,VZ,Kn,Js,Nat.reduceAdd,qi,allLive,JU,QB wz hkr'];exact⟨_,by rw[hres];rfl,by rw[hres];exact⟨ps.map qeR,by rw[List.map_map];exact hps,hLc.clip,fun p hp=>by obtain⟨q,hq,rfl⟩:=JH.1 hp;exact hlive q hq⟩,V5 hsub hhc⟩
theorem qzm(wz:World)(h B0:AHeap)(hs0:Sub h B0)(kr kx:Nat)(text:Str)(dbg:Bool)(hl:text.length<=1048576)(er:B0 kr=some ⟨[.int .i64 0, .int .i64 0, .int .i64 0],0⟩)(hr:h kr=none)
 (B M:AHeap) (cb mb:Option Buf) (x:Rd) (ri:RdInv wz B0 kx B M cb mb x) (hsm:x.cards.length<=1099511627776) (hrl:WP dbg (Zz (YU text)) 1 .start=(x,okF)):
 Awp Tryz.prog wz 82 (UL 5 (qjZ (UL 1 (qeB Tryz.f49)))) (qgf (qeg Tryz.prog wz [.tmp 4, .cell 5 35] (qrp wz h text dbg))) [(5, .ptr (.own kr) 0),(6, .ptr (.own kx) 0)] (rdH kx B cb mb x):=by
 by_cases hc:x.cards=[]
 ·exact qvR wz h B0 hs0 kr kx text dbg hl er hr B M cb mb x ri hc hrl
 ·exact qvP wz h B0 hs0 kr kx text dbg hl er hr B M cb mb x ri hc hsm hrl
end Go.Proofs.YtlhhaagmakhilaaGreatDoor
