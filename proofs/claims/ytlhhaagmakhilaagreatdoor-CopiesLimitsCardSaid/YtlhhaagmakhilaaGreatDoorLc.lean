/-
  Texts of this proof, joined: CoD, TkF, TkG, TkH, TkI, TkJ, LbA, LbB, TkK, TkL, CoE, TkM, TkN, CoF, CoG, CoH.
  Conditions: none.
-/
import Derived.Test.YtlhhaagmakhilaaGreatDoorLb
import Derived.Lib.SlicesS
import Derived.Lib.IndexLaws
import Derived.Shelf.Strings.SlTrimAscii
set_option linter.unusedSimpArgs false
set_option linter.unnecessarySimpa false
set_option linter.unusedVariables false
namespace Go.Proofs.YtlhhaagmakhilaaGreatDoor
open Go.AM
open Go.Proofs
open Go.Col
set_option maxRecDepth 100000
def rowA(r:RowC):AVal:= .agg [.int .i64 r.line, .bool r.more, .str r.text, .int .i64 r.col]
theorem quotes_le(s:Str):quotes s<=s.length:=List.countP_le_length
theorem c_open(w0:World)(h:AHeap)(s:Str)(hl:s.length<=4611686018427387904):ACall Tryz.prog w0 101 [.str s] h (fun v h'=>v= .bool (qbO s)/\h'=h):=by
 have hq:=quotes_le s;refine qR (n:=7) (rs:=[.tmp 2]) Tryz.func101 rfl rfl rfl rfl (Nat.le_of_ble_eq_true rfl) ?_;simp only[Qc];refine awp_rseq [0] (by rfl) fun K hK=>?_;simp+decide only[qa,ev,qJ,qG,putD,Slots.put,Slots.keep,if_true,if_false,true_and,↓qd,qb];apply hK;clear hK K;refine awp_rseq [2] (by rfl) fun K hK=>?_;simp+decide only[ev,putD,Slots.put,Slots.get,if_true,if_false,true_and,↓qj,qf];refine qM (V:= .int .i64 (quotes s)) (by rfl) (by rfl) (c_count w0 _ s 34) ?_;simp+decide only[qa,ev,qJ,qG,putD,Slots.put,Slots.get,Slots.keep,if_true,if_false,true_and,↓qC,qo,qD,cond_false,qz,pI_rem,XD,↓qd,qb];apply hK;clear hK K;refine qN ?_;refine qU _ (Sub.refl _) (qY (Qe)) ?_;simp+decide only[Slots.get,if_true,and_true,Qv];unfold qbO;congr 1;rw[Int.tmod_eq_emod_of_nonneg (by omega)];apply decide_eq_decide.2;omega
theorem dropWhile_le(p:UInt8->Bool)(s:Str):(s.dropWhile p).length<=s.length:=(List.dropWhile_sublist p).length_le
theorem trimR_le(s:Str):(trimR s).length<=s.length:=by
 unfold trimR;rw[List.length_reverse];exact Nat.le_trans (dropWhile_le _ _) (by rw[List.length_reverse];exact Nat.le_refl _)
theorem c_add(w0:World)(H:AHeap)(kx kc:Nat)(D:List AVal)(m:Nat)(mb:Option Buf)(c:CardC)(xl xc:Int)(xo:Bool)(line col:Int)(t:Str)
 (hkx:H kx=some ⟨[.slice (.own kc) 0 (m+1) (.grow 3), .int .i64 xl, .int .i64 xc, .bool xo],0⟩) (hkc:H kc=some ⟨D++[.bool c.left, .str c.text,QT 3 mb],0⟩) (hD:D.length=m*3)
 (hok:bufOk H 3 mb) (hmb:Uc mb=(c.marks.map WO).flatten) (hl:c.text.length+t.length<=1099511627776) (hml:c.marks.length<=1099511627776) (hmm:m<=1099511627776):
 ACall Tryz.prog w0 80 [.ptr (.own kx) 0, .int .i64 line, .int .i64 col, .str t] (QY H mb)
  (fun v h'=>v= .tuple []/\∃mb',h'=QY ((H.set kx ⟨[.slice (.own kc) 0 (m+1) (.grow 3), .int .i64 line, .int .i64 col, .bool (qbO (c.text++t))],0⟩).set kc ⟨D++[.bool c.left, .str (addC c line col t).text,QT 3 mb'],0⟩) mb'/\
    bufOk ((H.set kx ⟨[.slice (.own kc) 0 (m+1) (.grow 3), .int .i64 line, .int .i64 col, .bool (qbO (c.text++t))],0⟩).set kc ⟨D++[.bool c.left, .str (addC c line col t).text,QT 3 mb'],0⟩) 3 mb'/\Uc mb'=((addC c line col t).marks.map WO).flatten):=by
 have hne:kx≠kc:=fun e=>by
  subst e;rw[hkx]at hkc;have:=congrArg (fun o=>(o.map fun b=>b.cells.length).getD 0) hkc;simp[hD]at this;omega
 have rx:=rdBuf w0 hok hkx;have rc:=rdBuf w0 hok hkc;have hidx:((((m+1:Nat):Int))-1).toNat=m:=by omega
 have hlv:=Xm 3 mb;refine qR (n:=72) (rs:=[]) Tryz.func80 rfl rfl rfl rfl (Nat.le_of_ble_eq_true rfl) ?_;simp only[Qc];refine Zh [0,1,2,3,8] mixed (by kernel_rfl) (by rfl) (by rfl) fun K hK=>?_;simp+decide only[ev,qJ,qG,putD,Slots.put,Slots.get,if_true,if_false,true_and,↓qj,qf,↓Qh,qK,Qj,↓qA,ql,qaN,↓qF,Qb,qy ag101,↓XA,QK,XV Tryz.underlying101,↓qC,qo,qD,cond_false,qz,UD,List.getD_cons_zero,Nat.zero_add,Nat.reduceAdd,UF,rx];try simp(disch:=omega)only[wrap_i64]
 try simp+decide only[qa,ev,putD,Slots.put,Slots.get,Slots.keep,if_true,if_false,true_and,↓Xi,Qb,Qs Tryz.underlying101 qbV,↓qd,qb,Nat.zero_add,hidx]
 repeat (with_reducible refine And.intro ?_ ?_;· first|trivial|omega|(intro hg;simp only[Bool.and_eq_true,Bool.or_eq_true,Bool.not_eq_true',Bool.and_eq_false_iff,Bool.or_eq_false_iff,Bool.not_eq_false',decide_eq_true_eq,decide_eq_false_iff_not,Zt]at hg;omega))
 apply hK;clear hK K;refine awp_rseq [0,1,2,3,8] (by rfl) fun K hK=>?_;simp+decide only[ev,putD,Slots.put,Slots.get,if_true,if_false,true_and,↓qj,qf,↓Qh,qK,Qj,↓qA,ql,YH,↓qF,Qb,qy ag9,↓qC,qo,qZ,cond_false,Zp,pS_add,List.getD_cons_zero,List.getD_cons_succ,qE,rc,getD_app hD];repeat (with_reducible refine And.intro ?_ ?_;· first|trivial|omega|(intro hg;simp only[Bool.and_eq_true,Bool.or_eq_true,Bool.not_eq_true',Bool.and_eq_false_iff,Bool.or_eq_false_iff,Bool.not_eq_false',decide_eq_true_eq,decide_eq_false_iff_not,Zt]at hg;omega))
 refine qM (V:= .bool (qbO (c.text++t))) (by rfl) (by rfl) (c_open w0 _ _ (by simp;omega)) ?_;simp+decide only[ev,putD,Slots.put,Slots.get,if_true,if_false,true_and,↓Qh,qK,Qj,↓qA,ql,qcG,Nat.zero_add];refine qm (v:= .bool (qbO (c.text++t))) (by rfl) (by rfl) (ZN hok hkx) sz4 (by rfl) (by rfl) (by simp) (Nat.zero_le _) (by rfl) ?_;simp only[setAt,AVal.cells,List.set_cons_zero,List.set_cons_succ];rw[YS hok hkx];simp+decide only[qa,putD,Slots.keep,if_true,if_false];have hok1:=ZH hok hkx ⟨[.slice (.own kc) 0 (m+1) (.grow 3), .int .i64 xl, .int .i64 xc, .bool (qbO (c.text++t))],0⟩;have hkx1:=AHeap.set_same H kx ⟨[.slice (.own kc) 0 (m+1) (.grow 3), .int .i64 xl, .int .i64 xc, .bool (qbO (c.text++t))],0⟩;have hkc1:=(AHeap.set_ne H ⟨[.slice (.own kc) 0 (m+1) (.grow 3), .int .i64 xl, .int .i64 xc, .bool (qbO (c.text++t))],0⟩ hne.symm).trans hkc;have rx1:=rdBuf w0 hok1 hkx1;apply hK;clear hK K;refine qO ?_;refine awp_rseq [0,1,2,3,8,34] (by rfl) fun K hK=>?_;simp+decide only[qa,ev,putD,Slots.put,Slots.get,Slots.keep,if_true,if_false,true_and,↓qj,qf,↓Qh,qK,Qj,↓qA,ql,qcG,↓qF,Qb,qy ag4,↓Yi,XE,ZY,List.getD_cons_zero,List.getD_cons_succ,Nat.zero_add,qB,rx1];apply hK;clear hK K;refine Uu [0,1,2,3,8] (fun t':Str=>[(0, .ptr (.own kx) 0),(1, .int .i64 line),(2, .int .i64 col),(3, .str t'),(8, .ptr (.own kc) (m*3))]) (fun t':Str=>QY (H.set kx ⟨[.slice (.own kc) 0 (m+1) (.grow 3), .int .i64 xl, .int .i64 xc, .bool (qbO (c.text++t))],0⟩) mb) (fun t':Str=>t'=if qbO (c.text++t)=true then t else trimR t) ?_ ?_
 ·refine qL (b:=_) rfl (fun hb1=>?_) (fun hb1=>?_)
  ·try simp only[Bool.not_eq_true']at hb1
   refine XK [0,1,2,3,8] (by rfl) ?_;simp+decide only[ev,putD,Slots.put,Slots.get,if_true,if_false,true_and,↓qj,qf];refine qM (V:= .str (trimR t)) (by rfl) (by rfl) (c_trimR w0 _ t (by omega)) ?_;simp+decide only[qa,ev,putD,Slots.put,Slots.get,Slots.keep,if_true,if_false,true_and,↓qd,qb];try simp only[Ql]
   first|exact⟨trimR t,rfl,Sub.refl _,by rw[hb1];rfl⟩|exact⟨t,rfl,Sub.refl _,by rw[hb1];rfl⟩
  ·try simp only[Bool.not_eq_false']at hb1
   refine Qa ?_;try simp only[Ql]
   first|exact⟨trimR t,rfl,Sub.refl _,by rw[hb1];rfl⟩|exact⟨t,rfl,Sub.refl _,by rw[hb1];rfl⟩
 ·intro t' ht'
  have htl:t'.length<=t.length:=by
   rw[ht'];have:=trimR_le t;split<;>omega
  have ha:addC c line col t=⟨c.left,c.text++t',if t'=[]then c.marks else c.marks++[⟨c.text.length,line,col⟩]⟩:=by rw[ht'];rfl
  refine awp_rseq [0,3,8] (by rfl) fun K hK=>?_;simp+decide only[ev,qJ,qG,putD,Slots.put,Slots.get,if_true,if_false,true_and,↓qj,qf,↓Qn,↓qV,bld33_0_1,evP,List.map_cons,List.map_nil,↓Qh,qK,Qj,↓qA,ql,fa116_1,Nat.zero_add];refine qm (v:= .agg [.int .i64 line, .int .i64 col]) (by rfl) (by rfl) (ZN hok1 hkx1) qaZ (by rfl) (by rfl) (by simp[]) (Nat.zero_le _) (by rfl) ?_;simp only[setAt,AVal.cells,List.set_cons_zero,List.set_cons_succ,Nat.reduceAdd];rw[YS hok1 hkx1,AHeap.set_set];simp+decide only[qa,putD,Slots.keep,if_true,if_false];obtain⟨H2,hH2⟩:∃H2,H2=H.set kx ⟨[.slice (.own kc) 0 (m+1) (.grow 3), .int .i64 line, .int .i64 col, .bool (qbO (c.text++t))],0⟩:=⟨_,rfl⟩
  have hok2:bufOk H2 3 mb:=by rw[hH2];exact ZH hok hkx _
  have hkx2:H2 kx=some ⟨[.slice (.own kc) 0 (m+1) (.grow 3), .int .i64 line, .int .i64 col, .bool (qbO (c.text++t))],0⟩:=by rw[hH2];exact AHeap.set_same _ _ _
  have hkc2:H2 kc=some ⟨D++[.bool c.left, .str c.text,QT 3 mb],0⟩:=by rw[hH2];exact(AHeap.set_ne _ _ hne.symm).trans hkc
  rw[<-hH2];have rx2:=rdBuf w0 hok2 hkx2;have rc2:=rdBuf w0 hok2 hkc2;apply hK;clear hK K;refine qO ?_;refine awp_rseq [0,3,8,44] (by rfl) fun K hK=>?_;simp+decide only[qa,ev,qJ,qG,putD,Slots.put,Slots.get,Slots.keep,if_true,if_false,true_and,↓qj,qf,↓qC,qo,YP,cond_false,Zp,pS_neq];apply hK;clear hK K;refine qL (b:=_) rfl (fun hb2=>?_) (fun hb2=>?_)
  ·try simp only[decide_eq_false_iff_not,Bool.not_eq_true']at hb2
   refine awp_draw_F 16 [0] mixed (by kernel_rfl) (by rfl) ?_;simp only[List.take_succ_cons,List.take_zero,List.drop_succ_cons,List.drop_zero];simp+decide only[ev,qJ,qG,putD,Slots.put,Slots.get,if_true,if_false,true_and,↓Um,qf,↓Wn,qK,Qj,↓Zu,ql,qaM,↓WH,Zr,qy ag124,YH,qy ag9,↓fp_len,QK,YB Tryz.underlying9,fa116_1,qg ag33 qaZ,↓qao,↓qV,bld127_0_1,evP,List.map_cons,List.map_nil,qc,List.getD_cons_zero,List.getD_cons_succ,Nat.zero_add,Nat.reduceAdd,qh,qE,allLive,Bool.and_true,rx2,rc2,hlv,getD_app hD];refine qdC (by rfl) ?_;refine QC (cs:=[.int .i64 c.text.length, .int .i64 line, .int .i64 col]) (by kernel_rfl) fun k6q15 hk6q15=>?_;try have hf_6q15:((QY H mb)) k6q15=none:=by first|assumption|(simp only[AHeap.set_none]at hk6q15;simp only[hk6q15])
   rw[qa];try simp only[YI]
   refine XY (es:=3) (zs:=c.marks.map WO) (xs:=[[.int .i64 c.text.length, .int .i64 line, .int .i64 col]]) (hZ:=H2) (b:=mb) (by rfl) (by rfl) Tryz.underlying124 Tryz.underlying124 (fun k e=>by cases e) sz127 by127 ze127 (by rfl) (by decide) (by rfl) hok2 hmb (by simp[WO]) (Sub.set hk6q15) (by rfl) (IsL.own (AHeap.set_same _ _ _) (by simp) (by rfl) (by rfl) (.exact 1) (Nat.le_refl _)) (by rfl) (by simp;omega) (by simp;omega) fun mb' h6 o1 o2 o3=>?_;have hlv':=Xm 3 mb';simp+decide only[ev,putD,Slots.put,Slots.get,if_true,if_false,true_and,↓Qh,qK,Qj,↓qA,ql,qaM];refine qm (v:=QT 3 mb') (by rfl) (by rfl) (o3 _ _ (ZN o1 hkc2)) sz124 hlv' (by cases mb'<;>rfl) (by cases mb'<;>simp[hD,QT]) (Nat.zero_le _) (by cases mb'<;>rfl) ?_;simp only[];rw[show(QT 3 mb').cells=[QT 3 mb'] by cases mb'<;>rfl,setAt_app hD];simp only[setAt,List.set_cons_zero,List.set_cons_succ];simp+decide only[qa,putD];change Awp _ _ _ _ _ _ _;refine XK [] (by rfl) ?_;simp+decide only[ev,putD,Slots.put,Slots.get,if_true,if_false,true_and,↓qj,qf,↓Qh,qK,Qj,↓qA,ql,YH,↓qF,Qb,qy ag9,↓qC,qo,qZ,cond_false,Zp,pS_add,QV,List.getD_cons_zero,List.getD_cons_succ,qE,getD_app hD];repeat (with_reducible refine And.intro ?_ ?_;· first|trivial|omega|(intro hg;simp only[Bool.and_eq_true,Bool.or_eq_true,Bool.not_eq_true',Bool.and_eq_false_iff,Bool.or_eq_false_iff,Bool.not_eq_false',decide_eq_true_eq,decide_eq_false_iff_not,Zt]at hg;omega))
   skip;first
   |refine qm (v:= .str (c.text++t')) (by rfl) (by rfl) (AHeap.set_same _ _ _) sz9 (by rfl) (by rfl) (by simp[hD]) (Nat.zero_le _) (by rfl) ?_
   |refine qm (v:= .str (c.text++t')) (by rfl) (by rfl) (ZN hok2 hkc2) sz9 (by rfl) (by rfl) (by simp[AVal.cells,hD]) (Nat.zero_le _) (by rfl) ?_
   simp only[AVal.cells];rw[setAt_app hD];simp only[setAt,List.set_cons_zero,List.set_cons_succ];simp+decide only[qa,putD,Slots.keep,if_false];refine retA_endE (Qe) ?_;simp+decide only[true_and,resOf_nil];refine⟨QY (H2.set kc ⟨D++[.bool c.left, .str (c.text++t'),QT 3 mb'],0⟩) mb',?_,mb',?_,?_,?_⟩
   ·rw[AHeap.set_set,<-YS o1 hkc2]
    exact Sub.set_both o3 _ _
   ·rw[hH2,ha]
   ·rw[ha,<-hH2]
    exact ZH o1 hkc2 _
   ·rw[ha,o2,if_neg hb2,List.map_append]
    rfl
  ·try simp only[decide_eq_true_eq,Bool.not_eq_false']at hb2
   refine Qa ?_;change Awp _ _ _ _ _ _ _;refine XK [] (by rfl) ?_;simp+decide only[ev,putD,Slots.put,Slots.get,if_true,if_false,true_and,↓qj,qf,↓Qh,qK,Qj,↓qA,ql,YH,↓qF,Qb,qy ag9,↓qC,qo,qZ,cond_false,Zp,pS_add,List.getD_cons_zero,List.getD_cons_succ,qE,rc2,getD_app hD];repeat (with_reducible refine And.intro ?_ ?_;· first|trivial|omega|(intro hg;simp only[Bool.and_eq_true,Bool.or_eq_true,Bool.not_eq_true',Bool.and_eq_false_iff,Bool.or_eq_false_iff,Bool.not_eq_false',decide_eq_true_eq,decide_eq_false_iff_not,Zt]at hg;omega))
   skip;first
   |refine qm (v:= .str (c.text++t')) (by rfl) (by rfl) (AHeap.set_same _ _ _) sz9 (by rfl) (by rfl) (by simp[AVal.cells,hD]) (Nat.zero_le _) (by rfl) ?_
   |refine qm (v:= .str (c.text++t')) (by rfl) (by rfl) (ZN hok2 hkc2) sz9 (by rfl) (by rfl) (by simp[hD]) (Nat.zero_le _) (by rfl) ?_
   simp only[AVal.cells];rw[setAt_app hD];simp only[setAt,List.set_cons_zero,List.set_cons_succ];simp+decide only[qa,putD,Slots.keep,if_false];refine retA_endE (Qe) ?_;simp+decide only[true_and,resOf_nil];refine⟨QY (H2.set kc ⟨D++[.bool c.left, .str (c.text++t'),QT 3 mb],0⟩) mb,?_,mb,?_,?_,?_⟩
   ·rw[<-YS hok2 hkc2]
    exact Sub.refl _
   ·rw[hH2,ha]
   ·rw[ha,<-hH2]
    exact ZH hok2 hkc2 _
   ·rw[ha,hmb,if_pos hb2]
theorem XP(b c:UInt8):((b.toNat:Int)=(c.toNat:Int))=(b=c):=by
 apply propext;constructor
 ·intro h
  exact UInt8.toNat_inj.1 (by omega)
 ·rintro rfl;rfl
theorem padE_len{s:Str}(h:s.length<=80):72<=(qbg s).length/\(qbg s).length<=80:=by
 unfold qbg sp;rw[List.length_append,List.length_replicate];omega
theorem trimL_le(s:Str):(trimL s).length<=s.length:=dropWhile_le _ _
theorem badI_cases(s:Str):(qbJ s=none/\badI s= -1)\/∃i,qbJ s=some i/\badI s=(i:Int)/\i<s.length:=by
 unfold badI;cases h:qbJ s with
 |none=>exact .inl ⟨rfl,rfl⟩
 |some i=>exact .inr ⟨i,rfl,rfl,(List.findIdx?_eq_some_iff_findIdx_eq.1 h).1⟩
theorem lineE_none{s:Str}{line:Int}{dbg:Bool}(h80:¬80<s.length)(hb:qbJ s=none):WR s line dbg=
 if (qbg s).getD 6 0=42\/(qbg s).getD 6 0=47 then(rowE s line,false,okF)
 else if (qbg s).getD 6 0=68\/(qbg s).getD 6 0=100 then(rowE s line,dbg && !decide ((rowE s line).text=[]),okF)
 else if (qbg s).getD 6 0=32\/(qbg s).getD 6 0=45 then(rowE s line,!decide ((rowE s line).text=[]),okF)
 else(rowE s line,false,⟨4,line,7⟩):=by
 unfold WR;rw[if_neg h80,hb]
theorem c_read(w0:World)(h:AHeap)(s:Str)(line:Int)(dbg:Bool)(hl:s.length<=9223372036854775807)(l0:0<=line)(l1:line<=1099511627776):ACall Tryz.prog w0 61 [.str s, .int .i64 line, .bool dbg] h (fun v h'=>v= .tuple [rowA (WR s line dbg).1, .bool (WR s line dbg).2.1,QS (WR s line dbg).2.2]/\h'=h):=by
 have w6:(6:Int).toNat=6:=rfl;have w7:(7:Int).toNat=7:=rfl;have w72:(72:Int).toNat=72:=rfl;have w8:(8:Int)+((65:Nat):Int)=73:=rfl;refine qR (n:=79) (rs:=[.cell 6 120, .tmp 7, .cell 8 35]) Tryz.func61 rfl rfl rfl rfl (Nat.le_of_ble_eq_true rfl) ?_;simp only[Qc];refine awp_rseq [0,1,2,6,8] (by rfl) fun K hK=>?_;refine Qi ze120 (cs:=[.int .i64 0, .bool false, .str [], .int .i64 0]) (by rfl) fun k0q0 hk0q0=>?_;try have hf_0q0:h k0q0=none:=by first|assumption|(simp only[AHeap.set_none]at hk0q0;simp only[hk0q0])
 simp+decide only[ev,qJ,qG,putD,Slots.put,if_false,true_and,↓qd,qb,Nat.zero_add,Nat.reduceAdd];refine Qi qaF (cs:=[.int .i64 0, .int .i64 0, .int .i64 0]) (by rfl) fun k0q2 hk0q2=>?_;have ne_0q2_0q0:k0q2≠k0q0:=by simp only[AHeap.set_none]at hk0q2;simp only[hk0q2,ne_eq,not_false_eq_true]
 try have hf_0q2:h k0q2=none:=by first|assumption|(simp only[AHeap.set_none]at hk0q2;simp only[hk0q2])
 simp+decide only[qa,putD,Slots.put,Slots.keep,if_true,if_false];apply hK;clear hK K;refine qO ?_;refine awp_rseq [0,1,2,6,8,16] (by rfl) fun K hK=>?_;simp+decide only[qa,ev,qJ,qG,putD,Slots.put,Slots.get,Slots.keep,if_true,if_false,true_and,↓qj,qf,↓XA,QK,YB Tryz.underlying9,↓qC,qo,qD,cond_false,qz,Ur];apply hK;clear hK K;refine qL (b:=_) rfl (fun hb1=>?_) (fun hb1=>?_)
 ·try simp only[decide_eq_true_eq]at hb1
  refine awp_rseq [6,7,8] (by rfl) fun K hK=>?_;simp+decide only[ev,qJ,qG,putD,Slots.put,Slots.get,if_true,if_false,true_and,↓Qn,↓qV,bld120_,evP,List.map_nil,↓qj,qf];refine qM (V:=QS ⟨5,line,81⟩) (by rfl) (by rfl) (c_fault w0 _ 5 line 81) ?_;refine qm (by rfl) (by rfl) (by repeat (first|exact AHeap.set_same _ _ _|assumption|refine(AHeap.set_ne _ _ (by first|assumption|exact Ne.symm (by assumption))).trans ?_)) ZO (by rfl) (by rfl) (by first|exact Nat.le_refl _|decide|(simp;done)|(simp;omega)) (Nat.zero_le _) (by rfl) ?_;simp only[AVal.cells];simp+decide only[ev,qJ,qG,putD,Slots.put,Slots.get,if_true,if_false,true_and,↓qd,qb,setAt,List.set_cons_zero,List.set_cons_succ,Nat.zero_add,Nat.reduceAdd,QS];refine qm (by rfl) (by rfl) (by repeat (first|exact AHeap.set_same _ _ _|assumption|refine(AHeap.set_ne _ _ (by first|assumption|exact Ne.symm (by assumption))).trans ?_)) QD (by rfl) (by rfl) (by first|exact Nat.le_refl _|decide|(simp;done)|(simp;omega)) (Nat.zero_le _) (by rfl) ?_;simp only[AVal.cells];simp+decide only[qa,ev,putD,Slots.get,Slots.keep,if_true,if_false,setAt,List.set_cons_zero,List.set_cons_succ,Nat.zero_add,Nat.reduceAdd];apply hK;clear hK K;refine qN ?_;try simp only[Qf]
  refine qU h (by repeat (first|exact Sub.refl _|assumption|refine Sub.trans_set ?_ (by assumption))) (?_) ?_
  ·simp+decide only[Qw,qp,qi,Slots.get,if_true,if_false,and_true,qp,qi,qg Wo ZO,qg Xh QD,qW,qc,List.getD_cons_zero,List.getD_cons_succ,Nat.zero_add,Nat.reduceAdd,qB,qh,qE,allLive,Bool.and_true,QU,ne_eq,not_false_eq_true,ne_0q2_0q0.symm,qc,List.getD_cons_zero,List.getD_cons_succ,Nat.zero_add,Nat.reduceAdd,qB,qh,qE,allLive,Bool.and_true]
  simp+decide only[Slots.get,if_true,if_false,and_true,Qz,qp,qi,qg Wo ZO,qg Xh QD,qW,qc,List.getD_cons_zero,List.getD_cons_succ,Nat.zero_add,Nat.reduceAdd,qB,qh,qE,allLive,Bool.and_true,QU,ne_eq,not_false_eq_true,ne_0q2_0q0.symm,qc,List.getD_cons_zero,List.getD_cons_succ,Nat.zero_add,Nat.reduceAdd,qB,qh,qE,allLive,Bool.and_true,QS,rowA];unfold WR;rw[if_pos (by omega)];rfl
 ·try simp only[decide_eq_false_iff_not]at hb1
  have h80:¬80<s.length:=by omega
  refine Qa ?_;change Awp _ _ _ _ _ _ _;refine qO ?_;refine awp_rseq [0,1,2,6,8,9] (by rfl) fun K hK=>?_;simp+decide only[ev,putD,Slots.put,Slots.get,if_true,if_false,true_and,↓qj,qf];refine qM (V:= .int .i64 (badI s)) (by rfl) (by rfl) (c_bad w0 _ s) ?_;simp+decide only[qa,ev,putD,Slots.put,Slots.get,Slots.keep,if_true,if_false,true_and,↓qd,qb];apply hK;clear hK K;refine awp_rseq [0,1,2,6,8,9,23] (by rfl) fun K hK=>?_;simp+decide only[qa,ev,qJ,qG,putD,Slots.put,Slots.get,Slots.keep,if_true,if_false,true_and,↓qj,qf,↓qC,qo,qD,cond_false,qz,qaw];apply hK;clear hK K;refine qL (b:=_) rfl (fun hb2=>?_) (fun hb2=>?_)
  ·try simp only[decide_eq_true_eq]at hb2
   obtain⟨i,hi1,hi2,hi3⟩:=(badI_cases s).resolve_left (fun e=>by omega);rw[hi2];refine awp_rseq [6,7,8] (by rfl) fun K hK=>?_;simp+decide only[ev,qJ,qG,putD,Slots.put,Slots.get,if_true,if_false,true_and,↓Qn,↓qV,bld120_,evP,List.map_nil,↓qj,qf,↓qC,qo,qD,cond_false,qz,Xf];try simp(disch:=omega)only[wrap_i64]
   refine qM (V:=QS ⟨4,line,(i:Int)+1⟩) (by rfl) (by rfl) (c_fault w0 _ 4 line ((i:Int)+1)) ?_;refine qm (by rfl) (by rfl) (by repeat (first|exact AHeap.set_same _ _ _|assumption|refine(AHeap.set_ne _ _ (by first|assumption|exact Ne.symm (by assumption))).trans ?_)) ZO (by rfl) (by rfl) (by first|exact Nat.le_refl _|decide|(simp;done)|(simp;omega)) (Nat.zero_le _) (by rfl) ?_;simp only[AVal.cells];simp+decide only[ev,qJ,qG,putD,Slots.put,Slots.get,if_true,if_false,true_and,↓qd,qb,setAt,List.set_cons_zero,List.set_cons_succ,Nat.zero_add,Nat.reduceAdd,QS];refine qm (by rfl) (by rfl) (by repeat (first|exact AHeap.set_same _ _ _|assumption|refine(AHeap.set_ne _ _ (by first|assumption|exact Ne.symm (by assumption))).trans ?_)) QD (by rfl) (by rfl) (by first|exact Nat.le_refl _|decide|(simp;done)|(simp;omega)) (Nat.zero_le _) (by rfl) ?_;simp only[AVal.cells];simp+decide only[qa,ev,putD,Slots.get,Slots.keep,if_true,if_false,setAt,List.set_cons_zero,List.set_cons_succ,Nat.zero_add,Nat.reduceAdd];apply hK;clear hK K;refine qN ?_;try simp only[Qf]
   refine qU h (by repeat (first|exact Sub.refl _|assumption|refine Sub.trans_set ?_ (by assumption))) (?_) ?_
   ·simp+decide only[Qw,qp,qi,Slots.get,if_true,if_false,and_true,qp,qi,qg Wo ZO,qg Xh QD,qW,qc,List.getD_cons_zero,List.getD_cons_succ,Nat.zero_add,Nat.reduceAdd,qB,qh,qE,allLive,Bool.and_true,QU,ne_eq,not_false_eq_true,ne_0q2_0q0.symm,qc,List.getD_cons_zero,List.getD_cons_succ,Nat.zero_add,Nat.reduceAdd,qB,qh,qE,allLive,Bool.and_true]
   simp+decide only[Slots.get,if_true,if_false,and_true,Qz,qp,qi,qg Wo ZO,qg Xh QD,qW,qc,List.getD_cons_zero,List.getD_cons_succ,Nat.zero_add,Nat.reduceAdd,qB,qh,qE,allLive,Bool.and_true,QU,ne_eq,not_false_eq_true,ne_0q2_0q0.symm,qc,List.getD_cons_zero,List.getD_cons_succ,Nat.zero_add,Nat.reduceAdd,qB,qh,qE,allLive,Bool.and_true,QS,rowA];unfold WR;rw[if_neg h80,hi1];rfl
  ·try simp only[decide_eq_false_iff_not]at hb2
   have hbn:qbJ s=none:=by
    rcases badI_cases s with e|⟨i,e1,e2,e3⟩
    ·exact e.1
    ·omega
   obtain⟨p1,p2⟩:=padE_len (s:=s) (by omega);have hspl:(sp (72-s.length)).length=72-s.length:=by simp[sp]
   have hpe:s++sp (72-s.length)=qbg s:=rfl;have h65:(((qbg s).drop 7).take 65).length=65:=by simp;omega
   have htl:=trimL_le (((qbg s).drop 7).take 65);have hmr:decide ((((qbg s).getD 6 0).toNat:Int)=45)=((qbg s).getD 6 0==45):=by
    rw[Bool.eq_iff_iff,decide_eq_true_eq,beq_iff_eq];exact iff_of_eq (XP _ 45)
   have hln:=lineE_none (line:=line) (dbg:=dbg) h80 hbn;refine Qa ?_;change Awp _ _ _ _ _ _ _;refine awp_rseq [0,1,2,6,8] (by rfl) fun K hK=>?_;simp+decide only[ev,qJ,qG,putD,Slots.put,Slots.get,if_true,if_false,true_and,↓qj,qf,↓XA,QK,YB Tryz.underlying9,↓qC,qo,qZ,cond_false,qz,UD,↓ap_max,pop_max,pMax_int,evs,List.map_cons,List.map_nil];try simp(disch:=omega)only[wrap_i64]
   rw[show max (0:Int) (72-(s.length:Int))=((72-s.length:Nat):Int) by omega];refine qM (V:= .str (sp (72-s.length))) (by rfl) (by rfl) (c_repeat w0 _ 32 _ (by omega)) ?_;simp+decide only[qa,ev,putD,Slots.put,Slots.get,Slots.keep,if_true,if_false,true_and,↓qC,qo,qZ,cond_false,Zp,pS_add,↓qd,qb,hpe];repeat (with_reducible refine And.intro ?_ ?_;· first|trivial|omega|(intro hg;simp only[Bool.and_eq_true,Bool.or_eq_true,Bool.not_eq_true',Bool.and_eq_false_iff,Bool.or_eq_false_iff,Bool.not_eq_false',decide_eq_true_eq,decide_eq_false_iff_not,Zt]at hg;omega))
   apply hK;clear hK K;refine awp_rseq [0,1,2,6,8,10] (by rfl) fun K hK=>?_;simp+decide only[qa,ev,qJ,qG,putD,Slots.put,Slots.get,Slots.keep,if_true,if_false,true_and,↓qj,qf,↓ap_index,pop_index,qcB Tryz.underlying9,↓qd,qb,w6];repeat (with_reducible refine And.intro ?_ ?_;· first|trivial|omega|(intro hg;simp only[Bool.and_eq_true,Bool.or_eq_true,Bool.not_eq_true',Bool.and_eq_false_iff,Bool.or_eq_false_iff,Bool.not_eq_false',decide_eq_true_eq,decide_eq_false_iff_not,Zt]at hg;omega))
   apply hK;clear hK K;refine awp_rseq [1,2,6,8,10,11] (by rfl) fun K hK=>?_;simp+decide only[qa,ev,qJ,qG,putD,Slots.put,Slots.get,Slots.keep,if_true,if_false,true_and,↓qj,qf,↓UJ,ZK,evO,pSliceS_ii Tryz.underlying9,qaJ,UH,↓qd,qb,w7,w72,Nat.reduceSub];repeat (with_reducible refine And.intro ?_ ?_;· first|trivial|omega|(intro hg;simp only[Bool.and_eq_true,Bool.or_eq_true,Bool.not_eq_true',Bool.and_eq_false_iff,Bool.or_eq_false_iff,Bool.not_eq_false',decide_eq_true_eq,decide_eq_false_iff_not,Zt]at hg;omega))
   apply hK;clear hK K;refine awp_rseq [1,2,6,8,10,11,12] (by rfl) fun K hK=>?_;simp+decide only[ev,putD,Slots.put,Slots.get,if_true,if_false,true_and,↓qj,qf];refine qM (V:= .str (trimL (((qbg s).drop 7).take 65))) (by rfl) (by rfl) (c_trimL w0 _ _) ?_;simp+decide only[qa,ev,putD,Slots.put,Slots.get,Slots.keep,if_true,if_false,true_and,↓qd,qb];apply hK;clear hK K;refine awp_rseq [1,2,6,8,10,12,13] (by rfl) fun K hK=>?_;simp+decide only[ev,qJ,qG,putD,Slots.put,Slots.get,if_true,if_false,true_and,↓qj,qf,↓qC,qo,qD,cond_false,qz,XD,↓XA,QK,YB Tryz.underlying9,qZ,Xf,UD,↓Qn,↓qV,bld120_0_1_2_3,evP,List.map_cons,List.map_nil,h65,w8,hmr];try simp(disch:=omega)only[wrap_i64]
   refine Qi ze120 (cs:=[.int .i64 0, .bool false, .str [], .int .i64 0]) (by rfl) fun k10q11 hk10q11=>?_;have ne_10q11_0q0:k10q11≠k0q0:=by simp only[AHeap.set_none]at hk10q11;simp only[hk10q11,ne_eq,not_false_eq_true]
   have ne_10q11_0q2:k10q11≠k0q2:=by simp only[AHeap.set_none]at hk10q11;simp only[hk10q11,ne_eq,not_false_eq_true]
   try have hf_10q11:h k10q11=none:=by first|assumption|(simp only[AHeap.set_none]at hk10q11;simp only[hk10q11])
   refine qm (by rfl) (by rfl) (by repeat (first|exact AHeap.set_same _ _ _|assumption|refine(AHeap.set_ne _ _ (by first|assumption|exact Ne.symm (by assumption))).trans ?_)) ZO (by rfl) (by rfl) (by first|exact Nat.le_refl _|decide|(simp;done)|(simp;omega)) (Nat.zero_le _) (by rfl) ?_;simp only[AHeap.set_set,AVal.cells];simp+decide only[qa,ev,putD,Slots.put,Slots.get,Slots.keep,if_true,if_false,setAt,List.set_cons_zero,List.set_cons_succ,Nat.zero_add,Nat.reduceAdd];apply hK;clear hK K;refine qO ?_;refine awp_rseq [1,2,6,8,12,13,53] (by rfl) fun K hK=>?_;simp+decide only[qa,ev,putD,Slots.put,Slots.get,Slots.keep,if_true,if_false,true_and,↓qj,qf];apply hK;clear hK K;refine QB ?_;refine qO ?_;refine awp_rseq [1,2,6,8,12,13,53,54] (by rfl) fun K hK=>?_;simp+decide only[qa,ev,qJ,qG,putD,Slots.put,Slots.get,Slots.keep,if_true,if_false,true_and,↓qC,qo,qD,cond_false,qz,XD,↓qd,qb];apply hK;clear hK K;refine qL (b:=_) rfl (fun hb3=>?_) (fun hb3=>?_)
   ·try simp only[decide_eq_true_eq]at hb3
    refine Qa ?_;change Awp _ _ _ _ _ _ _;refine qL (b:=_) rfl (fun hb4=>?_) (fun hb4=>?_)
    ·try simp only[decide_eq_true_eq]at hb4
     refine awp_rseq [6,7,8] (by rfl) fun K hK=>?_;simp+decide only[ev,qJ,qG,putD,Slots.put,Slots.get,if_true,if_false,true_and,↓qF,Qb,qg Wo ZO,↓Qn,↓qV,ZI,evP,List.map_nil,QV,qc,List.getD_cons_zero,List.getD_cons_succ,Nat.zero_add,Nat.reduceAdd,qB,qh,qE,allLive,Bool.and_true];refine qm (by rfl) (by rfl) (by repeat (first|exact AHeap.set_same _ _ _|assumption|refine(AHeap.set_ne _ _ (by first|assumption|exact Ne.symm (by assumption))).trans ?_)) ZO (by rfl) (by rfl) (by first|exact Nat.le_refl _|decide|(simp;done)|(simp;omega)) (Nat.zero_le _) (by rfl) ?_;simp only[AVal.cells];simp+decide only[ev,qJ,qG,putD,Slots.put,Slots.get,if_true,if_false,true_and,↓qd,qb,setAt,List.set_cons_zero,List.set_cons_succ,Nat.zero_add,Nat.reduceAdd];refine qm (by rfl) (by rfl) (by repeat (first|exact AHeap.set_same _ _ _|assumption|refine(AHeap.set_ne _ _ (by first|assumption|exact Ne.symm (by assumption))).trans ?_)) QD (by rfl) (by rfl) (by first|exact Nat.le_refl _|decide|(simp;done)|(simp;omega)) (Nat.zero_le _) (by rfl) ?_;simp only[AVal.cells];simp+decide only[qa,ev,putD,Slots.get,Slots.keep,if_true,if_false,setAt,List.set_cons_zero,List.set_cons_succ,Nat.zero_add,Nat.reduceAdd];apply hK;clear hK K;refine qN ?_;try simp only[Qf,Qr]
     refine qU h (by repeat (first|exact Sub.refl _|assumption|refine Sub.trans_set ?_ (by assumption))) (?_) ?_
     ·simp+decide only[Qw,qp,qi,Slots.get,if_true,if_false,and_true,qp,qi,qg Wo ZO,qg Xh QD,qW,qc,List.getD_cons_zero,List.getD_cons_succ,Nat.zero_add,Nat.reduceAdd,qB,qh,qE,allLive,Bool.and_true,QU,ne_eq,not_false_eq_true,ne_0q2_0q0.symm,qc,List.getD_cons_zero,List.getD_cons_succ,Nat.zero_add,Nat.reduceAdd,qB,qh,qE,allLive,Bool.and_true]
     simp+decide only[Slots.get,if_true,if_false,and_true,Qz,qp,qi,qg Wo ZO,qg Xh QD,qW,qc,List.getD_cons_zero,List.getD_cons_succ,Nat.zero_add,Nat.reduceAdd,qB,qh,qE,allLive,Bool.and_true,QU,ne_eq,not_false_eq_true,ne_0q2_0q0.symm,qc,List.getD_cons_zero,List.getD_cons_succ,Nat.zero_add,Nat.reduceAdd,qB,qh,qE,allLive,Bool.and_true,QS,rowA];rw[hln,if_pos (.inl ((XP _ 42).mp hb3))];rfl
    ·try simp only[decide_eq_false_iff_not]at hb4
     exact absurd hb3 hb4
   ·try simp only[decide_eq_false_iff_not]at hb3
    refine XK [1,2,6,8,12,13,53,54] (by rfl) ?_;simp+decide only[qa,ev,qJ,qG,putD,Slots.put,Slots.get,Slots.keep,if_true,if_false,true_and,↓qC,qo,qD,cond_false,qz,XD,↓qd,qb,QS,rowA];change Awp _ _ _ _ _ _ _;refine qL (b:=_) rfl (fun hb9=>?_) (fun hb9=>?_)
    ·try simp only[decide_eq_true_eq]at hb9
     refine awp_rseq [6,7,8] (by rfl) fun K hK=>?_;simp+decide only[ev,qJ,qG,putD,Slots.put,Slots.get,if_true,if_false,true_and,↓qF,Qb,qg Wo ZO,↓Qn,↓qV,ZI,evP,List.map_nil,QV,qc,List.getD_cons_zero,List.getD_cons_succ,Nat.zero_add,Nat.reduceAdd,qB,qh,qE,allLive,Bool.and_true];refine qm (by rfl) (by rfl) (by repeat (first|exact AHeap.set_same _ _ _|assumption|refine(AHeap.set_ne _ _ (by first|assumption|exact Ne.symm (by assumption))).trans ?_)) ZO (by rfl) (by rfl) (by first|exact Nat.le_refl _|decide|(simp;done)|(simp;omega)) (Nat.zero_le _) (by rfl) ?_;simp only[AVal.cells];simp+decide only[ev,qJ,qG,putD,Slots.put,Slots.get,if_true,if_false,true_and,↓qd,qb,setAt,List.set_cons_zero,List.set_cons_succ,Nat.zero_add,Nat.reduceAdd];refine qm (by rfl) (by rfl) (by repeat (first|exact AHeap.set_same _ _ _|assumption|refine(AHeap.set_ne _ _ (by first|assumption|exact Ne.symm (by assumption))).trans ?_)) QD (by rfl) (by rfl) (by first|exact Nat.le_refl _|decide|(simp;done)|(simp;omega)) (Nat.zero_le _) (by rfl) ?_;simp only[AVal.cells];simp+decide only[qa,ev,putD,Slots.get,Slots.keep,if_true,if_false,setAt,List.set_cons_zero,List.set_cons_succ,Nat.zero_add,Nat.reduceAdd];apply hK;clear hK K;refine qN ?_;try simp only[Qf,Qr]
     refine qU h (by repeat (first|exact Sub.refl _|assumption|refine Sub.trans_set ?_ (by assumption))) (?_) ?_
     ·simp+decide only[Qw,qp,qi,Slots.get,if_true,if_false,and_true,qp,qi,qg Wo ZO,qg Xh QD,qW,qc,List.getD_cons_zero,List.getD_cons_succ,Nat.zero_add,Nat.reduceAdd,qB,qh,qE,allLive,Bool.and_true,QU,ne_eq,not_false_eq_true,ne_0q2_0q0.symm,qc,List.getD_cons_zero,List.getD_cons_succ,Nat.zero_add,Nat.reduceAdd,qB,qh,qE,allLive,Bool.and_true]
     simp+decide only[Slots.get,if_true,if_false,and_true,Qz,qp,qi,qg Wo ZO,qg Xh QD,qW,qc,List.getD_cons_zero,List.getD_cons_succ,Nat.zero_add,Nat.reduceAdd,qB,qh,qE,allLive,Bool.and_true,QU,ne_eq,not_false_eq_true,ne_0q2_0q0.symm,qc,List.getD_cons_zero,List.getD_cons_succ,Nat.zero_add,Nat.reduceAdd,qB,qh,qE,allLive,Bool.and_true];rw[hln,if_pos (.inr ((XP _ 47).mp hb9))];rfl
    ·try simp only[decide_eq_false_iff_not]at hb9
     have n1:¬((qbg s).getD 6 0=42\/(qbg s).getD 6 0=47):=by
      rintro(e|e)
      ·exact hb3 ((XP _ 42).mpr e)
      ·exact hb9 ((XP _ 47).mpr e)
     refine qO ?_;refine awp_rseq [1,2,6,8,12,13,53,59] (by rfl) fun K hK=>?_;simp+decide only[qa,ev,qJ,qG,putD,Slots.put,Slots.get,Slots.keep,if_true,if_false,true_and,↓qC,qo,qD,cond_false,qz,XD,↓qd,qb];apply hK;clear hK K;refine qL (b:=_) rfl (fun hb10=>?_) (fun hb10=>?_)
     ·try simp only[decide_eq_true_eq]at hb10
      refine Qa ?_;change Awp _ _ _ _ _ _ _;refine qL (b:=_) rfl (fun hb11=>?_) (fun hb11=>?_)
      ·try simp only[decide_eq_true_eq]at hb11
       refine awp_rseq [6,7,8] (by rfl) fun K hK=>?_;simp+decide only[ev,qJ,qG,putD,Slots.put,Slots.get,if_true,if_false,true_and,↓qF,Qb,qg Wo ZO,↓qj,qf,↓Xc,agP,Qu,qI,qH,qw,implies_true,Bool.and_true,↓Xd,qo,YP,cond_false,Zf,Zg,Zp,pS_neq,↓QP,Qt,Qg,Xj,Xk,↓Qn,↓qV,ZI,evP,List.map_nil,QV,qc,List.getD_cons_zero,List.getD_cons_succ,Nat.zero_add,Nat.reduceAdd,qB,qh,qE,allLive,Bool.and_true];refine qm (by rfl) (by rfl) (by repeat (first|exact AHeap.set_same _ _ _|assumption|refine(AHeap.set_ne _ _ (by first|assumption|exact Ne.symm (by assumption))).trans ?_)) ZO (by rfl) (by rfl) (by first|exact Nat.le_refl _|decide|(simp;done)|(simp;omega)) (Nat.zero_le _) (by rfl) ?_;simp only[AVal.cells];simp+decide only[ev,putD,Slots.put,Slots.get,if_true,if_false,true_and,↓qd,qb,setAt,List.set_cons_zero,List.set_cons_succ,Nat.zero_add,Nat.reduceAdd];refine qm (by rfl) (by rfl) (by repeat (first|exact AHeap.set_same _ _ _|assumption|refine(AHeap.set_ne _ _ (by first|assumption|exact Ne.symm (by assumption))).trans ?_)) QD (by rfl) (by rfl) (by first|exact Nat.le_refl _|decide|(simp;done)|(simp;omega)) (Nat.zero_le _) (by rfl) ?_;simp only[AVal.cells];simp+decide only[qa,ev,putD,Slots.get,Slots.keep,if_true,if_false,setAt,List.set_cons_zero,List.set_cons_succ,Nat.zero_add,Nat.reduceAdd];apply hK;clear hK K;refine qN ?_;try simp only[Qf,Qr]
       refine qU h (by repeat (first|exact Sub.refl _|assumption|refine Sub.trans_set ?_ (by assumption))) (?_) ?_
       ·simp+decide only[Qw,qp,qi,Slots.get,if_true,if_false,and_true,qp,qi,qg Wo ZO,qg Xh QD,qW,qc,List.getD_cons_zero,List.getD_cons_succ,Nat.zero_add,Nat.reduceAdd,qB,qh,qE,allLive,Bool.and_true,QU,ne_eq,not_false_eq_true,ne_0q2_0q0.symm,qc,List.getD_cons_zero,List.getD_cons_succ,Nat.zero_add,Nat.reduceAdd,qB,qh,qE,allLive,Bool.and_true]
       simp+decide only[Slots.get,if_true,if_false,and_true,Qz,qp,qi,qg Wo ZO,qg Xh QD,qW,qc,List.getD_cons_zero,List.getD_cons_succ,Nat.zero_add,Nat.reduceAdd,qB,qh,qE,allLive,Bool.and_true,QU,ne_eq,not_false_eq_true,ne_0q2_0q0.symm,qc,List.getD_cons_zero,List.getD_cons_succ,Nat.zero_add,Nat.reduceAdd,qB,qh,qE,allLive,Bool.and_true];rw[hln,if_neg n1,if_pos (.inl ((XP _ 68).mp hb10))];rfl
      ·try simp only[decide_eq_false_iff_not]at hb11
       exact absurd hb10 hb11
     ·try simp only[decide_eq_false_iff_not]at hb10
      refine XK [1,2,6,8,12,13,53,59] (by rfl) ?_;simp+decide only[qa,ev,qJ,qG,putD,Slots.put,Slots.get,Slots.keep,if_true,if_false,true_and,↓qC,qo,qD,cond_false,qz,XD,↓qd,qb];change Awp _ _ _ _ _ _ _;refine qL (b:=_) rfl (fun hb14=>?_) (fun hb14=>?_)
      ·try simp only[decide_eq_true_eq]at hb14
       refine awp_rseq [6,7,8] (by rfl) fun K hK=>?_;simp+decide only[ev,qJ,qG,putD,Slots.put,Slots.get,if_true,if_false,true_and,↓qF,Qb,qg Wo ZO,↓qj,qf,↓Xc,agP,Qu,qI,qH,qw,implies_true,Bool.and_true,↓Xd,qo,YP,cond_false,Zf,Zg,Zp,pS_neq,↓QP,Qt,Qg,Xj,Xk,↓Qn,↓qV,ZI,evP,List.map_nil,QV,qc,List.getD_cons_zero,List.getD_cons_succ,Nat.zero_add,Nat.reduceAdd,qB,qh,qE,allLive,Bool.and_true];refine qm (by rfl) (by rfl) (by repeat (first|exact AHeap.set_same _ _ _|assumption|refine(AHeap.set_ne _ _ (by first|assumption|exact Ne.symm (by assumption))).trans ?_)) ZO (by rfl) (by rfl) (by first|exact Nat.le_refl _|decide|(simp;done)|(simp;omega)) (Nat.zero_le _) (by rfl) ?_;simp only[AVal.cells];simp+decide only[ev,putD,Slots.put,Slots.get,if_true,if_false,true_and,↓qd,qb,setAt,List.set_cons_zero,List.set_cons_succ,Nat.zero_add,Nat.reduceAdd];refine qm (by rfl) (by rfl) (by repeat (first|exact AHeap.set_same _ _ _|assumption|refine(AHeap.set_ne _ _ (by first|assumption|exact Ne.symm (by assumption))).trans ?_)) QD (by rfl) (by rfl) (by first|exact Nat.le_refl _|decide|(simp;done)|(simp;omega)) (Nat.zero_le _) (by rfl) ?_;simp only[AVal.cells];simp+decide only[qa,ev,putD,Slots.get,Slots.keep,if_true,if_false,setAt,List.set_cons_zero,List.set_cons_succ,Nat.zero_add,Nat.reduceAdd];apply hK;clear hK K;refine qN ?_;try simp only[Qf,Qr]
       refine qU h (by repeat (first|exact Sub.refl _|assumption|refine Sub.trans_set ?_ (by assumption))) (?_) ?_
       ·simp+decide only[Qw,qp,qi,Slots.get,if_true,if_false,and_true,qp,qi,qg Wo ZO,qg Xh QD,qW,qc,List.getD_cons_zero,List.getD_cons_succ,Nat.zero_add,Nat.reduceAdd,qB,qh,qE,allLive,Bool.and_true,QU,ne_eq,not_false_eq_true,ne_0q2_0q0.symm,qc,List.getD_cons_zero,List.getD_cons_succ,Nat.zero_add,Nat.reduceAdd,qB,qh,qE,allLive,Bool.and_true]
       simp+decide only[Slots.get,if_true,if_false,and_true,Qz,qp,qi,qg Wo ZO,qg Xh QD,qW,qc,List.getD_cons_zero,List.getD_cons_succ,Nat.zero_add,Nat.reduceAdd,qB,qh,qE,allLive,Bool.and_true,QU,ne_eq,not_false_eq_true,ne_0q2_0q0.symm,qc,List.getD_cons_zero,List.getD_cons_succ,Nat.zero_add,Nat.reduceAdd,qB,qh,qE,allLive,Bool.and_true];rw[hln,if_neg n1,if_pos (.inr ((XP _ 100).mp hb14))];rfl
      ·try simp only[decide_eq_false_iff_not]at hb14
       have n2:¬((qbg s).getD 6 0=68\/(qbg s).getD 6 0=100):=by
        rintro(e|e)
        ·exact hb10 ((XP _ 68).mpr e)
        ·exact hb14 ((XP _ 100).mpr e)
       refine qO ?_;refine awp_rseq [1,6,8,12,13,53,69] (by rfl) fun K hK=>?_;simp+decide only[qa,ev,qJ,qG,putD,Slots.put,Slots.get,Slots.keep,if_true,if_false,true_and,↓qC,qo,qD,cond_false,qz,XD,↓qd,qb];apply hK;clear hK K;refine qL (b:=_) rfl (fun hb15=>?_) (fun hb15=>?_)
       ·try simp only[decide_eq_true_eq]at hb15
        refine Qa ?_;change Awp _ _ _ _ _ _ _;refine qL (b:=_) rfl (fun hb16=>?_) (fun hb16=>?_)
        ·try simp only[decide_eq_true_eq]at hb16
         refine awp_rseq [6,7,8] (by rfl) fun K hK=>?_;simp+decide only[ev,qJ,qG,putD,Slots.put,Slots.get,if_true,if_false,true_and,↓qF,Qb,qg Wo ZO,↓qj,qf,↓qC,qo,YP,cond_false,Zp,pS_neq,↓Qn,↓qV,ZI,evP,List.map_nil,QV,qc,List.getD_cons_zero,List.getD_cons_succ,Nat.zero_add,Nat.reduceAdd,qB,qh,qE,allLive,Bool.and_true];refine qm (by rfl) (by rfl) (by repeat (first|exact AHeap.set_same _ _ _|assumption|refine(AHeap.set_ne _ _ (by first|assumption|exact Ne.symm (by assumption))).trans ?_)) ZO (by rfl) (by rfl) (by first|exact Nat.le_refl _|decide|(simp;done)|(simp;omega)) (Nat.zero_le _) (by rfl) ?_;simp only[AVal.cells];simp+decide only[ev,putD,Slots.put,Slots.get,if_true,if_false,true_and,↓qd,qb,setAt,List.set_cons_zero,List.set_cons_succ,Nat.zero_add,Nat.reduceAdd];refine qm (by rfl) (by rfl) (by repeat (first|exact AHeap.set_same _ _ _|assumption|refine(AHeap.set_ne _ _ (by first|assumption|exact Ne.symm (by assumption))).trans ?_)) QD (by rfl) (by rfl) (by first|exact Nat.le_refl _|decide|(simp;done)|(simp;omega)) (Nat.zero_le _) (by rfl) ?_;simp only[AVal.cells];simp+decide only[qa,ev,putD,Slots.get,Slots.keep,if_true,if_false,setAt,List.set_cons_zero,List.set_cons_succ,Nat.zero_add,Nat.reduceAdd];apply hK;clear hK K;refine qN ?_;try simp only[Qf,Qr]
         refine qU h (by repeat (first|exact Sub.refl _|assumption|refine Sub.trans_set ?_ (by assumption))) (?_) ?_
         ·simp+decide only[Qw,qp,qi,Slots.get,if_true,if_false,and_true,qp,qi,qg Wo ZO,qg Xh QD,qW,qc,List.getD_cons_zero,List.getD_cons_succ,Nat.zero_add,Nat.reduceAdd,qB,qh,qE,allLive,Bool.and_true,QU,ne_eq,not_false_eq_true,ne_0q2_0q0.symm,qc,List.getD_cons_zero,List.getD_cons_succ,Nat.zero_add,Nat.reduceAdd,qB,qh,qE,allLive,Bool.and_true]
         simp+decide only[Slots.get,if_true,if_false,and_true,Qz,qp,qi,qg Wo ZO,qg Xh QD,qW,qc,List.getD_cons_zero,List.getD_cons_succ,Nat.zero_add,Nat.reduceAdd,qB,qh,qE,allLive,Bool.and_true,QU,ne_eq,not_false_eq_true,ne_0q2_0q0.symm,qc,List.getD_cons_zero,List.getD_cons_succ,Nat.zero_add,Nat.reduceAdd,qB,qh,qE,allLive,Bool.and_true];rw[hln,if_neg n1,if_neg n2,if_pos (.inl ((XP _ 32).mp hb15))];rfl
        ·try simp only[decide_eq_false_iff_not]at hb16
         exact absurd hb15 hb16
       ·try simp only[decide_eq_false_iff_not]at hb15
        refine XK [1,6,8,12,13,69] (by rfl) ?_;simp+decide only[qa,ev,qJ,qG,putD,Slots.put,Slots.get,Slots.keep,if_true,if_false,true_and,↓qC,qo,qD,cond_false,qz,XD,↓qd,qb];change Awp _ _ _ _ _ _ _;refine qL (b:=_) rfl (fun hb17=>?_) (fun hb17=>?_)
        ·try simp only[decide_eq_true_eq]at hb17
         refine awp_rseq [6,7,8] (by rfl) fun K hK=>?_;simp+decide only[ev,qJ,qG,putD,Slots.put,Slots.get,if_true,if_false,true_and,↓qF,Qb,qg Wo ZO,↓qj,qf,↓qC,qo,YP,cond_false,Zp,pS_neq,↓Qn,↓qV,ZI,evP,List.map_nil,QV,qc,List.getD_cons_zero,List.getD_cons_succ,Nat.zero_add,Nat.reduceAdd,qB,qh,qE,allLive,Bool.and_true];refine qm (by rfl) (by rfl) (by repeat (first|exact AHeap.set_same _ _ _|assumption|refine(AHeap.set_ne _ _ (by first|assumption|exact Ne.symm (by assumption))).trans ?_)) ZO (by rfl) (by rfl) (by first|exact Nat.le_refl _|decide|(simp;done)|(simp;omega)) (Nat.zero_le _) (by rfl) ?_;simp only[AVal.cells];simp+decide only[ev,putD,Slots.put,Slots.get,if_true,if_false,true_and,↓qd,qb,setAt,List.set_cons_zero,List.set_cons_succ,Nat.zero_add,Nat.reduceAdd];refine qm (by rfl) (by rfl) (by repeat (first|exact AHeap.set_same _ _ _|assumption|refine(AHeap.set_ne _ _ (by first|assumption|exact Ne.symm (by assumption))).trans ?_)) QD (by rfl) (by rfl) (by first|exact Nat.le_refl _|decide|(simp;done)|(simp;omega)) (Nat.zero_le _) (by rfl) ?_;simp only[AVal.cells];simp+decide only[qa,ev,putD,Slots.get,Slots.keep,if_true,if_false,setAt,List.set_cons_zero,List.set_cons_succ,Nat.zero_add,Nat.reduceAdd];apply hK;clear hK K;refine qN ?_;try simp only[Qf,Qr]
         refine qU h (by repeat (first|exact Sub.refl _|assumption|refine Sub.trans_set ?_ (by assumption))) (?_) ?_
         ·simp+decide only[Qw,qp,qi,Slots.get,if_true,if_false,and_true,qp,qi,qg Wo ZO,qg Xh QD,qW,qc,List.getD_cons_zero,List.getD_cons_succ,Nat.zero_add,Nat.reduceAdd,qB,qh,qE,allLive,Bool.and_true,QU,ne_eq,not_false_eq_true,ne_0q2_0q0.symm,qc,List.getD_cons_zero,List.getD_cons_succ,Nat.zero_add,Nat.reduceAdd,qB,qh,qE,allLive,Bool.and_true]
         simp+decide only[Slots.get,if_true,if_false,and_true,Qz,qp,qi,qg Wo ZO,qg Xh QD,qW,qc,List.getD_cons_zero,List.getD_cons_succ,Nat.zero_add,Nat.reduceAdd,qB,qh,qE,allLive,Bool.and_true,QU,ne_eq,not_false_eq_true,ne_0q2_0q0.symm,qc,List.getD_cons_zero,List.getD_cons_succ,Nat.zero_add,Nat.reduceAdd,qB,qh,qE,allLive,Bool.and_true];rw[hln,if_neg n1,if_neg n2,if_pos (.inr ((XP _ 45).mp hb17))];rfl
        ·try simp only[decide_eq_false_iff_not]at hb17
         refine Qa ?_;change Awp _ _ _ _ _ _ _;refine Ww 3 [] [6,7,8] mixed (by kernel_rfl) (by rfl) fun K hK=>?_;simp only[List.take_succ_cons,List.take_zero,List.drop_succ_cons,List.drop_zero];simp+decide only[ev,putD,Slots.put,Slots.get,if_true,if_false,true_and,↓WH,Zr,qg Wo ZO,↓Um,qf,QV,qc,List.getD_cons_zero,List.getD_cons_succ,Nat.zero_add,Nat.reduceAdd,qB,qh,qE,allLive,Bool.and_true];refine qbo (V:=QS ⟨4,line,7⟩) (by rfl) (by rfl) (by first|trivial|(simp+decide only[AVal.okIn,WM,and_true,true_and,QS,WO,posA,cardA,rowA,AHeap.set_same,Option.isSome_some];done)|(simp[AVal.okIn,WM,AHeap.set];done)) (fun g hg=>c_fault w0 _ 4 line 7) ?_;try simp only[YI]
         refine qm (by rfl) (by rfl) (by repeat (first|exact AHeap.set_same _ _ _|assumption|refine(AHeap.set_ne _ _ (by first|assumption|exact Ne.symm (by assumption))).trans ?_)) ZO (by rfl) (by rfl) (by first|exact Nat.le_refl _|decide|(simp;done)|(simp;omega)) (Nat.zero_le _) (by rfl) ?_;simp only[AVal.cells];simp+decide only[ev,qJ,qG,putD,Slots.put,Slots.get,if_true,if_false,true_and,↓qd,qb,setAt,List.set_cons_zero,List.set_cons_succ,Nat.zero_add,Nat.reduceAdd,QS];refine qm (by rfl) (by rfl) (by repeat (first|exact AHeap.set_same _ _ _|assumption|refine(AHeap.set_ne _ _ (by first|assumption|exact Ne.symm (by assumption))).trans ?_)) QD (by rfl) (by rfl) (by first|exact Nat.le_refl _|decide|(simp;done)|(simp;omega)) (Nat.zero_le _) (by rfl) ?_;simp only[AVal.cells];simp+decide only[qa,ev,putD,Slots.get,Slots.keep,if_true,if_false,setAt,List.set_cons_zero,List.set_cons_succ,Nat.zero_add,Nat.reduceAdd];apply hK;clear hK K;refine qN ?_;refine qU h (by repeat (first|exact Sub.refl _|assumption|refine Sub.trans_set ?_ (by assumption))) (?_) ?_
         ·simp+decide only[Qw,qp,qi,Slots.get,if_true,if_false,and_true,qp,qi,qg Wo ZO,qg Xh QD,qW,qc,List.getD_cons_zero,List.getD_cons_succ,Nat.zero_add,Nat.reduceAdd,qB,qh,qE,allLive,Bool.and_true,QU,ne_eq,not_false_eq_true,ne_0q2_0q0.symm,qc,List.getD_cons_zero,List.getD_cons_succ,Nat.zero_add,Nat.reduceAdd,qB,qh,qE,allLive,Bool.and_true]
         simp+decide only[Slots.get,if_true,if_false,and_true,Qz,qp,qi,qg Wo ZO,qg Xh QD,qW,qc,List.getD_cons_zero,List.getD_cons_succ,Nat.zero_add,Nat.reduceAdd,qB,qh,qE,allLive,Bool.and_true,QU,ne_eq,not_false_eq_true,ne_0q2_0q0.symm,qc,List.getD_cons_zero,List.getD_cons_succ,Nat.zero_add,Nat.reduceAdd,qB,qh,qE,allLive,Bool.and_true];rw[hln,if_neg n1,if_neg n2,if_neg]
         ·rfl
         ·rintro(e|e)
          ·exact hb15 ((XP _ 32).mpr e)
          ·exact hb17 ((XP _ 45).mpr e)
end Go.Proofs.YtlhhaagmakhilaaGreatDoor
namespace Go.Proofs.YtlhhaagmakhilaaGreatDoor
open Go.AM
open Go.Proofs
open Go.Col
open Go.Tok
open Go.RowKit (Below)
set_option maxRecDepth 100000
def Xv(t:TokC):List AVal:=[.int .u8 t.kind.toNat, .str t.text, .int .i64 t.line, .int .i64 t.col, .bool t.left]
def nxA(t:Nx):AVal:= .agg [.int .u8 t.kind.toNat, .str t.text, .int .i64 0, .int .i64 0, .bool false]
def nxR(t:Nx):AVal:= .tuple [nxA t, .int .i64 t.n, .int .i64 t.e]
theorem WU(w0:World)(h:AHeap)(kx:Nat)(lf:Bool)(s:Str)(mv tv:AVal)(i:Nat)(n:Int)(hk:h kx=some ⟨[.bool lf, .str s,mv, .int .i64 i,tv],0⟩)(i1:i<=4611686018427387904)(n0: -1<=n)(n1:n<=2305843009213693952):
 ACall Tryz.prog w0 105 [.ptr (.own kx) 0, .int .i64 n] h (fun v h'=>v= .int .u8 (Qk s (i+n)).toNat/\h'=h):=by
 have rx:=fun o=>Qp w0 hk o;refine qR (n:=39) (rs:=[.tmp 4]) Tryz.func105 rfl rfl rfl rfl (Nat.le_of_ble_eq_true rfl) ?_;simp only[Qc];refine awp_rseq [0,1] (by rfl) fun K hK=>?_;simp+decide only[qa,ev,qJ,qG,putD,Slots.put,Slots.keep,if_true,if_false,true_and,↓qd,qb,Nat.zero_add];apply hK;clear hK K;refine qO ?_;refine Zh [0,1,26] mixed (by kernel_rfl) (by rfl) (by rfl) fun K hK=>?_;simp+decide only[qa,ev,qJ,qG,putD,Slots.put,Slots.get,Slots.keep,if_true,if_false,true_and,↓qj,qf,↓Qh,qK,Qj,↓qA,ql,YW,↓qF,Qb,qy ag3,↓qC,qo,qZ,cond_false,qz,Xf,qD,Zd,↓Xc,agP,Qu,qI,qH,Qd,implies_true,↓ZZ,qbr,qbs,↓Xn,Zv,Zw,↓Zb,XI,Wy,qcN,↓Xd,Zf,qbG,Zg,qbH,WI,YH,qy ag9,↓qbS,QK,YB Tryz.underlying9,cv_len,cp_len,qaw,↓QP,Qt,Qg,XW,ZR,List.getD_cons_zero,List.getD_cons_succ,Nat.zero_add,qh,qE,rx];try simp(disch:=omega)only[wrap_i64]
 apply hK;clear hK K;refine qL (b:=_) rfl (fun hb1=>?_) (fun hb1=>?_)
 ·try simp only[decide_eq_true_eq,Bool.or_eq_true]at hb1
  skip;refine awp_rseq [4] (by rfl) fun K hK=>?_;simp+decide only[qa,ev,qJ,qG,putD,Slots.put,Slots.keep,if_true,if_false,true_and,↓qd,qb];apply hK;clear hK K;refine qN ?_;try simp only[Qf]
  refine qU h (by repeat (first|exact Sub.refl _|assumption|refine Sub.trans_set ?_ (by assumption))) (qY (Qe)) ?_;simp+decide only[Slots.get,if_true,and_true,Qv];rw[peekE_ge (by omega)];rfl
 ·try simp only[decide_eq_false_iff_not,Bool.or_eq_false_iff]at hb1
  have hi:0<=(i:Int)+n/\(i:Int)+n<s.length:=by omega
  refine Qa ?_;change Awp _ _ _ _ _ _ _;refine Zh [4] mixed (by kernel_rfl) (by rfl) (by rfl) fun K hK=>?_;simp+decide only[ev,putD,Slots.put,Slots.get,if_true,if_false,true_and,↓qj,qf,↓Qh,qK,Qj,↓qA,ql,WI,YH,↓qF,Qb,qy ag9,YW,qy ag3,↓qC,qo,qZ,cond_false,qz,Xf,List.getD_cons_zero,List.getD_cons_succ,Nat.zero_add,qh,qE,rx];try simp(disch:=omega)only[wrap_i64]
  try simp+decide only[qa,ev,putD,Slots.put,Slots.get,Slots.keep,if_true,if_false,true_and,↓ap_index,pop_index,qcB Tryz.underlying9,↓qd,qb]
  repeat (with_reducible refine And.intro ?_ ?_;· first|trivial|omega|(intro hg;simp only[Bool.and_eq_true,Bool.or_eq_true,Bool.not_eq_true',Bool.and_eq_false_iff,Bool.or_eq_false_iff,Bool.not_eq_false',decide_eq_true_eq,decide_eq_false_iff_not,Zt]at hg;omega))
  apply hK;clear hK K;refine qN ?_;refine qU h (by repeat (first|exact Sub.refl _|assumption|refine Sub.trans_set ?_ (by assumption))) (qY (Qe)) ?_;simp+decide only[Slots.get,if_true,and_true,Qv];unfold Qk;rw[if_neg (by omega)]
theorem runE_next{s:Str}{i n:Nat}{p:UInt8->Bool}(hn:n<=Wl s i p):n<Wl s i p↔i+n<s.length/\p (s.getD (i+n) 0)=true:=by
 constructor
 ·intro h
  have h1:=runE_all (s:=s) (p:=p) (i:=i) h n (Nat.lt_succ_self n);refine⟨?_,h1⟩;by_cases hi:i<=s.length
  ·have:=qct s i p hi
   omega
  ·have:Wl s i p=0:=by rw[qbW,if_neg (by omega)]
   omega
 ·rintro⟨h1,h2⟩
  by_cases e:n=Wl s i p
  ·have:=runE_stop (s:=s) (p:=p) (f:=s.length) (i:=i) (by omega) (by omega)
   rw[<-e,h2]at this;cases this
  ·omega
abbrev IsFn(w0:World)(f:FuncId)(p:UInt8->Bool):Prop:=∀(g:AHeap) (b:UInt8),ACall Tryz.prog w0 f [.int .u8 b.toNat] g (fun v h'=>v= .bool (p b)/\h'=g)
theorem c_run(w0:World)(h:AHeap)(kx:Nat)(lf:Bool)(s:Str)(mv tv:AVal)(i k:Nat)(f:FuncId)(p:UInt8->Bool)(hf:IsFn w0 f p)(hk:h kx=some ⟨[.bool lf, .str s,mv, .int .i64 i,tv],0⟩)(i1:i<=1099511627776)(k1:k<=1099511627776)(hs:s.length<=1099511627776):
 ACall Tryz.prog w0 132 [.ptr (.own kx) 0, .int .i64 k, .func f []] h (fun v h'=>v= .int .i64 (Wl s (i+k) p)/\h'=h):=by
 have rx:=fun o=>Qp w0 hk o;have hrl:=runE_len s (i+k) p;refine qR (n:=35) (rs:=[.tmp 6]) Tryz.func132 rfl rfl rfl rfl (Nat.le_of_ble_eq_true rfl) ?_;simp only[Qc];refine awp_rseq [0,1,2] (by rfl) fun K hK=>?_;simp+decide only[qa,ev,qJ,qG,putD,Slots.put,Slots.keep,if_true,if_false,true_and,↓qd,qb,Nat.zero_add,Nat.reduceAdd];apply hK;clear hK K;refine awp_rseq [0,1,2,7] (by rfl) fun K hK=>?_;simp+decide only[qa,ev,qJ,qG,putD,Slots.put,Slots.keep,if_true,if_false,true_and,↓qd,qb];apply hK;clear hK K;refine qO ?_;refine QB ?_;refine XH [0,1,2,7] (fun n:Nat=>[(0, .ptr (.own kx) 0),(1, .int .i64 k),(2, .func f []),(7, .int .i64 n)]) (fun n:Nat=>h) (fun n:Nat=>n<=Wl s (i+k) p) (fun n:Nat=>Wl s (i+k) p-n) 0 rfl (Sub.refl _) (Nat.zero_le _) ?_;intro n hn;have hnx:=runE_next hn;have hpk:∀q:(i:Int)+k+n<s.length,Qk s (i+((k:Int)+n))=s.getD (i+k+n) 0:=fun q=>by
  rw[show(i:Int)+((k:Int)+n)=((i+k+n:Nat):Int) by omega,Yt (by omega)]
 refine qO ?_;refine Ww 24 [] [0,1,2,7,31] mixed (by kernel_rfl) (by rfl) fun K hK=>?_;simp only[List.take_succ_cons,List.drop_succ_cons,List.take_nil,List.drop_nil];simp+decide only[qa,ev,putD,Slots.put,Slots.get,if_true,if_false,true_and,↓Um,qf,↓Wn,qK,Qj,↓Zu,ql,YW,↓WH,Zr,qy ag3,↓fp_binOp,qo,qZ,cond_false,qz,Xf,WI,YH,qy ag9,↓fp_len,QK,YB Tryz.underlying9,Zd,↓fg_move,fgP,fgQ_some,qI,qH,qw,implies_true,↓fg_binOp,Zf,qbG,Zg,qbH,List.getD_cons_zero,List.getD_cons_succ,Nat.zero_add,qh,qE,rx];try simp(disch:=omega)only[wrap_i64]
 refine fOps_gcall (V:= .int .u8 (Qk s (i+((k:Int)+n))).toNat) (f:=_) (cap:=_) (xs:=_) (by first|rfl|(simp+decide only[gv,qI,Slots.get,if_true,if_false,QO,qH])) (fun hg=>⟨rfl,?_⟩) (by first|trivial|(simp+decide only[AVal.okIn,WM,and_true,true_and,QS,WO,posA,cardA,nxA,nxR,AHeap.set_same,Option.isSome_some];done)|(simp[AVal.okIn,WM,AHeap.set];done)) (fun hg g hsub=>WU w0 _ kx lf s mv tv i ((k:Int)+n) (by first|exact hk|exact hsub _ _ hk) (by omega) (by omega) (by omega)) ?_
 ·try simp+decide only[gv,qI,Slots.get,if_true,if_false,qw]at hg
  simp+decide only[evs,ev,Slots.get,if_true,if_false,hg,Qm,List.append_nil,List.map_cons,List.map_nil]
 simp+decide only[putD,Slots.put,Slots.get,if_true,if_false,gv,qI,qw];refine fOps_gcall (V:= .bool (p (Qk s (i+((k:Int)+n))))) (f:=_) (cap:=_) (xs:=_) (by first|rfl|(simp+decide only[gv,qI,Slots.get,if_true,if_false,QO,qH])) (fun hg=>⟨by(try simp+decide only[gv,qI,Slots.get,if_true,if_false,qw]at hg);simp+decide only[ev,Slots.get,if_true,if_false,hg,Qm];try rfl,?_⟩) (by first|trivial|(simp+decide only[AVal.okIn,WM,and_true,true_and,QS,WO,posA,cardA,nxA,nxR,AHeap.set_same,Option.isSome_some];done)|(simp[AVal.okIn,WM,AHeap.set];done)) (fun hg g hsub=>hf _ _) ?_
 ·try simp+decide only[gv,qI,Slots.get,if_true,if_false,qw]at hg
  simp+decide only[evs,ev,Slots.get,if_true,if_false,hg,Qm,List.append_nil,List.map_cons,List.map_nil]
 simp+decide only[YI,ev,qJ,qG,putD,Slots.put,Slots.get,Slots.keep,if_true,if_false,true_and,gv,qI,qw,↓fp_pick,Qt,Qg,Xj,Xk];apply hK;clear hK K;refine qL (b:=_) rfl (fun hb1=>?_) (fun hb1=>?_)
 ·try simp only[decide_eq_true_eq,Bool.and_eq_true]at hb1
  have h1:n<Wl s (i+k) p:=hnx.2 ⟨by omega,by rw[<-hpk hb1.1];exact hb1.2⟩;refine Qa ?_;change Awp _ _ _ _ _ _ _;refine QB ?_;refine XK [0,1,2,7] (by rfl) ?_;simp+decide only[qa,ev,qJ,qG,putD,Slots.put,Slots.get,Slots.keep,if_true,if_false,true_and,↓qj,qf,↓qC,qo,qD,cond_false,qz,Xf,↓qd,qb];try simp(disch:=omega)only[wrap_i64]
  try simp only[Ql,Yy]
  exact⟨n+1,rfl,Sub.refl _,h1,by omega⟩
 ·try simp only[decide_eq_false_iff_not,Bool.and_eq_false_iff]at hb1
  refine XL ?_;change Awp _ _ _ _ _ _ _;refine awp_rseq [6] (by rfl) fun K hK=>?_;simp+decide only[qa,ev,putD,Slots.put,Slots.get,Slots.keep,if_true,if_false,true_and,↓qj,qf,↓qd,qb];apply hK;clear hK K;refine qN ?_;refine qU h (by repeat (first|exact Sub.refl _|assumption|refine Sub.trans_set ?_ (by assumption))) (qY (Qe)) ?_;simp+decide only[Slots.get,if_true,and_true,Qv];rw[show n=Wl s (i+k) p by
   by_cases e:n<Wl s (i+k) p
   ·have:=hnx.1 e
    have h2:(i:Int)+k+n<s.length:=by omega
    rcases hb1 with q|q
    ·omega
    ·rw[hpk h2,this.2]at q
     cases q
   ·omega]
theorem c_sep(w0:World)(h:AHeap)(b:UInt8):ACall Tryz.prog w0 106 [.int .u8 b.toNat] h (fun v h'=>v= .bool (sepB b)/\h'=h):=by
 refine qR (n:=9) (rs:=[.tmp 2]) Tryz.func106 rfl rfl rfl rfl (Nat.le_of_ble_eq_true rfl) ?_;simp only[Qc];refine awp_rseq [0] (by rfl) fun K hK=>?_;simp+decide only[qa,ev,qJ,qG,putD,Slots.put,Slots.keep,if_true,if_false,true_and,↓qd,qb];apply hK;clear hK K;refine awp_rseq [2] (by rfl) fun K hK=>?_;simp+decide only[qa,ev,qJ,qG,putD,Slots.put,Slots.get,Slots.keep,if_true,if_false,true_and,↓qj,qf,↓qC,qo,qD,cond_false,qz,XD,↓Xc,agP,Qu,qI,qH,Qd,implies_true,↓Xd,Zf,Zg,↓QP,Qt,Qg,XW,ZR,↓qd,qb];apply hK;clear hK K;refine qN ?_;refine qU _ (Sub.refl _) (qY (Qe)) ?_;simp+decide only[Slots.get,if_true,and_true,Qv];have e1:decide ((b.toNat:Int)=44)=decide (b=44):=decide_eq_decide.2 (iff_of_eq (XP b 44));have e2:decide ((b.toNat:Int)=59)=decide (b=59):=decide_eq_decide.2 (iff_of_eq (XP b 59));unfold sepB;rw[e1,e2]
theorem c_contains(w0:World)(h:AHeap)(v:AVal)(l:List Str)(x:Str)(hv:IsStrs w0 h v l)(hn:l.length<=140737488355328):
 ACall Tryz.prog w0 53 [v, .str x] h (fun r h'=>r= .bool (l.contains x)/\h'=h):=by
 intro fi vals w hr hvs;simp only[VRs,VR]at hvs;obtain⟨u,vs',rfl,hu,u2,vs2,rfl,rfl,rfl⟩:=hvs;have fin:∀{R:Ending->World->Prop},Calls Tryz.prog 53 #[u, .string ⟨⟨x⟩⟩] w R->(∀e w',R e w'->e= .returned (.bool (l.contains x))/\w'=w)->
  Lands Tryz.prog 53 [u, .string ⟨⟨x⟩⟩].toArray w fun v w'=>∃Ps y h',fi.le Ps/\HRel w0 Ps h' w'/\VR Ps y v/\y= .bool (l.contains x)/\h'=h:=fun hc hq=>
  .inl ⟨_,Tryz.func53,rfl,rfl,hc.mono fun e w' hR=>⟨_,(hq e w' hR).1,fi, .bool (l.contains x),h,fi.le_refl,hr.later (by rw[(hq e w' hR).2];exact Below.refl _ _),rfl,rfl,rfl⟩⟩
 obtain⟨xs,hxs⟩:∃xs,xs=l.map fun s=>[AVal.str s]:=⟨_,rfl⟩
 unfold IsStrs at hv;rw[<-hxs]at hv;cases hv with
 |nil=>
  have e0:l=[]:=List.map_eq_nil_iff.1 hxs.symm;subst e0;simp only[VR]at hu;subst hu;exact fin (Tryz.slices_Contains_string_empty none 0 ⟨⟨x⟩⟩ w) fun e w' ⟨e1,e2⟩=>⟨e1,e2⟩
 |mk lc o n c xs hn' hw hc hlv hcap=>
  subst hxs;rw[List.length_map]at hn';subst hn';obtain⟨a,cp,rfl,ha⟩:=ZW hu;by_cases h0:l.length=0
  ·have e0:l=[]:=List.eq_nil_of_length_eq_zero h0
   subst e0;exact fin (Tryz.slices_Contains_string_empty (some a) cp ⟨⟨x⟩⟩ w) fun e w' ⟨e1,e2⟩=>⟨e1,e2⟩
  ·have ha':=ha h0
   obtain⟨us,u1,u2,u3⟩:=qcJ hr lc (l.length*1) o a ha' (by rw[hc];exact hlv);rw[hc,flat_strs]at u2;have hus:=VRs_strs u2;have has:=locAddr_spot ha';have hcell:∀j,j<(l.map fun x=>(⟨⟨x⟩⟩:ByteArray)).length->w.cell? ⟨a.block,a.off+j,none⟩=some (.string ((l.map fun x=>(⟨⟨x⟩⟩:ByteArray)).getD j ByteArray.empty)):=fun j hj=>by
    rw[List.length_map]at hj;have:=u3 j (.string ⟨⟨l[j]⟩⟩) (by rw[hus];simp[hj]);rw[has]at this;rw[show(l.map fun x=>(⟨⟨x⟩⟩:ByteArray)).getD j ByteArray.empty=⟨⟨l[j]⟩⟩ by simp[List.getD,hj]];by_cases hj0:j=0
    ·subst hj0
     simpa[Addr.add]using this
    ·simpa[Addr.add,hj0]using this
   have hj:=Tryz.slices_Contains_string a.block a.off l.length cp (l.map fun x=>(⟨⟨x⟩⟩:ByteArray)) ⟨⟨x⟩⟩ w (by rw[List.length_map];exact Nat.le_refl _) (by omega) hcell;rw[<-has]at hj;refine fin hj fun e w' ⟨e1,e2⟩=>⟨?_,e2⟩
   rw[e1,List.take_of_length_le (by rw[List.length_map];exact Nat.le_refl _)];congr 2;rw[Bool.eq_iff_iff,Lib.containsS_iff,List.mem_map,List.contains_iff_mem];constructor
   ·rintro⟨y,hy,e⟩
    have:y=x:=congrArg (fun z:ByteArray=>z.data.toList) e
    rwa [this]at hy
   ·intro hy
    exact⟨x,hy,rfl⟩
def UL:TokC:=⟨0,[],0,0,false⟩
theorem wordE_lo{l:List TokC}{n:Nat}{ws:List Str}(hn:0<n)(h:l.length<n):qaW l n ws=false:=by
 unfold qaW;rw[List.getElem?_eq_none (by rw[List.length_reverse];omega)]
theorem wordE_hi{l:List TokC}{n:Nat}{ws:List Str}(hn:0<n)(h:n<=l.length):qaW l n ws=(decide ((l.getD (l.length-n) UL).kind=1) && ws.contains (l.getD (l.length-n) UL).text):=by
 unfold qaW;rw[List.getElem?_reverse (by omega),show l.length-1-(n-1)=l.length-n by omega,List.getElem?_eq_getElem (by omega)];simp[List.getD,show l.length-n<l.length by omega]
theorem c_wordLo(w0:World)(h:AHeap)(kx:Nat)(lf:Bool)(s:Str)(mv tv:AVal)(i:Int)(l:List TokC)(n:Nat)(v:AVal)(hv:v.live=true)(hk:h kx=some ⟨[.bool lf, .str s,mv, .int .i64 i,tv],0⟩)(ht:IsL w0 h 5 tv (l.map Xv))(hn:l.length<n)(hn':n<=1000000):
 ACall Tryz.prog w0 129 [.ptr (.own kx) 0, .int .i64 n,v] h (fun r h'=>r= .bool false/\h'=h):=by
 have rx:=fun o=>Qp w0 hk o;have hlv:=ht.live;have hlen:=ht.len Tryz.underlying26;rw[List.length_map]at hlen;have hneg:¬(0<=(l.length:Int)-n):=by omega
 refine qR (n:=40) (rs:=[.tmp 6]) Tryz.func129 rfl rfl rfl rfl (Nat.le_of_ble_eq_true rfl) ?_;simp only[Qc];refine awp_rseq [0,1,2] (by rfl) fun K hK=>?_;simp+decide only[qa,ev,qJ,qG,putD,Slots.put,Slots.keep,if_true,if_false,true_and,↓qd,qb,Nat.zero_add,Nat.reduceAdd];apply hK;clear hK K;refine awp_rseq [0,2,7] (by rfl) fun K hK=>?_;simp+decide only[qa,ev,putD,Slots.put,Slots.get,Slots.keep,if_true,if_false,true_and,↓qj,qf,↓Qh,qK,Qj,↓qA,ql,qcF,↓qF,Qb,qy UK,↓XA,QK,↓qC,qo,qZ,cond_false,qz,UD,↓qd,qb,List.getD_cons_zero,List.getD_cons_succ,Nat.zero_add,rx,hlv,hlen];try simp(disch:=omega)only[wrap_i64]
 apply hK;clear hK K;refine awp_rseq [6] (by kernel_rfl) fun K hK=>?_;simp+decide only[ev,qJ,qG,putD,Slots.put,Slots.get,if_true,if_false,true_and,↓qj,qf,↓qC,qo,qD,cond_false,qz,qaw,↓Xc,agP,Qu,qI,qH,qw,implies_true,decide_false,Zo,false_implies,qbD,agL_deadF,↓ZZ,qK,↓Xn,ql,↓Zb,XI,↓Yo,↓Xd,↓QP,Qt,Qg,hneg]
 (refine Un (by rfl) (by rfl) ?_)
 simp+decide only[qa,ev,qJ,qG,putD,Slots.put,Slots.get,Slots.keep,if_true,if_false,true_and,↓QP,Qt,Qg,↓qd,qb];apply hK;clear hK K;refine qN ?_;refine qU h (by repeat (first|exact Sub.refl _|assumption|refine Sub.trans_set ?_ (by assumption))) (qY (Qe)) ?_;simp+decide only[Slots.get,if_true,and_true,Qv];all_goals first|rfl|exact⟨rfl,rfl⟩|(simp+decide only[if_true,if_false, *];done)|(trace_state;fail)
end Go.Proofs.YtlhhaagmakhilaaGreatDoor
namespace Go.Proofs.YtlhhaagmakhilaaGreatDoor
open Go.AM
open Go.Proofs
open Go.Col
open Go.Tok
open Go.RowKit (Below)
set_option maxRecDepth 100000
theorem qbI(w0:World)(h:AHeap)(kx:Nat)(lf:Bool)(s:Str)(mv tv:AVal)(i:Nat)(hk:h kx=some ⟨[.bool lf, .str s,mv, .int .i64 i,tv],0⟩)(i1:i<=4611686018427387904):
 ACall Tryz.prog w0 105 [.ptr (.own kx) 0, .int .i64 0] h (fun v h'=>v= .int .u8 (Qk s i).toNat/\h'=h):=by
 have:=WU w0 h kx lf s mv tv i 0 hk i1 (by omega) (by omega)
 rwa [Int.add_zero]at this
theorem c_run0(w0:World)(h:AHeap)(kx:Nat)(lf:Bool)(s:Str)(mv tv:AVal)(i:Nat)(f:FuncId)(p:UInt8->Bool)(hf:IsFn w0 f p)(hk:h kx=some ⟨[.bool lf, .str s,mv, .int .i64 i,tv],0⟩)(i1:i<=1099511627776)(hs:s.length<=1099511627776):
 ACall Tryz.prog w0 132 [.ptr (.own kx) 0, .int .i64 0, .func f []] h (fun v h'=>v= .int .i64 (Wl s i p)/\h'=h):=by
 have:=c_run w0 h kx lf s mv tv i 0 f p hf hk i1 (by omega) hs
 rwa [Nat.add_zero]at this
theorem c_wordHi(w0:World)(h:AHeap)(kx:Nat)(lf:Bool)(s:Str)(mv tv:AVal)(i:Int)(l:List TokC)(n:Nat)(v:AVal)(ws:List Str)(hv:IsStrs w0 h v ws)(hws:ws.length<=1000)(hk:h kx=some ⟨[.bool lf, .str s,mv, .int .i64 i,tv],0⟩)(ht:IsL w0 h 5 tv (l.map Xv))(hn0:0<n)(hn:n<=l.length)(hl:l.length<=1099511627776):
 ACall Tryz.prog w0 129 [.ptr (.own kx) 0, .int .i64 n,v] h (fun r h'=>r= .bool (qaW l n ws)/\h'=h):=by
 have rx:=fun o=>Qp w0 hk o;have hvl:=hv.live;obtain⟨lc,o,c,e⟩:=ht.open (fun e=>by rw[List.map_eq_nil_iff]at e;subst e;simp at hn;omega);rw[List.length_map]at e;subst e;have hi:l.length-n<l.length:=by omega
 have he:=ht.elem (i:=l.length-n) (by rw[List.length_map];exact hi);rw[getD_map UL hi]at he;simp only[qc,Xv,List.cons.injEq,and_true]at he;obtain⟨e0,e1,e2,e3,e4⟩:=he;have hpos:(0<=(l.length:Int)-n):=by omega
 have hix:((l.length:Int)-n).toNat=l.length-n:=by omega
 rw[wordE_hi hn0 hn];obtain⟨t,htt⟩:∃t,t=l.getD (l.length-n) UL:=⟨_,rfl⟩
 rw[<-htt]at e0 e1|-
 have ek:decide ((t.kind.toNat:Int)=1)=decide (t.kind=1):=decide_eq_decide.2 (iff_of_eq (XP t.kind 1));refine qR (n:=40) (rs:=[.tmp 6]) Tryz.func129 rfl rfl rfl rfl (Nat.le_of_ble_eq_true rfl) ?_;simp only[Qc];refine awp_rseq [0,1,2] (by rfl) fun K hK=>?_;simp+decide only[qa,ev,qJ,qG,putD,Slots.put,Slots.keep,if_true,if_false,true_and,↓qd,qb,Nat.zero_add,Nat.reduceAdd];apply hK;clear hK K;refine awp_rseq [0,2,7] (by rfl) fun K hK=>?_;simp+decide only[qa,ev,putD,Slots.put,Slots.get,Slots.keep,if_true,if_false,true_and,↓qj,qf,↓Qh,qK,Qj,↓qA,ql,qcF,↓qF,Qb,qy UK,↓XA,QK,XV Tryz.underlying26,↓qC,qo,qZ,cond_false,qz,UD,↓qd,qb,List.getD_cons_zero,List.getD_cons_succ,Nat.zero_add,UF,rx];try simp(disch:=omega)only[wrap_i64]
 apply hK;clear hK K;refine awp_rseq [6] (by kernel_rfl) fun K hK=>?_;simp+decide only[ev,qJ,qG,putD,Slots.put,Slots.get,if_true,if_false,true_and,↓qj,qf,↓qC,qo,qD,cond_false,qz,qaw,↓Xc,agP,Qu,qI,qH,qw,implies_true,decide_true,Qm,forall_const,Bool.true_and,↓ZZ,qK,Qj,qbr,qbs,↓Xn,ql,qcF,Zv,Zw,↓Zb,XI,Wy,agL_ld1,qy UK,↓Yo,agL_il1,agL_ir1,Qs Tryz.underlying26 Xg,fa54_0,qy ag52,↓Xd,XD,↓QP,Qt,Qg,Xk,qae,qy ag9,List.getD_cons_zero,List.getD_cons_succ,Nat.zero_add,qh,qE,UF,rx,hpos,hix,Nat.add_zero,e0,e1,ek];repeat (with_reducible refine And.intro ?_ ?_;· first|trivial|omega|(intro hg;simp only[Bool.and_eq_true,Bool.or_eq_true,Bool.not_eq_true',Bool.and_eq_false_iff,Bool.or_eq_false_iff,Bool.not_eq_false',decide_eq_true_eq,decide_eq_false_iff_not,Zt]at hg;omega))
 (refine XJ (V:= .bool (ws.contains t.text)) (f:=_) (cap:=_) (xs:=_) (by first|rfl|(simp+decide only[gv,qI,Slots.get,if_true,if_false,QO,qH])) (fun hg=>⟨rfl,?_⟩) (fun hg=>c_contains w0 _ v ws t.text hv (by omega)) ?_;· (simp+decide only[gv,qI,Slots.get,if_true,if_false,qw]at hg;simp+decide only[evs,ev,Slots.get,if_true,if_false,hg,Qm,List.append_nil,List.map_cons,List.map_nil]<;>try rfl))
 simp+decide only[qa,ev,qJ,qG,putD,Slots.put,Slots.get,Slots.keep,if_true,if_false,true_and,gv,qI,qw,↓QP,Qt,Qg,Xj,Xk,↓qd,qb];apply hK;clear hK K;refine qN ?_;refine qU h (by repeat (first|exact Sub.refl _|assumption|refine Sub.trans_set ?_ (by assumption))) (qY (Qe)) ?_;simp+decide only[Slots.get,if_true,and_true,Qv];skip
theorem c_word(w0:World)(h:AHeap)(kx:Nat)(lf:Bool)(s:Str)(mv tv:AVal)(i:Int)(l:List TokC)(n:Nat)(v:AVal)(ws:List Str)(hv:IsStrs w0 h v ws)(hws:ws.length<=1000)(hk:h kx=some ⟨[.bool lf, .str s,mv, .int .i64 i,tv],0⟩)(ht:IsL w0 h 5 tv (l.map Xv))(hn0:0<n)(hn1:n<=1000)(hl:l.length<=1099511627776):
 ACall Tryz.prog w0 129 [.ptr (.own kx) 0, .int .i64 n,v] h (fun r h'=>r= .bool (qaW l n ws)/\h'=h):=by
 by_cases hn:n<=l.length
 ·exact c_wordHi w0 h kx lf s mv tv i l n v ws hv hws hk ht hn0 hn hl
 ·rw[wordE_lo hn0 (by omega)]
  exact c_wordLo w0 h kx lf s mv tv i l n v hv.live hk ht (by omega) (by omega)
theorem strsOwn{w0:World}{h:AHeap}{k:Nat}{l:List Str}(hk:h k=some ⟨l.map AVal.str,0⟩):IsStrs w0 h (.slice (.own k) 0 l.length (.exact l.length)) l:=by
 have:=IsL.own (w0:=w0) (es:=1) (xs:=l.map fun s=>[AVal.str s]) hk (by simp) (by rw[flat_strs]) (by rw[Yd];intro x hx;obtain⟨y,_,rfl⟩:=List.mem_map.1 hx;rfl) (.exact l.length) (by simp);rw[List.length_map]at this;exact this
theorem c_pictures1(w0:World)(h:AHeap)(kx:Nat)(lf:Bool)(s:Str)(mv tv:AVal)(i:Int)(l:List TokC)(hk:h kx=some ⟨[.bool lf, .str s,mv, .int .i64 i,tv],0⟩)(ht:IsL w0 h 5 tv (l.map Xv))(hl:l.length<=1099511627776)(hq:qaW l 1 [IS]=true):
 ACall Tryz.prog w0 104 [.ptr (.own kx) 0] h (fun r h'=>r= .tuple [.bool (ZB l).1, .bool (ZB l).2]/\h'=h):=by
 refine qR (n:=15) (rs:=[.tmp 2, .tmp 3]) Tryz.func104 rfl rfl rfl rfl (Nat.le_of_ble_eq_true rfl) ?_;simp only[Qc];refine awp_rseq [0] (by rfl) fun K hK=>?_;simp+decide only[qa,ev,qJ,qG,putD,Slots.put,Slots.keep,if_true,if_false,true_and,↓qd,qb];apply hK;clear hK K;refine qO ?_;refine awp_rseq [0,6] (by rfl) fun K hK=>?_;simp+decide only[ev,putD,Slots.put,Slots.get,if_true,if_false,true_and,↓qj,qf];refine QC (cs:=[.str PIC, .str YY]) (by kernel_rfl) fun k1q1 hk1q1=>?_;try have hf_1q1:h k1q1=none:=by first|assumption|(simp only[AHeap.set_none]at hk1q1;simp only[hk1q1])
 refine qM (V:= .bool (qaW l 1 [PIC,YY])) (by rfl) (by rfl) (c_word w0 _ kx lf s mv tv i l 1 _ [PIC,YY] (strsOwn (l:=[PIC,YY]) (AHeap.set_same _ _ _)) (by decide) ((Sub.set hk1q1) _ _ hk) (ht.mono (Sub.set hk1q1)) (by decide) (by decide) hl) ?_;simp+decide only[qa,putD,Slots.put,Slots.keep,if_true,if_false];apply hK;clear hK K;refine qL (b:=_) rfl (fun hb1=>?_) (fun hb1=>?_)
 ·skip
  refine awp_rseq [2,3] (by rfl) fun K hK=>?_;simp+decide only[qa,ev,qJ,qG,putD,Slots.put,Slots.keep,if_true,if_false,true_and,↓qd,qb];apply hK;clear hK K;refine qN ?_;try simp only[Qf]
  refine qU h (by repeat (first|exact Sub.refl _|assumption|refine Sub.trans_set ?_ (by assumption))) (qY (qY (Qe))) ?_;simp+decide only[Slots.get,if_true,if_false,and_true,Wd];unfold ZB;rw[if_pos hb1]
 ·skip
  have hs1:Sub h (h.set k1q1 ⟨[.str PIC, .str YY],0⟩):=Sub.set hk1q1;refine Qa ?_;change Awp _ _ _ _ _ _ _;refine awp_rseq [2,3] (by rfl) fun K hK=>?_;simp+decide only[ev,putD,Slots.put,Slots.get,if_true,if_false,true_and,↓qj,qf];refine QC (cs:=[.str IS]) (by kernel_rfl) fun k3q1 hk3q1=>?_;have ne_3q1_1q1:k3q1≠k1q1:=by simp only[AHeap.set_none]at hk3q1;simp only[hk3q1,ne_eq,not_false_eq_true]
  try have hf_3q1:h k3q1=none:=by first|assumption|(simp only[AHeap.set_none]at hk3q1;simp only[hk3q1])
  refine qM (V:= .bool true) (by rfl) (by rfl) (by rw[<-hq];exact c_word w0 _ kx lf s mv tv i l 1 _ [IS] (strsOwn (l:=[IS]) (AHeap.set_same _ _ _)) (by decide) ((hs1.trans (Sub.set hk3q1)) _ _ hk) (ht.mono (hs1.trans (Sub.set hk3q1))) (by decide) (by decide) hl) ?_;simp+decide only[ev,putD,Slots.put,Slots.get,if_true,if_false,true_and,↓qj,qf,↓Xc,agP,Qu,qI,qH,qw,implies_true,Qm,Qm];refine Yf (by rfl) ?_;refine QC (cs:=[.str PIC, .str YY]) (by kernel_rfl) fun k3q5 hk3q5=>?_;have ne_3q5_1q1:k3q5≠k1q1:=by simp only[AHeap.set_none]at hk3q5;simp only[hk3q5,ne_eq,not_false_eq_true]
  have ne_3q5_3q1:k3q5≠k3q1:=by simp only[AHeap.set_none]at hk3q5;simp only[hk3q5,ne_eq,not_false_eq_true]
  try have hf_3q5:h k3q5=none:=by first|assumption|(simp only[AHeap.set_none]at hk3q5;simp only[hk3q5])
  refine Yf (by rfl) ?_;refine qM (V:= .bool (qaW l 2 [PIC,YY])) (by rfl) (by rfl) (c_word w0 _ kx lf s mv tv i l 2 _ [PIC,YY] (strsOwn (l:=[PIC,YY]) (AHeap.set_same _ _ _)) (by decide) (((hs1.trans (Sub.set hk3q1)).trans (Sub.set hk3q5)) _ _ hk) (ht.mono ((hs1.trans (Sub.set hk3q1)).trans (Sub.set hk3q5))) (by decide) (by decide) hl) ?_;simp+decide only[qa,ev,qJ,qG,putD,Slots.put,Slots.get,Slots.keep,if_true,if_false,true_and,↓QP,Qt,Qg,↓qd,qb,Yr,cond_true];apply hK;clear hK K;refine qN ?_;refine qU h (by repeat (first|exact Sub.refl _|assumption|refine Sub.trans_set ?_ (by assumption))) (qY (qY (Qe))) ?_;simp+decide only[Slots.get,if_true,if_false,and_true,Wd];unfold ZB;rw[if_neg (by rw[hb1];decide),hq];rfl
theorem c_pictures0(w0:World)(h:AHeap)(kx:Nat)(lf:Bool)(s:Str)(mv tv:AVal)(i:Int)(l:List TokC)(hk:h kx=some ⟨[.bool lf, .str s,mv, .int .i64 i,tv],0⟩)(ht:IsL w0 h 5 tv (l.map Xv))(hl:l.length<=1099511627776)(hq:qaW l 1 [IS]=false):
 ACall Tryz.prog w0 104 [.ptr (.own kx) 0] h (fun r h'=>r= .tuple [.bool (ZB l).1, .bool (ZB l).2]/\h'=h):=by
 refine qR (n:=15) (rs:=[.tmp 2, .tmp 3]) Tryz.func104 rfl rfl rfl rfl (Nat.le_of_ble_eq_true rfl) ?_;simp only[Qc];refine awp_rseq [0] (by rfl) fun K hK=>?_;simp+decide only[qa,ev,qJ,qG,putD,Slots.put,Slots.keep,if_true,if_false,true_and,↓qd,qb];apply hK;clear hK K;refine qO ?_;refine awp_rseq [0,6] (by rfl) fun K hK=>?_;simp+decide only[ev,putD,Slots.put,Slots.get,if_true,if_false,true_and,↓qj,qf];refine QC (cs:=[.str PIC, .str YY]) (by kernel_rfl) fun k1q1 hk1q1=>?_;try have hf_1q1:h k1q1=none:=by first|assumption|(simp only[AHeap.set_none]at hk1q1;simp only[hk1q1])
 refine qM (V:= .bool (qaW l 1 [PIC,YY])) (by rfl) (by rfl) (c_word w0 _ kx lf s mv tv i l 1 _ [PIC,YY] (strsOwn (l:=[PIC,YY]) (AHeap.set_same _ _ _)) (by decide) ((Sub.set hk1q1) _ _ hk) (ht.mono (Sub.set hk1q1)) (by decide) (by decide) hl) ?_;simp+decide only[qa,putD,Slots.put,Slots.keep,if_true,if_false];apply hK;clear hK K;refine qL (b:=_) rfl (fun hb1=>?_) (fun hb1=>?_)
 ·skip
  refine awp_rseq [2,3] (by rfl) fun K hK=>?_;simp+decide only[qa,ev,qJ,qG,putD,Slots.put,Slots.keep,if_true,if_false,true_and,↓qd,qb];apply hK;clear hK K;refine qN ?_;try simp only[Qf]
  refine qU h (by repeat (first|exact Sub.refl _|assumption|refine Sub.trans_set ?_ (by assumption))) (qY (qY (Qe))) ?_;simp+decide only[Slots.get,if_true,if_false,and_true,Wd];unfold ZB;rw[if_pos hb1]
 ·skip
  have hs1:Sub h (h.set k1q1 ⟨[.str PIC, .str YY],0⟩):=Sub.set hk1q1;refine Qa ?_;change Awp _ _ _ _ _ _ _;refine awp_rseq [2,3] (by rfl) fun K hK=>?_;simp+decide only[ev,putD,Slots.put,Slots.get,if_true,if_false,true_and,↓qj,qf];refine QC (cs:=[.str IS]) (by kernel_rfl) fun k3q1 hk3q1=>?_;have ne_3q1_1q1:k3q1≠k1q1:=by simp only[AHeap.set_none]at hk3q1;simp only[hk3q1,ne_eq,not_false_eq_true]
  try have hf_3q1:h k3q1=none:=by first|assumption|(simp only[AHeap.set_none]at hk3q1;simp only[hk3q1])
  refine qM (V:= .bool false) (by rfl) (by rfl) (by rw[<-hq];exact c_word w0 _ kx lf s mv tv i l 1 _ [IS] (strsOwn (l:=[IS]) (AHeap.set_same _ _ _)) (by decide) ((hs1.trans (Sub.set hk3q1)) _ _ hk) (ht.mono (hs1.trans (Sub.set hk3q1))) (by decide) (by decide) hl) ?_;simp+decide only[ev,putD,Slots.put,Slots.get,if_true,if_false,true_and,↓qj,qf,↓Xc,agP,Qu,qI,qH,qw,implies_true,Zo];refine Un (by rfl) (by rfl) ?_;try simp+decide only[putD,Slots.put,if_false]
  (refine Un (by rfl) (by rfl) ?_)
  simp+decide only[qa,ev,qJ,qG,putD,Slots.put,Slots.get,Slots.keep,if_true,if_false,true_and,↓QP,Qt,Qg,↓qd,qb];apply hK;clear hK K;refine qN ?_;refine qU h (by repeat (first|exact Sub.refl _|assumption|refine Sub.trans_set ?_ (by assumption))) (qY (qY (Qe))) ?_;simp+decide only[Slots.get,if_true,if_false,and_true,Wd];unfold ZB;rw[if_neg (by rw[hb1];decide),hq];rfl
theorem c_pictures(w0:World)(h:AHeap)(kx:Nat)(lf:Bool)(s:Str)(mv tv:AVal)(i:Int)(l:List TokC)(hk:h kx=some ⟨[.bool lf, .str s,mv, .int .i64 i,tv],0⟩)(ht:IsL w0 h 5 tv (l.map Xv))(hl:l.length<=1099511627776):
 ACall Tryz.prog w0 104 [.ptr (.own kx) 0] h (fun r h'=>r= .tuple [.bool (ZB l).1, .bool (ZB l).2]/\h'=h):=by
 cases hq:qaW l 1 [IS]with
 |true=>exact c_pictures1 w0 h kx lf s mv tv i l hk ht hl hq
 |false=>exact c_pictures0 w0 h kx lf s mv tv i l hk ht hl hq
theorem c_takeT(w0:World)(h:AHeap)(kx:Nat)(lf:Bool)(s:Str)(mv tv:AVal)(i n:Nat)(kd:UInt8)(eb_x:h kx=some ⟨[.bool lf, .str s,mv, .int .i64 i,tv],0⟩)(hn:i+n<=s.length)(hs:s.length<=1099511627776):
 ACall Tryz.prog w0 109 [.ptr (.own kx) 0, .int .u8 kd.toNat, .int .i64 n] h (fun r h'=>r=nxR (takeE s i kd n)/\h'=h):=by
 have hs_h:Sub h h:=Sub.refl h;have hin:((i:Int)+n).toNat=i+n:=by omega
 have hid:i+n-i=n:=by omega
 refine qR (n:=28) (rs:=[.cell 6 54, .tmp 7, .tmp 8]) Tryz.func109 rfl rfl rfl rfl (Nat.le_of_ble_eq_true rfl) ?_;simp only[Qc];refine awp_rseq [0,1,2,6] (by rfl) fun K hK=>?_;refine Qi qby (cs:=[.int .u8 0, .str [], .int .i64 0, .int .i64 0, .bool false]) (by rfl) fun k0q0 hk0q0=>?_;have hn_0q0:h k0q0=none:=by first|assumption|(simp only[AHeap.set_none]at hk0q0;simp only[hk0q0])
 have hf_0q0:h k0q0=none:=Sub.none hs_h hn_0q0;have ne_0q0_x:k0q0≠kx:=AHeap.ne_some hn_0q0 eb_x;simp+decide only[qa,ev,qJ,qG,putD,Slots.put,Slots.keep,if_true,if_false,true_and,↓qd,qb,Nat.zero_add,Nat.reduceAdd];apply hK;clear hK K;refine Ww 19 [18] [6,7,8] mixed (by kernel_rfl) (by rfl) fun K hK=>?_;simp only[List.take_succ_cons,List.take_zero,List.drop_succ_cons,List.drop_zero];simp+decide only[YI,ev,qJ,qG,putD,Slots.put,Slots.get,if_true,if_false,true_and,↓Um,qf,↓Wn,qK,Qj,↓Zu,ql,WI,YH,↓WH,Zr,qy ag9,YW,qy ag3,↓fp_binOp,qo,qZ,cond_false,qz,Xf,↓fp_slice,ZK,evO,pSliceS_ii Tryz.underlying9,qaJ,UH,↓qao,↓qV,bld54_0_1,evP,List.map_cons,List.map_nil,QU,ne_eq,not_false_eq_true,ne_0q0_x.symm,Qp w0 eb_x,List.getD_cons_zero,List.getD_cons_succ,Nat.zero_add,qh,qE,Int.toNat_natCast];try simp(disch:=omega)only[wrap_i64]
 repeat (with_reducible refine And.intro ?_ ?_;· first|trivial|omega|(intro hg;simp only[Bool.and_eq_true,Bool.or_eq_true,Bool.not_eq_true',Bool.and_eq_false_iff,Bool.or_eq_false_iff,Bool.not_eq_false',decide_eq_true_eq,decide_eq_false_iff_not,Zt]at hg;omega))
 refine qm (by rfl) (by rfl) (by repeat (first|exact AHeap.set_same _ _ _|assumption|refine(AHeap.set_ne _ _ (by first|assumption|exact Ne.symm (by assumption))).trans ?_)) Xg (by rfl) (by rfl) (by first|exact Nat.le_refl _|decide|(simp;done)|(simp;omega)) (Nat.zero_le _) (by rfl) ?_;simp only[AHeap.set_set,AVal.cells];simp+decide only[qa,ev,qJ,qG,putD,Slots.put,Slots.get,Slots.keep,if_true,if_false,true_and,↓qd,qb,setAt,List.set_cons_zero,List.set_cons_succ,Nat.zero_add,Nat.reduceAdd,hin,hid];apply hK;clear hK K;refine qN ?_;refine qU h (by repeat (first|exact Sub.refl _|assumption|refine Sub.trans_set ?_ (by assumption))) (?_) ?_
 ·simp+decide only[Qw,qp,qi,Slots.get,if_true,if_false,and_true,qp,qi,qg Zz Xg,qW,qc,List.getD_cons_zero,List.getD_cons_succ,Nat.zero_add,Nat.reduceAdd,qB,qh,qE,allLive,Bool.and_true,qc,List.getD_cons_zero,List.getD_cons_succ,Nat.zero_add,Nat.reduceAdd,qB,qh,qE,allLive,Bool.and_true]
 simp+decide only[Slots.get,if_true,if_false,and_true,Qz,qp,qi,qg Zz Xg,qW,qc,List.getD_cons_zero,List.getD_cons_succ,Nat.zero_add,Nat.reduceAdd,qB,qh,qE,allLive,Bool.and_true,qc,List.getD_cons_zero,List.getD_cons_succ,Nat.zero_add,Nat.reduceAdd,qB,qh,qE,allLive,Bool.and_true,nxA,nxR];all_goals first|rfl|exact⟨rfl,rfl⟩|(simp+decide only[if_true,if_false, *];done)|(trace_state;fail)
theorem c_skip(w0:World)(h:AHeap)(kx:Nat)(lf:Bool)(s:Str)(mv tv:AVal)(i:Nat)(l:List TokC)(hk:h kx=some ⟨[.bool lf, .str s,mv, .int .i64 i,tv],0⟩)(ht:IsL w0 h 5 tv (l.map Xv))(htx:∀c,IsL w0 (h.set kx c) 5 tv (l.map Xv))(hl:l.length<=1099511627776)(hs:s.length<=1099511627776)(hi:i<=s.length):
 ACall Tryz.prog w0 82 [.ptr (.own kx) 0] h (fun r h'=>r= .bool (decide (ZG s (ZB l).1 i<s.length))/\h'=h.set kx ⟨[.bool lf, .str s,mv, .int .i64 (ZG s (ZB l).1 i),tv],0⟩):=by
 obtain⟨j,hj⟩:∃j,j=ZG s (ZB l).1 i:=⟨_,rfl⟩
 have hjl:=skipE_le s (ZB l).1 i hi;rw[<-hj]at hjl|-
 refine qR (n:=56) (rs:=[.tmp 2]) Tryz.func82 rfl rfl rfl rfl (Nat.le_of_ble_eq_true rfl) ?_;simp only[Qc];refine awp_rseq [0] (by rfl) fun K hK=>?_;simp+decide only[qa,ev,qJ,qG,putD,Slots.put,Slots.keep,if_true,if_false,true_and,↓qd,qb];apply hK;clear hK K;refine awp_scope ?_;refine awp_rseq [0,3] (by rfl) fun K hK=>?_;simp+decide only[ev,putD,Slots.put,Slots.get,if_true,if_false,true_and,↓qj,qf];refine qM (V:= .tuple [.bool (ZB l).1, .bool (ZB l).2]) (by rfl) (by rfl) (c_pictures w0 _ kx lf s mv tv i l hk ht hl) ?_;simp+decide only[qa,ev,putD,Slots.put,Slots.get,Slots.keep,if_true,if_false,true_and,↓qj,qf,↓QJ,QA,QH,List.length_cons,List.length_nil,List.getD_cons_zero,List.getD_cons_succ,↓qd,qb,List.getD_cons_zero,List.getD_cons_succ,Nat.zero_add,Nat.reduceAdd];apply hK;clear hK K;refine qO ?_;refine awp_label ?_;change Awp _ _ _ _ _ _ _;refine qO ?_;refine QB ?_;refine XH [0,3] (fun m:Nat=>[(0, .ptr (.own kx) 0),(3, .bool (ZB l).1)]) (fun m:Nat=>h.set kx ⟨[.bool lf, .str s,mv, .int .i64 m,tv],0⟩) (fun m:Nat=>m<=s.length/\ZG s (ZB l).1 m=j) (fun m:Nat=>s.length-m) i (by rfl) (by rw[Yj hk];exact Sub.refl _) ⟨hi,hj.symm⟩ ?_;rintro m ⟨hm1,hm2⟩;have hkm:=AHeap.set_same h kx ⟨[.bool lf, .str s,mv, .int .i64 m,tv],0⟩;have rx:=fun o=>Qp w0 hkm o;refine qO ?_;refine Zh [0,3,20] mixed (by kernel_rfl) (by rfl) (by rfl) fun K hK=>?_;simp+decide only[qa,ev,putD,Slots.put,Slots.get,Slots.keep,if_true,if_false,true_and,↓qj,qf,↓Qh,qK,Qj,↓qA,ql,YW,↓qF,Qb,qy ag3,WI,YH,qy ag9,↓XA,QK,YB Tryz.underlying9,↓qC,qo,qZ,cond_false,qz,Zd,List.getD_cons_zero,List.getD_cons_succ,Nat.zero_add,qh,qE,rx];apply hK;clear hK K;refine qL (b:=_) rfl (fun hb1=>?_) (fun hb1=>?_)
 ·try simp only[decide_eq_true_eq]at hb1
  have hml:m<s.length:=by omega
  refine Qa ?_;change Awp _ _ _ _ _ _ _;refine QB ?_;refine qO ?_;refine QB ?_;refine awp_rseq [0,3,21] (by rfl) fun K hK=>?_;simp+decide only[ev,putD,Slots.put,Slots.get,if_true,if_false,true_and,↓qj,qf];refine qM (V:= .int .u8 (Qk s m).toNat) (by rfl) (by rfl) (qbI w0 _ kx lf s mv tv m hkm (by omega)) ?_;simp+decide only[qa,ev,qJ,qG,putD,Slots.put,Slots.get,Slots.keep,if_true,if_false,true_and,↓qC,qo,qD,cond_false,qz,XD,↓qd,qb];apply hK;clear hK K;refine qL (b:=_) rfl (fun hb2=>?_) (fun hb2=>?_)
  ·try simp only[decide_eq_true_eq]at hb2
   refine Qa ?_;change Awp _ _ _ _ _ _ _;refine XK [0,3] (by rfl) ?_;simp+decide only[ev,qJ,qG,putD,Slots.put,Slots.get,if_true,if_false,true_and,↓qj,qf,↓Qh,qK,Qj,↓qA,ql,YW,↓qF,Qb,qy ag3,↓qC,qo,qD,cond_false,qz,Xf,List.getD_cons_zero,List.getD_cons_succ,Nat.zero_add,qh,rx];try simp(disch:=omega)only[wrap_i64]
   refine qm (by rfl) (by rfl) (by repeat (first|exact AHeap.set_same _ _ _|assumption|refine(AHeap.set_ne _ _ (by first|assumption|exact Ne.symm (by assumption))).trans ?_)) sz3 (by rfl) (by rfl) (by first|exact Nat.le_refl _|decide|(simp;done)|(simp;omega)) (Nat.zero_le _) (by rfl) ?_;simp only[AHeap.set_set,AVal.cells];simp+decide only[qa,ev,putD,Slots.get,Slots.keep,if_true,if_false,setAt,List.set_cons_zero,List.set_cons_succ];try simp only[Ql,Yy]
   refine⟨m+1,rfl,Sub.refl _,⟨by omega,?_⟩,by omega⟩;rw[<-hm2,UY s (ZB l).1 m,if_neg (by omega),if_pos];unfold skp;first
   |exact .inl ((XP _ 32).mp hb2)
   |exact .inr ⟨hb3.1.1,hb3.1.2,(XP _ 32).mp hb3.2⟩
  ·try simp only[decide_eq_false_iff_not]at hb2
   refine awp_rseq [0,3,25] (by rfl) fun K hK=>?_;simp+decide only[ev,putD,Slots.put,Slots.get,if_true,if_false,true_and,↓qj,qf,↓Yi,XE,ZY,↓Xc,agP,Qu,qI,qH,qw,implies_true]
   (refine XJ (V:= .int .u8 (Qk s m).toNat) (f:=_) (cap:=_) (xs:=_) (by first|rfl|(simp+decide only[gv,qI,Slots.get,if_true,if_false,QO,qH])) (fun hg=>⟨rfl,?_⟩) (fun hg=>qbI w0 _ kx lf s mv tv m hkm (by omega)) ?_;· (simp+decide only[gv,qI,Slots.get,if_true,if_false,qw]at hg;simp+decide only[evs,ev,Slots.get,if_true,if_false,hg,Qm,List.append_nil,List.map_cons,List.map_nil,qJ,qG]<;>try rfl))
   try simp+decide only[putD,Slots.put,Slots.get,if_true,if_false,gv,qI,qw]
   (refine XJ (V:= .bool (sepB (Qk s m))) (f:=_) (cap:=_) (xs:=_) (by first|rfl|(simp+decide only[gv,qI,Slots.get,if_true,if_false,QO,qH])) (fun hg=>⟨rfl,?_⟩) (fun hg=>c_sep w0 _ _) ?_;· (simp+decide only[gv,qI,Slots.get,if_true,if_false,qw]at hg;simp+decide only[evs,ev,Slots.get,if_true,if_false,hg,Qm,List.append_nil,List.map_cons,List.map_nil]<;>try rfl))
   simp+decide only[ev,qJ,qG,putD,Slots.put,Slots.get,if_true,if_false,true_and,gv,qI,qw,↓QP,Qt,Qg,Xj,Xk,↓qj,qf,↓Xc,agP,Qu,qH,implies_true]
   (refine XJ (V:= .int .u8 (Qk s (m+1)).toNat) (f:=_) (cap:=_) (xs:=_) (by first|rfl|(simp+decide only[gv,qI,Slots.get,if_true,if_false,QO,qH])) (fun hg=>⟨rfl,?_⟩) (fun hg=>WU w0 _ kx lf s mv tv m 1 hkm (by omega) (by omega) (by omega)) ?_;· (simp+decide only[gv,qI,Slots.get,if_true,if_false,qw]at hg;simp+decide only[evs,ev,Slots.get,if_true,if_false,hg,Qm,List.append_nil,List.map_cons,List.map_nil,qJ,qG]<;>try rfl))
   simp+decide only[qa,ev,qJ,qG,putD,Slots.put,Slots.get,Slots.keep,if_true,if_false,true_and,gv,qI,qw,↓Xd,qo,agP,Qu,qH,implies_true,qD,cond_false,Zf,Zg,qz,XD,↓QP,Qt,Qg,Xj,Xk,↓qd,qb];apply hK;clear hK K;refine qL (b:=_) rfl (fun hb3=>?_) (fun hb3=>?_)
   ·try simp only[decide_eq_true_eq,Bool.not_eq_true',Bool.and_eq_true]at hb3
    refine Qa ?_;change Awp _ _ _ _ _ _ _;refine XK [0,3] (by rfl) ?_;simp+decide only[ev,qJ,qG,putD,Slots.put,Slots.get,if_true,if_false,true_and,↓qj,qf,↓Qh,qK,Qj,↓qA,ql,YW,↓qF,Qb,qy ag3,↓qC,qo,qD,cond_false,qz,Xf,List.getD_cons_zero,List.getD_cons_succ,Nat.zero_add,qh,rx];try simp(disch:=omega)only[wrap_i64]
    refine qm (by rfl) (by rfl) (by repeat (first|exact AHeap.set_same _ _ _|assumption|refine(AHeap.set_ne _ _ (by first|assumption|exact Ne.symm (by assumption))).trans ?_)) sz3 (by rfl) (by rfl) (by first|exact Nat.le_refl _|decide|(simp;done)|(simp;omega)) (Nat.zero_le _) (by rfl) ?_;simp only[AHeap.set_set,AVal.cells];simp+decide only[qa,ev,putD,Slots.get,Slots.keep,if_true,if_false,setAt,List.set_cons_zero,List.set_cons_succ];try simp only[Ql,Yy]
    refine⟨m+1,rfl,Sub.refl _,⟨by omega,?_⟩,by omega⟩;rw[<-hm2,UY s (ZB l).1 m,if_neg (by omega),if_pos];unfold skp;first
    |exact .inl ((XP _ 32).mp hb2)
    |exact .inr ⟨hb3.1.1,hb3.1.2,(XP _ 32).mp hb3.2⟩
   ·try simp only[decide_eq_false_iff_not,Bool.not_eq_false',Bool.and_eq_false_iff]at hb3
    refine XL ?_;change Awp _ _ _ _ _ _ _;refine Zh [2] mixed (by kernel_rfl) (by rfl) (by rfl) fun K hK=>?_;simp+decide only[qa,ev,putD,Slots.put,Slots.get,Slots.keep,if_true,if_false,true_and,↓qj,qf,↓Qh,qK,Qj,↓qA,ql,YW,↓qF,Qb,qy ag3,WI,YH,qy ag9,↓XA,QK,YB Tryz.underlying9,↓qC,qo,qZ,cond_false,qz,Zd,↓qd,qb,List.getD_cons_zero,List.getD_cons_succ,Nat.zero_add,qh,qE,rx];apply hK;clear hK K;refine qN ?_;try simp only[YE]
    refine QN (qY (Qe)) ?_;simp+decide only[Slots.get,if_true,Qv];have hns:¬skp s (ZB l).1 m:=by
     unfold skp;rintro(q|⟨q1,q2,q3⟩)
     ·exact hb2 ((XP _ 32).mpr q)
     ·rcases hb3 with(q|q)|q
      ·rw[q1]at q;cases q
      ·rw[q2]at q;cases q
      ·exact q ((XP _ 32).mpr q3)
    have e:m=j:=by
     rw[<-hm2,UY,if_neg (by omega),if_neg hns]
    rw[e];exact⟨_,Sub.refl _,by simp,rfl⟩
 ·try simp only[decide_eq_false_iff_not]at hb1
  refine XL ?_;change Awp _ _ _ _ _ _ _;refine Zh [2] mixed (by kernel_rfl) (by rfl) (by rfl) fun K hK=>?_;simp+decide only[qa,ev,putD,Slots.put,Slots.get,Slots.keep,if_true,if_false,true_and,↓qj,qf,↓Qh,qK,Qj,↓qA,ql,YW,↓qF,Qb,qy ag3,WI,YH,qy ag9,↓XA,QK,YB Tryz.underlying9,↓qC,qo,qZ,cond_false,qz,Zd,↓qd,qb,List.getD_cons_zero,List.getD_cons_succ,Nat.zero_add,qh,qE,rx];apply hK;clear hK K;refine qN ?_;try simp only[YE]
  refine QN (qY (Qe)) ?_;simp+decide only[Slots.get,if_true,Qv];have e:m=j:=by
   rw[<-hm2,UY,if_pos (by omega)]
  rw[e];exact⟨_,Sub.refl _,by simp,rfl⟩
end Go.Proofs.YtlhhaagmakhilaaGreatDoor
namespace Go.Proofs.YtlhhaagmakhilaaGreatDoor
open Go.AM
open Go.Proofs
open Go.Col
open Go.Tok
open Go.RowKit (Below)
set_option maxRecDepth 100000
def tok0:List AVal:=[.int .u8 0, .str [], .int .i64 0, .int .i64 0, .bool false]
theorem qbm:∀(s:Str) (c:UInt8),decide (0<=Lib.indexByte s c)=s.contains c
 |[],c=>rfl
 |b::s,c=>by
  have ih:=qbm s c;rw[List.contains_cons,<-ih,Lib.indexByte];by_cases h:b=c
  ·subst h
   simp
  ·have h1:(b==c)=false:=by simp[h]
   have h2:(c==b)=false:=by simp[Ne.symm h]
   rw[h1,h2,if_neg (by decide),Bool.false_or];apply decide_eq_decide.2;by_cases e:Lib.indexByte s c= -1
   ·rw[e,if_pos (by decide)]
   ·rw[if_neg (by simpa using e)]
    have: -1<=Lib.indexByte s c:=by
     clear ih h h1 h2 e b;induction s with
     |nil=>show(-1:Int)<= -1;decide
     |cons b s ih=>
      rw[Lib.indexByte];split
      ·decide
      ·split
       ·decide
       ·omega
    omega
theorem c_hasQ(w0:World)(h:AHeap)(s:Str)(c:UInt8):ACall Tryz.prog w0 134 [.str s, .str [c]] h (fun v h'=>v= .bool (s.contains c)/\h'=h):=by
 refine ZJ (vals:=[.string ⟨⟨s⟩⟩, .string ⟨⟨[c]⟩⟩]) (val:= .bool (s.contains c)) Tryz.func134 rfl rfl (fun fi vs hv=>VRs_ss hv) (fun fi=>rfl) fun w=>?_;refine(Tryz.strings_Contains_one ⟨⟨s⟩⟩ c w).mono fun e w' ⟨e1,e2⟩=>⟨?_,?_⟩
 ·rw[e1]
  show Ending.returned (.bool (decide (0<=Lib.indexByte s c)))=_
  rw[qbm]
 ·subst e2;exact Go.RowKit.Below.refl _ _
theorem c_pref(w0:World)(h:AHeap)(s g:Str):ACall Tryz.prog w0 95 [.str s, .str g] h (fun v h'=>v= .bool (g.isPrefixOf s)/\h'=h):=by
 refine ZJ (vals:=[.string ⟨⟨s⟩⟩, .string ⟨⟨g⟩⟩]) (val:= .bool (g.isPrefixOf s)) Tryz.func95 rfl rfl (fun fi vs hv=>VRs_ss hv) (fun fi=>rfl) fun w=>?_;refine(Tryz.strings_HasPrefix ⟨⟨s⟩⟩ ⟨⟨g⟩⟩ w).mono fun e w' ⟨e1,e2⟩=>⟨e1,?_⟩
 subst e2;exact Go.RowKit.Below.refl _ _
theorem f_digit(w0:World):IsFn w0 136 Yc:=fun g b=>c_digitT w0 g b
theorem f_wordy(w0:World):IsFn w0 111 Zy:=fun g b=>c_wordy w0 g b
theorem f_ends(w0:World):IsFn w0 131 UV:=by
 intro h b;refine qR (n:=9) (rs:=[.tmp 2]) Tryz.func131 rfl rfl rfl rfl (Nat.le_of_ble_eq_true rfl) ?_;simp only[Qc];refine awp_rseq [0] (by rfl) fun K hK=>?_;simp+decide only[qa,ev,qJ,qG,putD,Slots.put,Slots.keep,if_true,if_false,true_and,↓qd,qb];apply hK;clear hK K;refine awp_rseq [2] (by rfl) fun K hK=>?_;simp+decide only[ev,qJ,qG,putD,Slots.put,Slots.get,if_true,if_false,true_and,↓qj,qf,↓qC,qo,qD,cond_false,qz,XD,↓Xc,agP,Qu,qI,qH,Qd,implies_true]
 (refine XJ (V:= .bool (sepB b)) (f:=_) (cap:=_) (xs:=_) (by first|rfl|(simp+decide only[gv,qI,Slots.get,if_true,if_false,QO,qH])) (fun hg=>⟨rfl,?_⟩) (fun hg=>c_sep w0 _ b) ?_;· (simp+decide only[gv,qI,Slots.get,if_true,if_false,Qd]at hg;simp+decide only[evs,ev,Slots.get,if_true,if_false,hg,Qm,List.append_nil,List.map_cons,List.map_nil]<;>try rfl))
 simp+decide only[qa,ev,qJ,qG,putD,Slots.put,Slots.get,Slots.keep,if_true,if_false,true_and,gv,qI,Qd,↓QP,Qt,Qg,XW,ZR,↓qd,qb];apply hK;clear hK K;refine qN ?_;refine qU _ (Sub.refl _) (qY (Qe)) ?_;simp+decide only[Slots.get,if_true,and_true,Qv];have e1:decide ((b.toNat:Int)=46)=decide (b=46):=decide_eq_decide.2 (iff_of_eq (XP b 46));unfold UV;rw[e1]
theorem f_nsp(w0:World):IsFn w0 133 (fun b=> !decide (b=32)):=by
 intro h b;refine qR (n:=5) (rs:=[.tmp 2]) Tryz.func133 rfl rfl rfl rfl (Nat.le_of_ble_eq_true rfl) ?_;simp only[Qc];refine awp_rseq [0] (by rfl) fun K hK=>?_;simp+decide only[qa,ev,qJ,qG,putD,Slots.put,Slots.keep,if_true,if_false,true_and,↓qd,qb];apply hK;clear hK K;refine awp_rseq [2] (by rfl) fun K hK=>?_;simp+decide only[qa,ev,qJ,qG,putD,Slots.put,Slots.get,Slots.keep,if_true,if_false,true_and,↓qj,qf,↓qC,qo,qD,cond_false,qz,qbh,↓qd,qb];apply hK;clear hK K;refine qN ?_;refine qU _ (Sub.refl _) (qY (Qe)) ?_;simp+decide only[Slots.get,if_true,and_true,Qv];have e1:decide ((b.toNat:Int)=32)=decide (b=32):=decide_eq_decide.2 (iff_of_eq (XP b 32));rw[<-e1]
theorem pictureE_no{s:Str}{i:Nat}{is:Bool}(hc:¬(is=true/\Ym [Qk s i,Qk s (i+1)]=IS/\Zy (Qk s (i+2))=false))(n0:Nat)(hn:n0=Wl s i (fun b=> !decide (b=32)))(m:Nat)(hm:(m:Int)=if UV (Qk s ((i:Int)+n0-1))=true then(n0:Int)-1 else n0):
 Yz s i is=if m=0\/UV (Qk s ((i:Int)+m-1))=true then .err 4 else if (Ym ((s.drop i).take m)).contains 34=true then .err 4 else⟨4,Ym ((s.drop i).take m),m,0⟩:=by
 unfold Yz;rw[if_neg hc];simp only;rw[<-hn,<-hm,Int.toNat_natCast];by_cases h0:m=0
 ·rw[if_pos (.inl (by omega)),if_pos (.inl h0)]
 ·by_cases h1:UV (Qk s ((i:Int)+m-1))=true
  ·rw[if_pos (.inr h1),if_pos (.inr h1)]
  ·have f1:¬((m:Int)=0\/UV (Qk s ((i:Int)+m-1))=true):=fun q=>q.elim (fun q=>h0 (by omega)) h1
   have f2:¬(m=0\/UV (Qk s ((i:Int)+m-1))=true):=fun q=>q.elim h0 h1;rw[if_neg f1,if_neg f2]
theorem pictureEnd(w0:World)(h B:AHeap)(hs_B:Sub h B)(kx k0q0:Nat)(lf:Bool)(s:Str)(mv tv:AVal)(i:Nat)(is:Bool)(eb_x:B kx=some ⟨[.bool lf, .str s,mv, .int .i64 i,tv],0⟩)(eb_0q0:B k0q0=some ⟨tok0,0⟩)(hf_0q0:h k0q0=none)(ne_0q0_x:k0q0≠kx)(h32:Qk s i≠32)(hs:s.length<=1099511627776)
 (hc:¬(is=true/\Ym [Qk s i,Qk s (i+1)]=IS/\Zy (Qk s (i+2))=false)):
 Awp Tryz.prog w0 68 (qal 2 (bodyOf Tryz.f107)) (retA Tryz.prog w0 [.cell 4 54, .tmp 5, .tmp 6] ((fun r h'=>r=nxR (Yz s i is)/\h'=h))) [(0, .ptr (.own kx) 0),(4, .ptr (.own k0q0) 0)] (B):=by
 have hi:=qbf h32;have hp:=run_pos32 h32;have hrl:=qct s i (fun b=> !decide (b=32)) (by omega);obtain⟨n0,hn0⟩:∃n0,n0=Wl s i (fun b=> !decide (b=32)):=⟨_,rfl⟩
 rw[<-hn0]at hp hrl;unfold tok0 at eb_0q0;change Awp _ _ _ (Code.seq _ _) _ _ _;refine awp_rseq [0,4,7] (by rfl) fun K hK=>?_;simp+decide only[qa,ev,putD,Slots.put,Slots.keep,if_true,if_false,true_and,↓qd,qb];apply hK;clear hK K;refine awp_rseq [0,4,7,8] (by rfl) fun K hK=>?_;simp+decide only[ev,putD,Slots.put,Slots.get,if_true,if_false,true_and,↓qj,qf];refine qM (V:= .int .i64 n0) (by rfl) (by rfl) (by rw[hn0];exact c_run0 w0 B kx lf s mv tv i _ _ (f_nsp w0) eb_x (by omega) hs) ?_;simp+decide only[qa,ev,putD,Slots.put,Slots.get,Slots.keep,if_true,if_false,true_and,↓qd,qb];apply hK;clear hK K;refine qO ?_;refine awp_rseq [0,4,7,8,36] (by rfl) fun K hK=>?_;simp+decide only[ev,qJ,qG,putD,Slots.put,Slots.get,if_true,if_false,true_and,↓qj,qf,↓qC,qo,qD,cond_false,qz,UD];try simp(disch:=omega)only[wrap_i64]
 refine qM (V:= .int .u8 (Qk s ((i:Int)+n0-1)).toNat) (by rfl) (by rfl) (by have:=WU w0 B kx lf s mv tv i ((n0:Int)-1) eb_x (by omega) (by omega) (by omega);rwa [<-Int.add_sub_assoc]at this) ?_;refine qM (V:= .bool (UV (Qk s ((i:Int)+n0-1)))) (by rfl) (by rfl) (f_ends w0 _ _) ?_;simp+decide only[qa,putD,Slots.put,Slots.keep,if_true,if_false];apply hK;clear hK K;refine Uu [0,4,7,8] (fun m:Nat=>[(0, .ptr (.own kx) 0),(4, .ptr (.own k0q0) 0),(7, .func 131 []),(8, .int .i64 m)]) (fun m:Nat=>B) (fun m:Nat=>(m:Int)=if UV (Qk s ((i:Int)+n0-1))=true then(n0:Int)-1 else n0) ?_ ?_
 ·refine qL (b:=_) rfl (fun hb1=>?_) (fun hb1=>?_)
  ·skip
   refine XK [0,4,7,8] (by rfl) ?_;simp+decide only[qa,ev,qJ,qG,putD,Slots.put,Slots.get,Slots.keep,if_true,if_false,true_and,↓qj,qf,↓qC,qo,qD,cond_false,qz,UD,↓qd,qb,nxA,nxR];try simp(disch:=omega)only[wrap_i64]
   try simp only[Ql]
   first
   |exact⟨n0-1,by rw[show((n0-1:Nat):Int)=(n0:Int)-1 by omega];rfl,Sub.refl _,by rw[if_pos hb1];omega⟩
   |exact⟨n0,rfl,Sub.refl _,by rw[if_neg (by rw[hb1];decide)]⟩
  ·skip
   refine Qa ?_;try simp only[Ql]
   first
   |exact⟨n0-1,by rw[show((n0-1:Nat):Int)=(n0:Int)-1 by omega];rfl,Sub.refl _,by rw[if_pos hb1];omega⟩
   |exact⟨n0,rfl,Sub.refl _,by rw[if_neg (by rw[hb1];decide)]⟩
 ·intro m hm
  have hm1:m<=n0:=by
   have:(m:Int)<=n0:=by rw[hm];split<;>omega
   omega
  have hpe:=pictureE_no hc n0 hn0 m hm;rw[hpe];refine qO ?_;refine awp_rseq [0,4,8,48] (by rfl) fun K hK=>?_;simp+decide only[ev,qJ,qG,putD,Slots.put,Slots.get,if_true,if_false,true_and,↓qj,qf,↓qC,qo,qD,cond_false,qz,XD,↓Xc,agP,Qu,qI,qH,Qd,implies_true,↓Xd,Zf,Zg,UD];try simp(disch:=omega)only[wrap_i64]
  (refine XJ (V:= .int .u8 (Qk s ((i:Int)+m-1)).toNat) (f:=_) (cap:=_) (xs:=_) (by first|rfl|(simp+decide only[gv,qI,Slots.get,if_true,if_false,QO,qH])) (fun hg=>⟨rfl,?_⟩) (fun hg=>by have:=WU w0 B kx lf s mv tv i ((m:Int)-1) eb_x (by omega) (by omega) (by omega);rwa [<-Int.add_sub_assoc]at this) ?_;· (simp+decide only[gv,qI,Slots.get,if_true,if_false,Qd]at hg;simp+decide only[evs,ev,Slots.get,if_true,if_false,hg,Qm,List.append_nil,List.map_cons,List.map_nil]<;>try rfl))
  try simp+decide only[putD,Slots.put,Slots.get,if_true,if_false,gv,qI,Qd]
  (refine XJ (V:= .bool (UV (Qk s ((i:Int)+m-1)))) (f:=_) (cap:=_) (xs:=_) (by first|rfl|(simp+decide only[gv,qI,Slots.get,if_true,if_false,QO,qH])) (fun hg=>⟨by(try simp+decide only[gv,qI,Slots.get,if_true,if_false,Qd]at hg);simp+decide only[ev,Slots.get,if_true,if_false,hg,Qm];try rfl,?_⟩) (fun hg=>f_ends w0 _ _) ?_;· (simp+decide only[gv,qI,Slots.get,if_true,if_false,Qd]at hg;simp+decide only[evs,ev,Slots.get,if_true,if_false,hg,Qm,List.append_nil,List.map_cons,List.map_nil]<;>try rfl))
  simp+decide only[qa,ev,qJ,qG,putD,Slots.put,Slots.get,Slots.keep,if_true,if_false,true_and,gv,qI,Qd,↓QP,Qt,Qg,XW,ZR];apply hK;clear hK K;refine qL (b:=_) rfl (fun hb2=>?_) (fun hb2=>?_)
  ·try simp only[decide_eq_true_eq,Bool.or_eq_true]at hb2
   have hb2':m=0\/UV (Qk s ((i:Int)+m-1))=true:=hb2.imp (fun q=>by omega) id;rw[if_pos hb2'];refine awp_rseq [4,5,6] (by rfl) fun K hK=>?_;simp+decide only[ev,qJ,qG,putD,Slots.put,Slots.get,if_false,true_and,↓Qn,↓qV,qaB,evP,List.map_nil];refine qm (by rfl) (by rfl) (by repeat (first|exact AHeap.set_same _ _ _|assumption|refine(AHeap.set_ne _ _ (by first|assumption|exact Ne.symm (by assumption))).trans ?_)) Xg (by rfl) (by rfl) (by first|exact Nat.le_refl _|decide|(simp;done)|(simp;omega)) (Nat.zero_le _) (by rfl) ?_;simp only[AVal.cells];simp+decide only[qa,ev,qJ,qG,putD,Slots.put,Slots.get,Slots.keep,if_true,if_false,true_and,↓qd,qb,setAt,List.set_cons_zero,List.set_cons_succ,Nat.zero_add,Nat.reduceAdd];apply hK;clear hK K;refine qN ?_;try simp only[Qf]
   refine qU h (by repeat (first|exact Sub.refl _|assumption|refine Sub.trans_set ?_ (by assumption))) (?_) ?_
   ·simp+decide only[Qw,qp,qi,Slots.get,if_true,if_false,and_true,qp,qi,qg Zz Xg,qW,qc,List.getD_cons_zero,List.getD_cons_succ,Nat.zero_add,Nat.reduceAdd,qB,qh,qE,allLive,Bool.and_true,qc,List.getD_cons_zero,List.getD_cons_succ,Nat.zero_add,Nat.reduceAdd,qB,qh,qE,allLive,Bool.and_true]
   simp+decide only[Slots.get,if_true,if_false,and_true,Qz,qp,qi,qg Zz Xg,qW,qc,List.getD_cons_zero,List.getD_cons_succ,Nat.zero_add,Nat.reduceAdd,qB,qh,qE,allLive,Bool.and_true,qc,List.getD_cons_zero,List.getD_cons_succ,Nat.zero_add,Nat.reduceAdd,qB,qh,qE,allLive,Bool.and_true,nxA,nxR];all_goals first|rfl|exact⟨rfl,rfl⟩|(simp+decide only[if_true,if_false, *];done)|(trace_state;fail)
  ·try simp only[decide_eq_false_iff_not,Bool.or_eq_false_iff]at hb2
   have hb2':¬(m=0\/UV (Qk s ((i:Int)+m-1))=true):=fun q=>q.elim (fun q=>hb2.1 (by omega)) (fun q=>by rw[hb2.2]at q;cases q);rw[if_neg hb2'];refine Qa ?_;change Awp _ _ _ _ _ _ _;refine awp_rseq [4,8,9,10] (by rfl) fun K hK=>?_;simp+decide only[ev,putD,Slots.put,Slots.get,if_true,if_false,true_and,↓qj,qf];refine qM (V:=nxR (takeE s i 4 m)) (by rfl) (by rfl) (c_takeT w0 B kx lf s mv tv i m 4 eb_x (by omega) hs) ?_;simp+decide only[ev,putD,Slots.put,Slots.get,if_true,if_false,true_and,↓qj,qf,↓QJ,QA,QH,List.length_cons,List.length_nil,List.getD_cons_zero,List.getD_cons_succ,List.getD_cons_zero,List.getD_cons_succ,Nat.zero_add,Nat.reduceAdd,nxA,nxR];refine Qi qby (cs:=[.int .u8 0, .str [], .int .i64 0, .int .i64 0, .bool false]) (by rfl) fun k9q7 hk9q7=>?_;have hn_9q7:B k9q7=none:=by first|assumption|(simp only[AHeap.set_none]at hk9q7;simp only[hk9q7])
   have hf_9q7:h k9q7=none:=Sub.none hs_B hn_9q7;have ne_9q7_x:k9q7≠kx:=AHeap.ne_some hn_9q7 eb_x;have ne_9q7_0q0:k9q7≠k0q0:=AHeap.ne_some hn_9q7 eb_0q0;refine qm (by rfl) (by rfl) (by repeat (first|exact AHeap.set_same _ _ _|assumption|refine(AHeap.set_ne _ _ (by first|assumption|exact Ne.symm (by assumption))).trans ?_)) Xg (by rfl) (by rfl) (by first|exact Nat.le_refl _|decide|(simp;done)|(simp;omega)) (Nat.zero_le _) (by rfl) ?_;simp only[AHeap.set_set,AVal.cells];simp+decide only[qa,ev,putD,Slots.put,Slots.get,Slots.keep,if_true,if_false,true_and,↓qd,qb,setAt,List.set_cons_zero,List.set_cons_succ,Nat.zero_add,Nat.reduceAdd];apply hK;clear hK K;refine awp_rseq [4,8,9,10] (by rfl) fun K hK=>?_;simp+decide only[ev,putD,Slots.put,Slots.get,if_true,if_false,true_and,↓qA,ql,qae,↓qF,Qb,qy ag9,QV,List.getD_cons_zero,List.getD_cons_succ,Nat.zero_add,qE];refine qM (V:= .str (Ym ((s.drop i).take m))) (by rfl) (by rfl) (by rw[<-fold_eq];exact c_fold w0 _ ((s.drop i).take m) (by rw[List.length_take];omega)) ?_;simp+decide only[ev,putD,Slots.put,Slots.get,if_true,if_false,true_and,↓qA,ql,qae,Nat.zero_add];refine qm (by rfl) (by rfl) (by repeat (first|exact AHeap.set_same _ _ _|assumption|refine(AHeap.set_ne _ _ (by first|assumption|exact Ne.symm (by assumption))).trans ?_)) sz9 (by rfl) (by rfl) (by first|exact Nat.le_refl _|decide|(simp;done)|(simp;omega)) (Nat.zero_le _) (by rfl) ?_;simp only[AHeap.set_set,AVal.cells];simp+decide only[qa,ev,putD,Slots.get,Slots.keep,if_true,if_false,setAt,List.set_cons_zero,List.set_cons_succ];apply hK;clear hK K;refine qO ?_;refine awp_rseq [4,8,9,10,63] (by rfl) fun K hK=>?_;simp+decide only[ev,putD,Slots.put,Slots.get,if_true,if_false,true_and,↓qA,ql,qae,↓qF,Qb,qy ag9,QV,List.getD_cons_zero,List.getD_cons_succ,Nat.zero_add,qE];refine qM (V:= .bool ((Ym ((s.drop i).take m)).contains 34)) (by rfl) (by rfl) (c_hasQ w0 _ _ 34) ?_;simp+decide only[qa,putD,Slots.put,Slots.keep,if_true,if_false];apply hK;clear hK K;refine qL (b:=_) rfl (fun hb3=>?_) (fun hb3=>?_)
   ·skip
    refine awp_rseq [4,5,6] (by rfl) fun K hK=>?_;simp+decide only[ev,qJ,qG,putD,Slots.put,Slots.get,if_false,true_and,↓Qn,↓qV,qaB,evP,List.map_nil];refine qm (by rfl) (by rfl) (by repeat (first|exact AHeap.set_same _ _ _|assumption|refine(AHeap.set_ne _ _ (by first|assumption|exact Ne.symm (by assumption))).trans ?_)) Xg (by rfl) (by rfl) (by first|exact Nat.le_refl _|decide|(simp;done)|(simp;omega)) (Nat.zero_le _) (by rfl) ?_;simp only[AVal.cells];simp+decide only[qa,ev,qJ,qG,putD,Slots.put,Slots.get,Slots.keep,if_true,if_false,true_and,↓qd,qb,setAt,List.set_cons_zero,List.set_cons_succ,Nat.zero_add,Nat.reduceAdd];apply hK;clear hK K;refine qN ?_;try simp only[Qf]
    refine qU h (by repeat (first|exact Sub.refl _|assumption|refine Sub.trans_set ?_ (by assumption))) (?_) ?_
    ·simp+decide only[Qw,qp,qi,Slots.get,if_true,if_false,and_true,qp,qi,qg Zz Xg,qW,qc,List.getD_cons_zero,List.getD_cons_succ,Nat.zero_add,Nat.reduceAdd,qB,qh,qE,allLive,Bool.and_true,qc,List.getD_cons_zero,List.getD_cons_succ,Nat.zero_add,Nat.reduceAdd,qB,qh,qE,allLive,Bool.and_true]
    simp+decide only[Slots.get,if_true,if_false,and_true,Qz,qp,qi,qg Zz Xg,qW,qc,List.getD_cons_zero,List.getD_cons_succ,Nat.zero_add,Nat.reduceAdd,qB,qh,qE,allLive,Bool.and_true,qc,List.getD_cons_zero,List.getD_cons_succ,Nat.zero_add,Nat.reduceAdd,qB,qh,qE,allLive,Bool.and_true,nxA,nxR];rw[if_pos hb3];rfl
   ·skip
    refine Qa ?_;change Awp _ _ _ _ _ _ _;refine awp_rseq [4,5,6] (by rfl) fun K hK=>?_;simp+decide only[ev,putD,Slots.put,Slots.get,if_true,if_false,true_and,↓qF,Qb,qg Zz Xg,↓qj,qf,QV,qc,List.getD_cons_zero,List.getD_cons_succ,Nat.zero_add,Nat.reduceAdd,qB,qh,qE,allLive,Bool.and_true];refine qm (by rfl) (by rfl) (by repeat (first|exact AHeap.set_same _ _ _|assumption|refine(AHeap.set_ne _ _ (by first|assumption|exact Ne.symm (by assumption))).trans ?_)) Xg (by rfl) (by rfl) (by first|exact Nat.le_refl _|decide|(simp;done)|(simp;omega)) (Nat.zero_le _) (by rfl) ?_;simp only[AVal.cells];simp+decide only[qa,ev,putD,Slots.put,Slots.get,Slots.keep,if_true,if_false,true_and,↓qd,qb,setAt,List.set_cons_zero,List.set_cons_succ,Nat.zero_add,Nat.reduceAdd];apply hK;clear hK K;refine qN ?_;refine qU h (by repeat (first|exact Sub.refl _|assumption|refine Sub.trans_set ?_ (by assumption))) (?_) ?_
    ·simp+decide only[Qw,qp,qi,Slots.get,if_true,if_false,and_true,qp,qi,qg Zz Xg,qW,qc,List.getD_cons_zero,List.getD_cons_succ,Nat.zero_add,Nat.reduceAdd,qB,qh,qE,allLive,Bool.and_true,qc,List.getD_cons_zero,List.getD_cons_succ,Nat.zero_add,Nat.reduceAdd,qB,qh,qE,allLive,Bool.and_true]
    simp+decide only[Slots.get,if_true,if_false,and_true,Qz,qp,qi,qg Zz Xg,qW,qc,List.getD_cons_zero,List.getD_cons_succ,Nat.zero_add,Nat.reduceAdd,qB,qh,qE,allLive,Bool.and_true,qc,List.getD_cons_zero,List.getD_cons_succ,Nat.zero_add,Nat.reduceAdd,qB,qh,qE,allLive,Bool.and_true,nxA,nxR];rw[if_neg (by rw[hb3];decide)];rfl
end Go.Proofs.YtlhhaagmakhilaaGreatDoor
namespace Go.Proofs.YtlhhaagmakhilaaGreatDoor
open Go.AM
open Go.Proofs
open Go.Col
open Go.Tok
open Go.RowKit (Below)
set_option maxRecDepth 100000
theorem c_pictureF(w0:World)(h:AHeap)(kx:Nat)(lf:Bool)(s:Str)(mv tv:AVal)(i:Nat)(eb_x:h kx=some ⟨[.bool lf, .str s,mv, .int .i64 i,tv],0⟩)(h32:Qk s i≠32)(hs:s.length<=1099511627776):
 ACall Tryz.prog w0 107 [.ptr (.own kx) 0, .bool false] h (fun r h'=>r=nxR (Yz s i false)/\h'=h):=by
 have hs_h:Sub h h:=Sub.refl h;refine qR (n:=68) (rs:=[.cell 4 54, .tmp 5, .tmp 6]) Tryz.func107 rfl rfl rfl rfl (Nat.le_of_ble_eq_true rfl) ?_;simp only[Qc];refine awp_rseq [0,1,4] (by rfl) fun K hK=>?_;refine Qi qby (cs:=[.int .u8 0, .str [], .int .i64 0, .int .i64 0, .bool false]) (by rfl) fun k0q0 hk0q0=>?_;have hn_0q0:h k0q0=none:=by first|assumption|(simp only[AHeap.set_none]at hk0q0;simp only[hk0q0])
 have hf_0q0:h k0q0=none:=Sub.none hs_h hn_0q0;have ne_0q0_x:k0q0≠kx:=AHeap.ne_some hn_0q0 eb_x;simp+decide only[qa,ev,qJ,qG,putD,Slots.put,Slots.keep,if_true,if_false,true_and,↓qd,qb,Nat.zero_add];apply hK;clear hK K;refine qO ?_;refine awp_rseq [0,4,27] (by rfl) fun K hK=>?_;simp+decide only[ev,putD,Slots.put,Slots.get,if_true,if_false,true_and,↓qj,qf,↓Xc,agP,Qu,qI,qH,qw,implies_true,Zo];refine Un (by rfl) (by rfl) ?_;simp+decide only[ev,putD,Slots.put,Slots.get,if_true,if_false,true_and,qI,qw,↓Xc,qf,agP,Qu,qH,implies_true,Zo];refine Un (by rfl) (by rfl) ?_;try simp+decide only[putD,Slots.put,if_false]
 refine Un (by rfl) (by rfl) ?_;try simp+decide only[putD,Slots.put,if_false]
 refine Un (by rfl) (by rfl) ?_;try simp+decide only[putD,Slots.put,if_false]
 refine Un (by rfl) (by rfl) ?_;simp+decide only[ev,qJ,qG,putD,Slots.put,Slots.get,if_true,if_false,true_and,qI,qw,↓Xd,qo,agP,Qu,qH,implies_true,Zo,false_implies,qbD,YP,cond_false,↓QP,Qt,Qg,↓qj,qf,↓Xc]
 (refine Un (by rfl) (by rfl) ?_)
 try simp+decide only[putD,Slots.put,if_false]
 (refine Un (by rfl) (by rfl) ?_)
 simp+decide only[qa,ev,qJ,qG,putD,Slots.put,Slots.get,Slots.keep,if_true,if_false,true_and,qI,qw,↓qbL,XE,agP,Qu,qH,Zo,false_implies,qbD,↓QP,Qt,Qg];apply hK;clear hK K;refine qL (b:=_) rfl (fun hb1=>?_) (fun hb1=>?_)
 ·exact absurd hb1 (by decide)
 ·try simp only at hb1
  refine Qa ?_;change Awp _ _ _ _ _ _ _;refine Awp.keep [0,4] ?_;exact pictureEnd w0 h _ (Sub.set hk0q0) kx k0q0 lf s mv tv i false ((by repeat (first|exact AHeap.set_same _ _ _|assumption|refine(AHeap.set_ne _ _ (by first|assumption|exact Ne.symm (by assumption))).trans ?_))) ((by repeat (first|exact AHeap.set_same _ _ _|assumption|refine(AHeap.set_ne _ _ (by first|assumption|exact Ne.symm (by assumption))).trans ?_))) hk0q0 ne_0q0_x h32 hs (by rintro⟨q,_⟩;cases q)
theorem c_pictureT(w0:World)(h:AHeap)(kx:Nat)(lf:Bool)(s:Str)(mv tv:AVal)(i:Nat)(eb_x:h kx=some ⟨[.bool lf, .str s,mv, .int .i64 i,tv],0⟩)(h32:Qk s i≠32)(hs:s.length<=1099511627776):
 ACall Tryz.prog w0 107 [.ptr (.own kx) 0, .bool true] h (fun r h'=>r=nxR (Yz s i true)/\h'=h):=by
 have hs_h:Sub h h:=Sub.refl h;have hi:=qbf h32;have hcv:=fun(h:AHeap) (k:Nat)=>(IsB.own (w0:=w0) (bs:=[Qk s i,Qk s (i+1)]) (f:=0) (n:=2) (AHeap.set_same h k ⟨byteCells [Qk s i,Qk s (i+1)],0⟩) rfl (c:= .exact 2) (Nat.le_refl 2)).conv Tryz.underlying22 Tryz.underlying9 Tryz.underlying5
 simp only[byteCells,List.map_cons,List.map_nil]at hcv;refine qR (n:=68) (rs:=[.cell 4 54, .tmp 5, .tmp 6]) Tryz.func107 rfl rfl rfl rfl (Nat.le_of_ble_eq_true rfl) ?_;simp only[Qc];refine awp_rseq [0,1,4] (by rfl) fun K hK=>?_;refine Qi qby (cs:=[.int .u8 0, .str [], .int .i64 0, .int .i64 0, .bool false]) (by rfl) fun k0q0 hk0q0=>?_;have hn_0q0:h k0q0=none:=by first|assumption|(simp only[AHeap.set_none]at hk0q0;simp only[hk0q0])
 have hf_0q0:h k0q0=none:=Sub.none hs_h hn_0q0;have ne_0q0_x:k0q0≠kx:=AHeap.ne_some hn_0q0 eb_x;simp+decide only[qa,ev,qJ,qG,putD,Slots.put,Slots.keep,if_true,if_false,true_and,↓qd,qb,Nat.zero_add];apply hK;clear hK K;refine qO ?_;refine awp_rseq [0,4,27] (by rfl) fun K hK=>?_;simp+decide only[ev,putD,Slots.put,Slots.get,if_true,if_false,true_and,↓qj,qf,↓Xc,agP,Qu,qI,qH,qw,implies_true,Qm,Qm];refine Yf (by rfl) ?_;refine qM (V:= .int .u8 (Qk s i).toNat) (by rfl) (by rfl) (qbI w0 _ kx lf s mv tv i ((by repeat (first|exact AHeap.set_same _ _ _|assumption|refine(AHeap.set_ne _ _ (by first|assumption|exact Ne.symm (by assumption))).trans ?_))) (by omega)) ?_;simp+decide only[ev,putD,Slots.put,Slots.get,if_true,if_false,true_and,↓Xc,qf,agP,Qu,qI,qH,qw,implies_true,Qm,Qm];refine Yf (by rfl) ?_;refine qM (V:= .int .u8 (Qk s (i+1)).toNat) (by rfl) (by rfl) (WU w0 _ kx lf s mv tv i 1 ((by repeat (first|exact AHeap.set_same _ _ _|assumption|refine(AHeap.set_ne _ _ (by first|assumption|exact Ne.symm (by assumption))).trans ?_))) (by omega) (by omega) (by omega)) ?_;refine Yf (by rfl) ?_;refine QC (cs:=[.int .u8 (Qk s i).toNat, .int .u8 (Qk s (i+1)).toNat]) (by kernel_rfl) fun k1q6 hk1q6=>?_;have ne_1q6_0q0:k1q6≠k0q0:=by simp only[AHeap.set_none]at hk1q6;simp only[hk1q6,ne_eq,not_false_eq_true]
 have hn_1q6:h k1q6=none:=by first|assumption|(simp only[AHeap.set_none]at hk1q6;simp only[hk1q6])
 have hf_1q6:h k1q6=none:=Sub.none hs_h hn_1q6;have ne_1q6_x:k1q6≠kx:=AHeap.ne_some hn_1q6 eb_x;simp+decide only[ev,putD,Slots.put,Slots.get,if_true,if_false,true_and,↓ag_convert _ _ _ (es_str Tryz.underlying22 Tryz.underlying9),qbC,agP,Qu,qI,qH,qw,implies_true,Qm,Qm,hcv];refine Yf (by rfl) ?_;refine qM (V:= .str (Ym [Qk s i,Qk s (i+1)])) (by rfl) (by rfl) (by rw[<-fold_eq];exact c_fold w0 _ [Qk s i,Qk s (i+1)] (by simp)) ?_;simp+decide only[ev,qJ,qG,putD,Slots.put,Slots.get,if_true,if_false,true_and,↓Xd,qo,agP,Qu,qI,qH,qw,implies_true,Qm,YP,cond_false,Zp,pS_eql,↓QP,Qt,Qg,↓qj,qf,↓Xc,Qm,Yr,cond_true,cond_false]
 (refine XJ (V:= .int .u8 (Qk s (i+2)).toNat) (f:=_) (cap:=_) (xs:=_) (by first|rfl|(simp+decide only[gv,qI,Slots.get,if_true,if_false,QO,qH])) (fun hg=>⟨rfl,?_⟩) (fun hg=>WU w0 _ kx lf s mv tv i 2 ((by repeat (first|exact AHeap.set_same _ _ _|assumption|refine(AHeap.set_ne _ _ (by first|assumption|exact Ne.symm (by assumption))).trans ?_))) (by omega) (by omega) (by omega)) ?_;· (simp+decide only[gv,qI,Slots.get,if_true,if_false,qw]at hg;simp+decide only[evs,ev,Slots.get,if_true,if_false,hg,Qm,List.append_nil,List.map_cons,List.map_nil,qJ,qG]<;>try rfl))
 try simp+decide only[putD,Slots.put,Slots.get,if_true,if_false,gv,qI,qw]
 (refine XJ (V:= .bool (Zy (Qk s (i+2)))) (f:=_) (cap:=_) (xs:=_) (by first|rfl|(simp+decide only[gv,qI,Slots.get,if_true,if_false,QO,qH])) (fun hg=>⟨rfl,?_⟩) (fun hg=>c_wordy w0 _ _) ?_;· (simp+decide only[gv,qI,Slots.get,if_true,if_false,qw]at hg;simp+decide only[evs,ev,Slots.get,if_true,if_false,hg,Qm,List.append_nil,List.map_cons,List.map_nil]<;>try rfl))
 simp+decide only[qa,ev,qJ,qG,putD,Slots.put,Slots.get,Slots.keep,if_true,if_false,true_and,gv,qI,qw,↓qbL,XE,agP,Qu,qH,implies_true,ZY,cv_un,cp_un,↓QP,Qt,Qg,Xj,Yr];apply hK;clear hK K;refine qL (b:=_) rfl (fun hb1=>?_) (fun hb1=>?_)
 ·skip
  refine awp_rseq [4,5,6] (by rfl) fun K hK=>?_;simp+decide only[ev,qJ,qG,putD,Slots.put,Slots.get,if_false,true_and,↓Qn,↓qV,bld54_0_1,evP,List.map_cons,List.map_nil];refine qm (by rfl) (by rfl) (by repeat (first|exact AHeap.set_same _ _ _|assumption|refine(AHeap.set_ne _ _ (by first|assumption|exact Ne.symm (by assumption))).trans ?_)) Xg (by rfl) (by rfl) (by first|exact Nat.le_refl _|decide|(simp;done)|(simp;omega)) (Nat.zero_le _) (by rfl) ?_;simp only[AVal.cells];simp+decide only[qa,ev,qJ,qG,putD,Slots.put,Slots.get,Slots.keep,if_true,if_false,true_and,↓qd,qb,setAt,List.set_cons_zero,List.set_cons_succ,Nat.zero_add,Nat.reduceAdd];apply hK;clear hK K;refine qN ?_;try simp only[Qf]
  refine qU h (by repeat (first|exact Sub.refl _|assumption|refine Sub.trans_set ?_ (by assumption))) (?_) ?_
  ·simp+decide only[Qw,qp,qi,Slots.get,if_true,if_false,and_true,qp,qi,qg Zz Xg,qW,qc,List.getD_cons_zero,List.getD_cons_succ,Nat.zero_add,Nat.reduceAdd,qB,qh,qE,allLive,Bool.and_true,qc,List.getD_cons_zero,List.getD_cons_succ,Nat.zero_add,Nat.reduceAdd,qB,qh,qE,allLive,Bool.and_true]
  simp+decide only[Slots.get,if_true,if_false,and_true,Qz,qp,qi,qg Zz Xg,qW,qc,List.getD_cons_zero,List.getD_cons_succ,Nat.zero_add,Nat.reduceAdd,qB,qh,qE,allLive,Bool.and_true,Bool.and_true,qc,List.getD_cons_zero,List.getD_cons_succ,Nat.zero_add,Nat.reduceAdd,qB,qh,qE,allLive,Bool.and_true,nxA,nxR];have hq:Ym [Qk s i,Qk s (i+1)]=IS/\Zy (Qk s (i+2))=false:=by
   by_cases hd:Ym [Qk s i,Qk s (i+1)]=IS
   ·rw[decide_eq_true (show Ym [Qk s i,Qk s (i+1)]=[73,83]from hd)]at hb1
    exact⟨hd,by simpa using hb1⟩
   ·rw[decide_eq_false (show ¬Ym [Qk s i,Qk s (i+1)]=[73,83]from hd)]at hb1
    cases hb1
  unfold Yz;rw[if_pos ⟨rfl,hq.1,hq.2⟩];rfl
 ·skip
  refine Qa ?_;change Awp _ _ _ _ _ _ _;refine Awp.keep [0,4] ?_;exact pictureEnd w0 h _ ((by repeat (first|exact Sub.refl _|assumption|refine Sub.set_both ?_ _ _|refine Sub.trans_set ?_ (by repeat (first|assumption|refine(AHeap.set_ne _ _ (by first|assumption|exact Ne.symm (by assumption))).trans ?_))))) kx k0q0 lf s mv tv i true ((by repeat (first|exact AHeap.set_same _ _ _|assumption|refine(AHeap.set_ne _ _ (by first|assumption|exact Ne.symm (by assumption))).trans ?_))) ((by repeat (first|exact AHeap.set_same _ _ _|assumption|refine(AHeap.set_ne _ _ (by first|assumption|exact Ne.symm (by assumption))).trans ?_))) hk0q0 ne_0q0_x h32 hs (fun q=>by rw[decide_eq_true (show Ym [Qk s i,Qk s (i+1)]=[73,83]from q.2.1),q.2.2]at hb1;cases hb1)
theorem c_picture(w0:World)(h:AHeap)(kx:Nat)(lf:Bool)(s:Str)(mv tv:AVal)(i:Nat)(is:Bool)(eb_x:h kx=some ⟨[.bool lf, .str s,mv, .int .i64 i,tv],0⟩)(h32:Qk s i≠32)(hs:s.length<=1099511627776):
 ACall Tryz.prog w0 107 [.ptr (.own kx) 0, .bool is] h (fun r h'=>r=nxR (Yz s i is)/\h'=h):=by
 cases is with
 |true=>exact c_pictureT w0 h kx lf s mv tv i eb_x h32 hs
 |false=>exact c_pictureF w0 h kx lf s mv tv i eb_x h32 hs
set_option maxHeartbeats 400000 in
theorem c_number(w0:World)(h:AHeap)(kx:Nat)(lf:Bool)(s:Str)(mv tv:AVal)(i:Nat)(eb_x:h kx=some ⟨[.bool lf, .str s,mv, .int .i64 i,tv],0⟩)(hi:i<s.length)(hs:s.length<=1099511627776):
 ACall Tryz.prog w0 110 [.ptr (.own kx) 0] h (fun r h'=>r=nxR (YD s i)/\h'=h):=by
 have hs_h:Sub h h:=Sub.refl h;have hsg:=Bool.toNat_le (YV s i);have hn1:=n1_le hi;have hnl:=numLen_le hi;obtain⟨b0,h0⟩:∃b,b=Qk s i:=⟨_,rfl⟩
 obtain⟨bm,hm⟩:∃b,b=Qk s ((i:Int)+ -1):=⟨_,rfl⟩
 refine qR (n:=89) (rs:=[.cell 2 54, .tmp 3, .tmp 4]) Tryz.func110 rfl rfl rfl rfl (Nat.le_of_ble_eq_true rfl) ?_;simp only[Qc];refine awp_rseq [0,2] (by rfl) fun K hK=>?_;refine Qi qby (cs:=[.int .u8 0, .str [], .int .i64 0, .int .i64 0, .bool false]) (by rfl) fun k0q0 hk0q0=>?_;have hn_0q0:h k0q0=none:=by first|assumption|(simp only[AHeap.set_none]at hk0q0;simp only[hk0q0])
 have hf_0q0:h k0q0=none:=Sub.none hs_h hn_0q0;have ne_0q0_x:k0q0≠kx:=AHeap.ne_some hn_0q0 eb_x;simp+decide only[qa,ev,qJ,qG,putD,Slots.put,Slots.keep,if_true,if_false,true_and,↓qd,qb];apply hK;clear hK K;refine awp_rseq [0,2,5] (by rfl) fun K hK=>?_;simp+decide only[qa,ev,qJ,qG,putD,Slots.put,Slots.keep,if_true,if_false,true_and,↓qd,qb];apply hK;clear hK K;refine awp_rseq [0,2,5,6] (by rfl) fun K hK=>?_;simp+decide only[ev,putD,Slots.put,Slots.get,if_true,if_false,true_and,↓qj,qf];refine qM (V:= .int .u8 b0.toNat) (by rfl) (by rfl) (by rw[h0];exact qbI w0 _ kx lf s mv tv i ((by repeat (first|exact AHeap.set_same _ _ _|assumption|refine(AHeap.set_ne _ _ (by first|assumption|exact Ne.symm (by assumption))).trans ?_))) (by omega)) ?_;simp+decide only[ev,qJ,qG,putD,Slots.put,Slots.get,if_true,if_false,true_and,↓qC,qo,qD,cond_false,qz,XD,↓qj,qf,↓Xc,agP,Qu,qI,qH,Qd,implies_true]
 (refine XJ (V:= .int .u8 b0.toNat) (f:=_) (cap:=_) (xs:=_) (by first|rfl|(simp+decide only[gv,qI,Slots.get,if_true,if_false,QO,qH])) (fun hg=>⟨rfl,?_⟩) (fun hg=>by rw[h0];exact qbI w0 _ kx lf s mv tv i ((by repeat (first|exact AHeap.set_same _ _ _|assumption|refine(AHeap.set_ne _ _ (by first|assumption|exact Ne.symm (by assumption))).trans ?_))) (by omega)) ?_;· (simp+decide only[gv,qI,Slots.get,if_true,if_false,Qd]at hg;simp+decide only[evs,ev,Slots.get,if_true,if_false,hg,Qm,List.append_nil,List.map_cons,List.map_nil,qJ,qG]<;>try rfl))
 simp+decide only[ev,qJ,qG,putD,Slots.put,Slots.get,if_true,if_false,true_and,gv,qI,qw,Qd,↓Xd,qo,agP,Qu,qH,implies_true,qD,cond_false,Zf,Zg,qz,XD,↓QP,Qt,Qg,XW,ZR,↓qj,qf,↓Xc]
 (refine XJ (V:= .int .u8 bm.toNat) (f:=_) (cap:=_) (xs:=_) (by first|rfl|(simp+decide only[gv,qI,Slots.get,if_true,if_false,QO,qH])) (fun hg=>⟨rfl,?_⟩) (fun hg=>by rw[hm];exact WU w0 _ kx lf s mv tv i (-1) ((by repeat (first|exact AHeap.set_same _ _ _|assumption|refine(AHeap.set_ne _ _ (by first|assumption|exact Ne.symm (by assumption))).trans ?_))) (by omega) (by omega) (by omega)) ?_;· (simp+decide only[gv,qI,Slots.get,if_true,if_false,qw]at hg;simp+decide only[evs,ev,Slots.get,if_true,if_false,hg,Qm,List.append_nil,List.map_cons,List.map_nil,qJ,qG]<;>try rfl))
 simp+decide only[ev,qJ,qG,putD,Slots.put,Slots.get,if_true,if_false,true_and,gv,qI,qw,Qd,Yl,↓Xd,qo,agP,Qu,qH,QO,cv_cv,implies_true,qD,cond_false,Zf,Zg,qz,XD,↓Xc,qf]
 (refine XJ (V:= .int .u8 bm.toNat) (f:=_) (cap:=_) (xs:=_) (by first|rfl|(simp+decide only[gv,qI,Slots.get,if_true,if_false,QO])) (fun hg=>⟨rfl,?_⟩) (fun hg=>by rw[hm];exact WU w0 _ kx lf s mv tv i (-1) ((by repeat (first|exact AHeap.set_same _ _ _|assumption|refine(AHeap.set_ne _ _ (by first|assumption|exact Ne.symm (by assumption))).trans ?_))) (by omega) (by omega) (by omega)) ?_;· (simp+decide only[gv,qI,Slots.get,if_true,if_false,Qd,Yl]at hg;simp+decide only[evs,ev,Slots.get,if_true,if_false,hg,Qm,List.append_nil,List.map_cons,List.map_nil,qJ,qG]<;>try rfl))
 simp+decide only[qa,ev,qJ,qG,putD,Slots.put,Slots.get,Slots.keep,if_true,if_false,true_and,gv,qI,qw,Qd,Yl,↓Xd,qo,agP,Qu,qH,QO,implies_true,qD,cond_false,Zf,Zg,qz,XD,↓ag_pick,Qt,Qg,Xj,cp_nest2,Xk,ZR,cv_pick,cp_pick,↓QP,↓qd,qb];have hsv:((decide ((b0.toNat:Int)=43)||decide ((b0.toNat:Int)=45)) && (decide ((bm.toNat:Int)=32)||decide ((bm.toNat:Int)=40)))=YV s i:=by
  have e43:decide ((b0.toNat:Int)=43)=decide (b0=43):=decide_eq_decide.2 (iff_of_eq (XP _ 43));have e45:decide ((b0.toNat:Int)=45)=decide (b0=45):=decide_eq_decide.2 (iff_of_eq (XP _ 45));have e32:decide ((bm.toNat:Int)=32)=decide (bm=32):=decide_eq_decide.2 (iff_of_eq (XP _ 32));have e40:decide ((bm.toNat:Int)=40)=decide (bm=40):=decide_eq_decide.2 (iff_of_eq (XP _ 40));rw[e43,e45,e32,e40];unfold YV;rw[h0,hm,show(i:Int)+ -1=(i:Int)-1 by omega]
 rw[hsv];obtain⟨sg,hsg'⟩:∃sg,sg=YV s i:=⟨_,rfl⟩
 rw[<-hsg'];apply hK;clear hK K;refine qO ?_;refine awp_rseq [0,2,5,6,27] (by rfl) fun K hK=>?_;simp+decide only[qa,ev,putD,Slots.put,Slots.get,Slots.keep,if_true,if_false,true_and,↓qj,qf];apply hK;clear hK K;refine Uu [0,2,5,6] (fun z:Unit=>[(0, .ptr (.own kx) 0),(2, .ptr (.own k0q0) 0),(5, .int .i64 sg.toNat),(6, .bool sg)]) (fun z:Unit=>h.set k0q0 ⟨[.int .u8 0, .str [], .int .i64 0, .int .i64 0, .bool false],0⟩) (fun z:Unit=>True) ?_ ?_
 ·refine qL (b:=_) rfl (fun hb1=>?_) (fun hb1=>?_)
  ·skip
   refine XK [0,2,5,6] (by rfl) ?_;simp+decide only[qa,ev,qJ,qG,putD,Slots.put,Slots.get,Slots.keep,if_true,if_false,true_and,and_true,↓qj,qf,↓qC,qo,qD,cond_false,qz,Xf,↓qd,qb,nxA,nxR];try simp(disch:=omega)only[wrap_i64]
   try simp only[Ql]
   first
   |exact⟨(),by rw[hb1];rfl,Sub.refl _,trivial⟩
   |exact⟨(),by rw[hb1];rfl,Sub.refl _⟩
  ·skip
   refine Qa ?_;try simp only[Ql]
   first
   |exact⟨(),by rw[hb1];rfl,Sub.refl _,trivial⟩
   |exact⟨(),by rw[hb1];rfl,Sub.refl _⟩
 ·intro _ _
  rw[hsg']at*
  have hd0:d0E s i<=s.length:=runE_len _ _ _;have hq1:((YV s i).toNat:Int)+d0E s i=(n1E s i:Nat):=by unfold n1E;omega
  have hnum:YD s i=numF (Zy (Qk s ((i:Int)+(n1E s i:Nat)))) (Zy (Qk s ((i:Int)+(Ws s i:Nat)))) (YV s i) (d0E s i) (qbj s i) (takeE s i 2 (Ws s i)):=rfl;have hml:dotE s i=true->qbk s i<=s.length:=fun _=>runE_len _ _ _;refine awp_rseq [0,2,5,6,7] (by rfl) fun K hK=>?_;simp+decide only[ev,putD,Slots.put,Slots.get,if_true,if_false,true_and,↓qj,qf];refine qM (V:= .int .i64 (d0E s i)) (by rfl) (by rfl) (c_run w0 _ kx lf s mv tv i (YV s i).toNat _ _ (f_digit w0) ((by repeat (first|exact AHeap.set_same _ _ _|assumption|refine(AHeap.set_ne _ _ (by first|assumption|exact Ne.symm (by assumption))).trans ?_))) (by omega) (by omega) hs) ?_;simp+decide only[qa,ev,putD,Slots.put,Slots.get,Slots.keep,if_true,if_false,true_and,↓qd,qb];apply hK;clear hK K;refine awp_rseq [0,2,5,6,7] (by rfl) fun K hK=>?_;simp+decide only[qa,ev,putD,Slots.put,Slots.get,Slots.keep,if_true,if_false,true_and,↓qj,qf,↓qC,qo,qZ,cond_false,qz,Xf,↓qd,qb];try simp(disch:=omega)only[wrap_i64]
  rw[hq1];apply hK;clear hK K;refine qO ?_;refine awp_rseq [0,2,5,6,7,43] (by rfl) fun K hK=>?_;simp+decide only[ev,qJ,qG,putD,Slots.put,Slots.get,if_true,if_false,true_and,↓qj,qf,↓qC,qo,qD,cond_false,qz,Ur,↓Xc,agP,Qu,qI,qH,qw,implies_true]
  (refine XJ (V:= .int .u8 (Qk s ((i:Int)+(n1E s i:Nat))).toNat) (f:=_) (cap:=_) (xs:=_) (by first|rfl|(simp+decide only[gv,qI,Slots.get,if_true,if_false,QO,qH])) (fun hg=>⟨rfl,?_⟩) (fun hg=>WU w0 _ kx lf s mv tv i _ ((by repeat (first|exact AHeap.set_same _ _ _|assumption|refine(AHeap.set_ne _ _ (by first|assumption|exact Ne.symm (by assumption))).trans ?_))) (by omega) (by omega) (by omega)) ?_;· (simp+decide only[gv,qI,Slots.get,if_true,if_false,qw]at hg;simp+decide only[evs,ev,Slots.get,if_true,if_false,hg,Qm,List.append_nil,List.map_cons,List.map_nil]<;>try rfl))
  try simp+decide only[putD,Slots.put,Slots.get,if_true,if_false,gv,qI,qw]
  (refine XJ (V:= .bool (Zy (Qk s ((i:Int)+(n1E s i:Nat))))) (f:=_) (cap:=_) (xs:=_) (by first|rfl|(simp+decide only[gv,qI,Slots.get,if_true,if_false,QO,qH])) (fun hg=>⟨rfl,?_⟩) (fun hg=>c_wordy w0 _ _) ?_;· (simp+decide only[gv,qI,Slots.get,if_true,if_false,qw]at hg;simp+decide only[evs,ev,Slots.get,if_true,if_false,hg,Qm,List.append_nil,List.map_cons,List.map_nil]<;>try rfl))
  simp+decide only[qa,ev,qJ,qG,putD,Slots.put,Slots.get,Slots.keep,if_true,if_false,true_and,gv,qI,qw,↓QP,Qt,Qg,Xj,Xk];apply hK;clear hK K;refine qL (b:=_) rfl (fun hb2=>?_) (fun hb2=>?_)
  ·try simp only[decide_eq_true_eq,Bool.and_eq_true]at hb2
   have hb2':0<d0E s i/\Zy (Qk s ((i:Int)+(n1E s i:Nat)))=true:=⟨by omega,hb2.2⟩
   refine qO ?_;refine awp_rseq [2,44] (by rfl) fun K hK=>?_;simp+decide only[qa,ev,putD,Slots.put,Slots.get,Slots.keep,if_true,if_false,true_and,↓qj,qf];apply hK;clear hK K;refine qL (b:=_) rfl (fun hb3=>?_) (fun hb3=>?_)
   ·skip
    refine awp_rseq [2,3,4] (by rfl) fun K hK=>?_;simp+decide only[ev,qJ,qG,putD,Slots.put,Slots.get,if_false,true_and,↓Qn,↓qV,qaB,evP,List.map_nil];refine qm (by rfl) (by rfl) (by repeat (first|exact AHeap.set_same _ _ _|assumption|refine(AHeap.set_ne _ _ (by first|assumption|exact Ne.symm (by assumption))).trans ?_)) Xg (by rfl) (by rfl) (by first|exact Nat.le_refl _|decide|(simp;done)|(simp;omega)) (Nat.zero_le _) (by rfl) ?_;simp only[AHeap.set_set,AVal.cells];simp+decide only[qa,ev,qJ,qG,putD,Slots.put,Slots.get,Slots.keep,if_true,if_false,true_and,↓qd,qb,setAt,List.set_cons_zero,List.set_cons_succ,Nat.zero_add,Nat.reduceAdd];apply hK;clear hK K;refine qN ?_;try simp only[Qf]
    refine qU h (by repeat (first|exact Sub.refl _|assumption|refine Sub.trans_set ?_ (by assumption))) (?_) ?_
    ·simp+decide only[Qw,qp,qi,Slots.get,if_true,if_false,and_true,qp,qi,qg Zz Xg,qW,qc,List.getD_cons_zero,List.getD_cons_succ,Nat.zero_add,Nat.reduceAdd,qB,qh,qE,allLive,Bool.and_true,qc,List.getD_cons_zero,List.getD_cons_succ,Nat.zero_add,Nat.reduceAdd,qB,qh,qE,allLive,Bool.and_true]
    simp+decide only[Slots.get,if_true,if_false,and_true,Qz,qp,qi,qg Zz Xg,qW,qc,List.getD_cons_zero,List.getD_cons_succ,Nat.zero_add,Nat.reduceAdd,qB,qh,qE,allLive,Bool.and_true,qc,List.getD_cons_zero,List.getD_cons_succ,Nat.zero_add,Nat.reduceAdd,qB,qh,qE,allLive,Bool.and_true,nxA,nxR];rw[hnum];unfold numF;rw[if_pos hb2',if_pos hb3];rfl
   ·skip
    refine Qa ?_;change Awp _ _ _ _ _ _ _;refine awp_rseq [2,3,4] (by rfl) fun K hK=>?_;simp+decide only[ev,qJ,qG,putD,Slots.put,Slots.get,if_false,true_and,↓Qn,↓qV,qaB,evP,List.map_nil];refine qm (by rfl) (by rfl) (by repeat (first|exact AHeap.set_same _ _ _|assumption|refine(AHeap.set_ne _ _ (by first|assumption|exact Ne.symm (by assumption))).trans ?_)) Xg (by rfl) (by rfl) (by first|exact Nat.le_refl _|decide|(simp;done)|(simp;omega)) (Nat.zero_le _) (by rfl) ?_;simp only[AHeap.set_set,AVal.cells];simp+decide only[qa,ev,qJ,qG,putD,Slots.put,Slots.get,Slots.keep,if_true,if_false,true_and,↓qd,qb,setAt,List.set_cons_zero,List.set_cons_succ,Nat.zero_add,Nat.reduceAdd];apply hK;clear hK K;refine qN ?_;try simp only[Qf]
    refine qU h (by repeat (first|exact Sub.refl _|assumption|refine Sub.trans_set ?_ (by assumption))) (?_) ?_
    ·simp+decide only[Qw,qp,qi,Slots.get,if_true,if_false,and_true,qp,qi,qg Zz Xg,qW,qc,List.getD_cons_zero,List.getD_cons_succ,Nat.zero_add,Nat.reduceAdd,qB,qh,qE,allLive,Bool.and_true,qc,List.getD_cons_zero,List.getD_cons_succ,Nat.zero_add,Nat.reduceAdd,qB,qh,qE,allLive,Bool.and_true]
    simp+decide only[Slots.get,if_true,if_false,and_true,Qz,qp,qi,qg Zz Xg,qW,qc,List.getD_cons_zero,List.getD_cons_succ,Nat.zero_add,Nat.reduceAdd,qB,qh,qE,allLive,Bool.and_true,qc,List.getD_cons_zero,List.getD_cons_succ,Nat.zero_add,Nat.reduceAdd,qB,qh,qE,allLive,Bool.and_true,nxA,nxR];rw[hnum];unfold numF;rw[if_pos hb2',if_neg (by rw[hb3];decide)];rfl
  ·try simp only[decide_eq_false_iff_not,Bool.and_eq_false_iff]at hb2
   have hb2':¬(0<d0E s i/\Zy (Qk s ((i:Int)+(n1E s i:Nat)))=true):=fun q=>hb2.elim (fun z=>z (by omega)) (fun z=>by rw[q.2]at z;cases z);refine Qa ?_;change Awp _ _ _ _ _ _ _;refine qO ?_;refine awp_rseq [0,2,5,7,57] (by rfl) fun K hK=>?_;simp+decide only[ev,putD,Slots.put,Slots.get,if_true,if_false,true_and,↓qj,qf];refine qM (V:= .int .u8 (Qk s ((i:Int)+(n1E s i:Nat))).toNat) (by rfl) (by rfl) (WU w0 _ kx lf s mv tv i _ ((by repeat (first|exact AHeap.set_same _ _ _|assumption|refine(AHeap.set_ne _ _ (by first|assumption|exact Ne.symm (by assumption))).trans ?_))) (by omega) (by omega) (by omega)) ?_;simp+decide only[ev,qJ,qG,putD,Slots.put,Slots.get,if_true,if_false,true_and,↓qC,qo,qD,cond_false,qz,XD,↓qj,qf,↓Xc,agP,Qu,qI,qH,qw,implies_true,↓Xd,Zf,Zg,Xf];try simp(disch:=omega)only[wrap_i64]
   (refine XJ (V:= .int .u8 (Qk s ((i:Int)+((n1E s i:Nat)+1))).toNat) (f:=_) (cap:=_) (xs:=_) (by first|rfl|(simp+decide only[gv,qI,Slots.get,if_true,if_false,QO,qH])) (fun hg=>⟨rfl,?_⟩) (fun hg=>WU w0 _ kx lf s mv tv i ((n1E s i:Nat)+1) ((by repeat (first|exact AHeap.set_same _ _ _|assumption|refine(AHeap.set_ne _ _ (by first|assumption|exact Ne.symm (by assumption))).trans ?_))) (by omega) (by omega) (by omega)) ?_;· (simp+decide only[gv,qI,Slots.get,if_true,if_false,qw]at hg;simp+decide only[evs,ev,Slots.get,if_true,if_false,hg,Qm,List.append_nil,List.map_cons,List.map_nil]<;>try rfl))
   try simp+decide only[putD,Slots.put,Slots.get,if_true,if_false,gv,qI,qw]
   (refine XJ (V:= .bool (Yc (Qk s ((i:Int)+((n1E s i:Nat)+1))))) (f:=_) (cap:=_) (xs:=_) (by first|rfl|(simp+decide only[gv,qI,Slots.get,if_true,if_false,QO,qH])) (fun hg=>⟨rfl,?_⟩) (fun hg=>c_digitT w0 _ _) ?_;· (simp+decide only[gv,qI,Slots.get,if_true,if_false,qw]at hg;simp+decide only[evs,ev,Slots.get,if_true,if_false,hg,Qm,List.append_nil,List.map_cons,List.map_nil]<;>try rfl))
   simp+decide only[qa,ev,qJ,qG,putD,Slots.put,Slots.get,Slots.keep,if_true,if_false,true_and,gv,qI,qw,↓QP,Qt,Qg,Xj,Xk];have hdv:(decide (((Qk s ((i:Int)+(n1E s i:Nat))).toNat:Int)=46) && Yc (Qk s ((i:Int)+((n1E s i:Nat)+1))))=dotE s i:=by
    have e46:decide (((Qk s ((i:Int)+(n1E s i:Nat))).toNat:Int)=46)=decide (Qk s ((i:Int)+(n1E s i:Nat))=46):=decide_eq_decide.2 (iff_of_eq (XP _ 46));rw[e46,<-Int.add_assoc];rfl
   rw[hdv];apply hK;clear hK K;refine Uu [0,2,5,7] (fun z:Unit=>[(0, .ptr (.own kx) 0),(2, .ptr (.own k0q0) 0),(5, .int .i64 (Ws s i)),(7, .int .i64 (qbj s i))]) (fun z:Unit=>h.set k0q0 ⟨[.int .u8 0, .str [], .int .i64 0, .int .i64 0, .bool false],0⟩) (fun z:Unit=>True) ?_ ?_
   ·refine qL (b:=_) rfl (fun hb4=>?_) (fun hb4=>?_)
    ·skip
     have hmo:=hml hb4;have hld:Ws s i=n1E s i+1+qbk s i:=by unfold Ws;rw[if_pos hb4]
     have hdd:qbj s i=d0E s i+qbk s i:=by unfold qbj;rw[if_pos hb4]
     refine awp_rseq [0,2,5,7,8] (by rfl) fun K hK=>?_;simp+decide only[ev,qJ,qG,putD,Slots.put,Slots.get,if_true,if_false,true_and,↓qj,qf,↓qC,qo,qD,cond_false,qz,Xf];try simp(disch:=omega)only[wrap_i64]
     rw[show((n1E s i:Nat):Int)+1=((n1E s i+1:Nat):Int)from rfl];refine qM (V:= .int .i64 (qbk s i)) (by rfl) (by rfl) (c_run w0 _ kx lf s mv tv i (n1E s i+1) _ _ (f_digit w0) ((by repeat (first|exact AHeap.set_same _ _ _|assumption|refine(AHeap.set_ne _ _ (by first|assumption|exact Ne.symm (by assumption))).trans ?_))) (by omega) (by omega) hs) ?_;simp+decide only[qa,ev,putD,Slots.put,Slots.get,Slots.keep,if_true,if_false,true_and,↓qd,qb];apply hK;clear hK K;refine awp_rseq [0,2,5,7,8] (by rfl) fun K hK=>?_;simp+decide only[qa,ev,putD,Slots.put,Slots.get,Slots.keep,if_true,if_false,true_and,↓qj,qf,↓qC,qo,qZ,cond_false,qz,Xf,↓qd,qb];try simp(disch:=omega)only[wrap_i64]
     apply hK;clear hK K;refine XK [0,2,5,7] (by rfl) ?_;simp+decide only[qa,ev,qJ,qG,putD,Slots.put,Slots.get,Slots.keep,if_true,if_false,true_and,and_true,↓qj,qf,↓qC,qo,qZ,cond_false,qz,Xf,↓qd,qb,nxA,nxR];try simp(disch:=omega)only[wrap_i64]
     try simp only[Ql]
     first
     |exact⟨(),by rw[hld,hdd,show((n1E s i:Nat):Int)+(1+(qbk s i:Nat))=((n1E s i+1+qbk s i:Nat):Int) by omega];rfl,Sub.refl _,trivial⟩
     |exact⟨(),by rw[hld,hdd];rfl,Sub.refl _,trivial⟩
     |exact⟨(),by rw[hld,hdd,show((n1E s i:Nat):Int)+(1+(qbk s i:Nat))=((n1E s i+1+qbk s i:Nat):Int) by omega];rfl,Sub.refl _⟩
     |exact⟨(),by rw[hld,hdd];rfl,Sub.refl _⟩
    ·skip
     have hld:Ws s i=n1E s i:=by unfold Ws;rw[if_neg (by rw[hb4];decide)]
     have hdd:qbj s i=d0E s i:=by unfold qbj;rw[if_neg (by rw[hb4];decide)]
     refine Qa ?_;try simp only[Ql]
     first
     |exact⟨(),by rw[hld,hdd,show((n1E s i:Nat):Int)+(1+(qbk s i:Nat))=((n1E s i+1+qbk s i:Nat):Int) by omega];rfl,Sub.refl _,trivial⟩
     |exact⟨(),by rw[hld,hdd];rfl,Sub.refl _,trivial⟩
     |exact⟨(),by rw[hld,hdd,show((n1E s i:Nat):Int)+(1+(qbk s i:Nat))=((n1E s i+1+qbk s i:Nat):Int) by omega];rfl,Sub.refl _⟩
     |exact⟨(),by rw[hld,hdd];rfl,Sub.refl _⟩
   ·intro _ _
    refine qO ?_;refine QB ?_;refine awp_rseq [0,2,5,7,69] (by rfl) fun K hK=>?_;simp+decide only[qa,ev,qJ,qG,putD,Slots.put,Slots.get,Slots.keep,if_true,if_false,true_and,↓qj,qf,↓qC,qo,qD,cond_false,qz,XD,↓qd,qb];apply hK;clear hK K;refine qL (b:=_) rfl (fun hb5=>?_) (fun hb5=>?_)
    ·try simp only[decide_eq_true_eq]at hb5
     refine awp_rseq [2,3,4] (by rfl) fun K hK=>?_;simp+decide only[ev,qJ,qG,putD,Slots.put,Slots.get,if_false,true_and,↓Qn,↓qV,qaB,evP,List.map_nil];refine qm (by rfl) (by rfl) (by repeat (first|exact AHeap.set_same _ _ _|assumption|refine(AHeap.set_ne _ _ (by first|assumption|exact Ne.symm (by assumption))).trans ?_)) Xg (by rfl) (by rfl) (by first|exact Nat.le_refl _|decide|(simp;done)|(simp;omega)) (Nat.zero_le _) (by rfl) ?_;simp only[AHeap.set_set,AVal.cells];simp+decide only[qa,ev,qJ,qG,putD,Slots.put,Slots.get,Slots.keep,if_true,if_false,true_and,↓qd,qb,setAt,List.set_cons_zero,List.set_cons_succ,Nat.zero_add,Nat.reduceAdd];apply hK;clear hK K;refine qN ?_;try simp only[Qf,Qr]
     refine qU h (by repeat (first|exact Sub.refl _|assumption|refine Sub.trans_set ?_ (by assumption))) (?_) ?_
     ·simp+decide only[Qw,qp,qi,Slots.get,if_true,if_false,and_true,qp,qi,qg Zz Xg,qW,qc,List.getD_cons_zero,List.getD_cons_succ,Nat.zero_add,Nat.reduceAdd,qB,qh,qE,allLive,Bool.and_true,qc,List.getD_cons_zero,List.getD_cons_succ,Nat.zero_add,Nat.reduceAdd,qB,qh,qE,allLive,Bool.and_true]
     simp+decide only[Slots.get,if_true,if_false,and_true,Qz,qp,qi,qg Zz Xg,qW,qc,List.getD_cons_zero,List.getD_cons_succ,Nat.zero_add,Nat.reduceAdd,qB,qh,qE,allLive,Bool.and_true,qc,List.getD_cons_zero,List.getD_cons_succ,Nat.zero_add,Nat.reduceAdd,qB,qh,qE,allLive,Bool.and_true,nxA,nxR];rw[hnum];unfold numF;rw[if_neg hb2',if_pos (by omega)];rfl
    ·try simp only[decide_eq_false_iff_not]at hb5
     have hb5':¬qbj s i=0:=by omega
     refine awp_rseq [0,2,5,7,73] (by rfl) fun K hK=>?_;simp+decide only[ev,putD,Slots.put,Slots.get,if_true,if_false,true_and,↓qj,qf];refine qM (V:= .int .u8 (Qk s ((i:Int)+(Ws s i:Nat))).toNat) (by rfl) (by rfl) (WU w0 _ kx lf s mv tv i _ ((by repeat (first|exact AHeap.set_same _ _ _|assumption|refine(AHeap.set_ne _ _ (by first|assumption|exact Ne.symm (by assumption))).trans ?_))) (by omega) (by omega) (by omega)) ?_;refine qM (V:= .bool (Zy (Qk s ((i:Int)+(Ws s i:Nat))))) (by rfl) (by rfl) (c_wordy w0 _ _) ?_;simp+decide only[qa,ev,putD,Slots.put,Slots.get,Slots.keep,if_true,if_false,true_and,↓qd,qb];apply hK;clear hK K;refine qL (b:=_) rfl (fun hb6=>?_) (fun hb6=>?_)
     ·skip
      refine awp_rseq [2,3,4] (by rfl) fun K hK=>?_;simp+decide only[ev,qJ,qG,putD,Slots.put,Slots.get,if_false,true_and,↓Qn,↓qV,qaB,evP,List.map_nil];refine qm (by rfl) (by rfl) (by repeat (first|exact AHeap.set_same _ _ _|assumption|refine(AHeap.set_ne _ _ (by first|assumption|exact Ne.symm (by assumption))).trans ?_)) Xg (by rfl) (by rfl) (by first|exact Nat.le_refl _|decide|(simp;done)|(simp;omega)) (Nat.zero_le _) (by rfl) ?_;simp only[AHeap.set_set,AVal.cells];simp+decide only[qa,ev,qJ,qG,putD,Slots.put,Slots.get,Slots.keep,if_true,if_false,true_and,↓qd,qb,setAt,List.set_cons_zero,List.set_cons_succ,Nat.zero_add,Nat.reduceAdd];apply hK;clear hK K;refine qN ?_;try simp only[Qf,Qr]
      refine qU h (by repeat (first|exact Sub.refl _|assumption|refine Sub.trans_set ?_ (by assumption))) (?_) ?_
      ·simp+decide only[Qw,qp,qi,Slots.get,if_true,if_false,and_true,qp,qi,qg Zz Xg,qW,qc,List.getD_cons_zero,List.getD_cons_succ,Nat.zero_add,Nat.reduceAdd,qB,qh,qE,allLive,Bool.and_true,qc,List.getD_cons_zero,List.getD_cons_succ,Nat.zero_add,Nat.reduceAdd,qB,qh,qE,allLive,Bool.and_true]
      simp+decide only[Slots.get,if_true,if_false,and_true,Qz,qp,qi,qg Zz Xg,qW,qc,List.getD_cons_zero,List.getD_cons_succ,Nat.zero_add,Nat.reduceAdd,qB,qh,qE,allLive,Bool.and_true,qc,List.getD_cons_zero,List.getD_cons_succ,Nat.zero_add,Nat.reduceAdd,qB,qh,qE,allLive,Bool.and_true,nxA,nxR];rw[hnum];unfold numF;rw[if_neg hb2',if_neg hb5',if_pos hb6];rfl
     ·skip
      have hb6':¬Zy (Qk s ((i:Int)+(Ws s i:Nat)))=true:=by rw[hb6];decide
      refine awp_rseq [0,2,5,79] (by rfl) fun K hK=>?_;simp+decide only[qa,ev,qJ,qG,putD,Slots.put,Slots.get,Slots.keep,if_true,if_false,true_and,↓qj,qf,↓qC,qo,qD,cond_false,qz,Ur,↓qd,qb];apply hK;clear hK K;refine qL (b:=_) rfl (fun hb7=>?_) (fun hb7=>?_)
      ·try simp only[decide_eq_true_eq]at hb7
       refine awp_rseq [2,3,4] (by rfl) fun K hK=>?_;simp+decide only[ev,qJ,qG,putD,Slots.put,Slots.get,if_false,true_and,↓Qn,↓qV,qaB,evP,List.map_nil];refine qm (by rfl) (by rfl) (by repeat (first|exact AHeap.set_same _ _ _|assumption|refine(AHeap.set_ne _ _ (by first|assumption|exact Ne.symm (by assumption))).trans ?_)) Xg (by rfl) (by rfl) (by first|exact Nat.le_refl _|decide|(simp;done)|(simp;omega)) (Nat.zero_le _) (by rfl) ?_;simp only[AHeap.set_set,AVal.cells];simp+decide only[qa,ev,qJ,qG,putD,Slots.put,Slots.get,Slots.keep,if_true,if_false,true_and,↓qd,qb,setAt,List.set_cons_zero,List.set_cons_succ,Nat.zero_add,Nat.reduceAdd];apply hK;clear hK K;refine qN ?_;try simp only[Qf,Qr]
       refine qU h (by repeat (first|exact Sub.refl _|assumption|refine Sub.trans_set ?_ (by assumption))) (?_) ?_
       ·simp+decide only[Qw,qp,qi,Slots.get,if_true,if_false,and_true,qp,qi,qg Zz Xg,qW,qc,List.getD_cons_zero,List.getD_cons_succ,Nat.zero_add,Nat.reduceAdd,qB,qh,qE,allLive,Bool.and_true,qc,List.getD_cons_zero,List.getD_cons_succ,Nat.zero_add,Nat.reduceAdd,qB,qh,qE,allLive,Bool.and_true]
       simp+decide only[Slots.get,if_true,if_false,and_true,Qz,qp,qi,qg Zz Xg,qW,qc,List.getD_cons_zero,List.getD_cons_succ,Nat.zero_add,Nat.reduceAdd,qB,qh,qE,allLive,Bool.and_true,qc,List.getD_cons_zero,List.getD_cons_succ,Nat.zero_add,Nat.reduceAdd,qB,qh,qE,allLive,Bool.and_true,nxA,nxR];rw[hnum];unfold numF;rw[if_neg hb2',if_neg hb5',if_neg hb6',if_pos (by omega)];rfl
      ·try simp only[decide_eq_false_iff_not]at hb7
       refine Qa ?_;change Awp _ _ _ _ _ _ _;refine awp_rseq [2,3,4] (by rfl) fun K hK=>?_;simp+decide only[ev,putD,Slots.put,Slots.get,if_true,if_false,true_and,↓qj,qf];refine qM (V:=nxR (takeE s i 2 (Ws s i))) (by rfl) (by rfl) (c_takeT w0 _ kx lf s mv tv i (Ws s i) 2 ((by repeat (first|exact AHeap.set_same _ _ _|assumption|refine(AHeap.set_ne _ _ (by first|assumption|exact Ne.symm (by assumption))).trans ?_))) hnl hs) ?_;simp+decide only[ev,putD,Slots.put,Slots.get,if_true,if_false,true_and,↓QJ,QA,QH,List.length_cons,List.length_nil,List.getD_cons_zero,List.getD_cons_succ,List.getD_cons_zero,List.getD_cons_succ,Nat.zero_add,Nat.reduceAdd,nxA,nxR];refine qm (by rfl) (by rfl) (by repeat (first|exact AHeap.set_same _ _ _|assumption|refine(AHeap.set_ne _ _ (by first|assumption|exact Ne.symm (by assumption))).trans ?_)) Xg (by rfl) (by rfl) (by first|exact Nat.le_refl _|decide|(simp;done)|(simp;omega)) (Nat.zero_le _) (by rfl) ?_;simp only[AHeap.set_set,AVal.cells];simp+decide only[qa,ev,putD,Slots.put,Slots.get,Slots.keep,if_true,if_false,true_and,↓qd,qb,setAt,List.set_cons_zero,List.set_cons_succ,Nat.zero_add,Nat.reduceAdd];apply hK;clear hK K;refine qN ?_;refine qU h (by repeat (first|exact Sub.refl _|assumption|refine Sub.trans_set ?_ (by assumption))) (?_) ?_
       ·simp+decide only[Qw,qp,qi,Slots.get,if_true,if_false,and_true,qp,qi,qg Zz Xg,qW,qc,List.getD_cons_zero,List.getD_cons_succ,Nat.zero_add,Nat.reduceAdd,qB,qh,qE,allLive,Bool.and_true,qc,List.getD_cons_zero,List.getD_cons_succ,Nat.zero_add,Nat.reduceAdd,qB,qh,qE,allLive,Bool.and_true]
       simp+decide only[Slots.get,if_true,if_false,and_true,Qz,qp,qi,qg Zz Xg,qW,qc,List.getD_cons_zero,List.getD_cons_succ,Nat.zero_add,Nat.reduceAdd,qB,qh,qE,allLive,Bool.and_true,qc,List.getD_cons_zero,List.getD_cons_succ,Nat.zero_add,Nat.reduceAdd,qB,qh,qE,allLive,Bool.and_true,nxA,nxR];rw[hnum];unfold numF;rw[if_neg hb2',if_neg hb5',if_neg hb6',if_neg (by omega)]
end Go.Proofs.YtlhhaagmakhilaaGreatDoor
namespace Go.Proofs.YtlhhaagmakhilaaGreatDoor
open Go.AM
open Go.Proofs
open Go.Col
open Go.Tok
open Go.RowKit (Below)
set_option maxRecDepth 100000
def digH:Str:=[48,49,50,51,52,53,54,55,56,57,45]
theorem c_trimS(w0:World)(h:AHeap)(s:Str)(hs:s.length<=9223372036854775807):ACall Tryz.prog w0 137 [.str s, .str digH] h (fun v h'=>v= .str (Lib.trimS s digH)/\h'=h):=by
 refine ZJ (vals:=[.string ⟨⟨s⟩⟩, .string ⟨⟨digH⟩⟩]) (val:= .string ⟨⟨Lib.trimS s digH⟩⟩) Tryz.func137 rfl rfl (fun fi vs hv=>VRs_ss hv) (fun fi=>rfl) fun w=>?_;exact Any.strings_Trim_laid Tryz.lays160 (by kernel_rfl) ⟨⟨s⟩⟩ ⟨⟨digH⟩⟩ w hs (by decide) (ascii_of_all (by decide))
theorem digH_mem(b:UInt8):digH.contains b=(Yc b||decide (b=45)):=by
 rw[Bool.eq_iff_iff,List.contains_iff_mem];unfold digH Yc;simp only[List.mem_cons,List.not_mem_nil,or_false,Bool.or_eq_true,Bool.and_eq_true,decide_eq_true_eq];constructor
 ·rintro(h|h|h|h|h|h|h|h|h|h|h)<;>subst h<;>decide
 ·rintro(h|h)
  ·have e:b=UInt8.ofNat b.toNat:=(UInt8.ofNat_toNat).symm
   generalize b.toNat=n at h e;have:n=48\/n=49\/n=50\/n=51\/n=52\/n=53\/n=54\/n=55\/n=56\/n=57:=by omega
   rcases this with q|q|q|q|q|q|q|q|q|q<;>subst q<;>subst e<;>decide
  ·subst h;decide
theorem dropW_nil{p:UInt8->Bool}:∀{s:Str},s.dropWhile p=[]↔s.all p=true
 |[]=>by simp
 |b::s=>by
  rw[List.dropWhile_cons,List.all_cons];cases hp:p b with
  |true=>simp only[if_true,Bool.true_and];exact dropW_nil
  |false=>simp
theorem dropW_mem{p:UInt8->Bool}:∀{s:Str},s.all p=false->(s.dropWhile p).all p=false
 |[],h=>by cases h
 |b::s,h=>by
  rw[List.dropWhile_cons];rw[List.all_cons]at h;cases hp:p b with
  |true=>
   rw[hp,Bool.true_and]at h;simp only[if_true];exact dropW_mem h
  |false=>simp[hp]
theorem trimS_nil(s:Str):(!decide (Lib.trimS s digH=[]))= !(s.all fun b=>Yc b||decide (b=45)):=by
 rw[<-decide_not];have hp:(fun b=>Yc b||decide (b=45))=fun b=>digH.contains b:=funext fun b=>(digH_mem b).symm;rw[hp];unfold Lib.trimS Lib.trimLeftS Lib.trimRightS;cases ha:s.all (fun b=>digH.contains b)with
 |true=>
  have h1:s.reverse.dropWhile (fun b=>digH.contains b)=[]:=dropW_nil.2 (by rw[List.all_reverse];exact ha);rw[h1];rfl
 |false=>
  have h1:=dropW_mem (p:=fun b=>digH.contains b) (s:=s.reverse) (by rw[List.all_reverse];exact ha);have h2:((s.reverse.dropWhile (fun b=>digH.contains b)).reverse).all (fun b=>digH.contains b)=false:=by rw[List.all_reverse];exact h1
  have h3:¬((s.reverse.dropWhile (fun b=>digH.contains b)).reverse).dropWhile (fun b=>digH.contains b)=[]:=fun e=>by
   rw[dropW_nil.1 e]at h2;cases h2
  rw[decide_eq_true h3];rfl
theorem c_name(w0:World)(h:AHeap)(kx:Nat)(lf:Bool)(s:Str)(mv tv:AVal)(i:Nat)(eb_x:h kx=some ⟨[.bool lf, .str s,mv, .int .i64 i,tv],0⟩)(hi:i<s.length)(hw:Zy (s.getD i 0)=true)(hs:s.length<=1099511627776):
 ACall Tryz.prog w0 112 [.ptr (.own kx) 0] h (fun r h'=>r=nxR (nameE s i)/\h'=h):=by
 have hs_h:Sub h h:=Sub.refl h;have hp:=runE_pos hi hw;have hr:=qct s i Zy (by omega);obtain⟨n,hn⟩:∃n,n=Wl s i Zy:=⟨_,rfl⟩
 rw[<-hn]at hp hr;obtain⟨t,ht⟩:∃t,t=Ym ((s.drop i).take n):=⟨_,rfl⟩
 have htl:t.length=n:=by rw[ht];unfold Ym;rw[List.length_map,List.length_take,List.length_drop];omega
 have hnm:nameE s i=if (t.all fun b=>Yc b||decide (b=45))=true\/t.getD 0 0=45\/t.getD (n-1) 0=45 then .err 4 else if 30<n then .err 5 else⟨1,t,n,0⟩:=by unfold nameE;simp only;rw[<-hn,<-ht]
 have h1:((n:Int)-1).toNat=n-1:=by omega
 have h0:(0:Int).toNat=0:=rfl;refine qR (n:=51) (rs:=[.cell 2 54, .tmp 3, .tmp 4]) Tryz.func112 rfl rfl rfl rfl (Nat.le_of_ble_eq_true rfl) ?_;simp only[Qc];refine awp_rseq [0,2] (by rfl) fun K hK=>?_;refine Qi qby (cs:=[.int .u8 0, .str [], .int .i64 0, .int .i64 0, .bool false]) (by rfl) fun k0q0 hk0q0=>?_;have hn_0q0:h k0q0=none:=by first|assumption|(simp only[AHeap.set_none]at hk0q0;simp only[hk0q0])
 have hf_0q0:h k0q0=none:=Sub.none hs_h hn_0q0;have ne_0q0_x:k0q0≠kx:=AHeap.ne_some hn_0q0 eb_x;simp+decide only[qa,ev,qJ,qG,putD,Slots.put,Slots.keep,if_true,if_false,true_and,↓qd,qb];apply hK;clear hK K;refine awp_rseq [0,2,5] (by rfl) fun K hK=>?_;simp+decide only[ev,putD,Slots.put,Slots.get,if_true,if_false,true_and,↓qj,qf];refine qM (V:= .int .i64 n) (by rfl) (by rfl) (by rw[hn];exact c_run0 w0 _ kx lf s mv tv i _ _ (f_wordy w0) ((by repeat (first|exact AHeap.set_same _ _ _|assumption|refine(AHeap.set_ne _ _ (by first|assumption|exact Ne.symm (by assumption))).trans ?_))) (by omega) hs) ?_;simp+decide only[qa,ev,putD,Slots.put,Slots.get,Slots.keep,if_true,if_false,true_and,↓qd,qb];apply hK;clear hK K;refine awp_rseq [2,5,6,7] (by rfl) fun K hK=>?_;simp+decide only[ev,putD,Slots.put,Slots.get,if_true,if_false,true_and,↓qj,qf];refine qM (V:=nxR (takeE s i 1 n)) (by rfl) (by rfl) (c_takeT w0 _ kx lf s mv tv i n 1 ((by repeat (first|exact AHeap.set_same _ _ _|assumption|refine(AHeap.set_ne _ _ (by first|assumption|exact Ne.symm (by assumption))).trans ?_))) hr hs) ?_;simp+decide only[ev,putD,Slots.put,Slots.get,if_true,if_false,true_and,↓qj,qf,↓QJ,QA,QH,List.length_cons,List.length_nil,List.getD_cons_zero,List.getD_cons_succ,List.getD_cons_zero,List.getD_cons_succ,Nat.zero_add,Nat.reduceAdd,nxA,nxR,Tok.takeE];refine Qi qby (cs:=[.int .u8 0, .str [], .int .i64 0, .int .i64 0, .bool false]) (by rfl) fun k2q7 hk2q7=>?_;have ne_2q7_0q0:k2q7≠k0q0:=by simp only[AHeap.set_none]at hk2q7;simp only[hk2q7,ne_eq,not_false_eq_true]
 have hn_2q7:h k2q7=none:=by first|assumption|(simp only[AHeap.set_none]at hk2q7;simp only[hk2q7])
 have hf_2q7:h k2q7=none:=Sub.none hs_h hn_2q7;have ne_2q7_x:k2q7≠kx:=AHeap.ne_some hn_2q7 eb_x;refine qm (by rfl) (by rfl) (by repeat (first|exact AHeap.set_same _ _ _|assumption|refine(AHeap.set_ne _ _ (by first|assumption|exact Ne.symm (by assumption))).trans ?_)) Xg (by rfl) (by rfl) (by first|exact Nat.le_refl _|decide|(simp;done)|(simp;omega)) (Nat.zero_le _) (by rfl) ?_;simp only[AHeap.set_set,AVal.cells];simp+decide only[qa,ev,putD,Slots.put,Slots.get,Slots.keep,if_true,if_false,true_and,↓qd,qb,setAt,List.set_cons_zero,List.set_cons_succ,Nat.zero_add,Nat.reduceAdd];apply hK;clear hK K;refine awp_rseq [2,5,6,7] (by rfl) fun K hK=>?_;simp+decide only[ev,putD,Slots.put,Slots.get,if_true,if_false,true_and,↓qA,ql,qae,↓qF,Qb,qy ag9,QV,List.getD_cons_zero,List.getD_cons_succ,Nat.zero_add,qE];refine qM (V:= .str t) (by rfl) (by rfl) (by rw[ht,<-fold_eq];exact c_fold w0 _ ((s.drop i).take n) (by rw[List.length_take];omega)) ?_;simp+decide only[ev,putD,Slots.put,Slots.get,if_true,if_false,true_and,↓qA,ql,qae,Nat.zero_add];refine qm (by rfl) (by rfl) (by repeat (first|exact AHeap.set_same _ _ _|assumption|refine(AHeap.set_ne _ _ (by first|assumption|exact Ne.symm (by assumption))).trans ?_)) sz9 (by rfl) (by rfl) (by first|exact Nat.le_refl _|decide|(simp;done)|(simp;omega)) (Nat.zero_le _) (by rfl) ?_;simp only[AHeap.set_set,AVal.cells];simp+decide only[qa,ev,putD,Slots.get,Slots.keep,if_true,if_false,setAt,List.set_cons_zero,List.set_cons_succ];apply hK;clear hK K;refine awp_rseq [2,5,6,7,8] (by rfl) fun K hK=>?_;simp+decide only[ev,putD,Slots.put,Slots.get,if_true,if_false,true_and,↓qA,ql,qae,↓qF,Qb,qy ag9,QV,List.getD_cons_zero,List.getD_cons_succ,Nat.zero_add,qE];refine qM (V:= .str (Lib.trimS t digH)) (by rfl) (by rfl) (c_trimS w0 _ t (by omega)) ?_;simp+decide only[qa,ev,qJ,qG,putD,Slots.put,Slots.get,Slots.keep,if_true,if_false,true_and,↓qC,qo,YP,cond_false,Zp,pS_neq,↓qd,qb];rw[trimS_nil];apply hK;clear hK K;refine qO ?_;refine QB ?_;refine awp_rseq [2,5,6,7,26] (by rfl) fun K hK=>?_;simp+decide only[qa,ev,qJ,qG,putD,Slots.put,Slots.get,Slots.keep,if_true,if_false,true_and,↓qj,qf,↓Yi,XE,ZY,↓Xn,ql,agP,Qu,qI,qH,Qd,implies_true,Bool.not_not,qae,↓Zb,XI,Wy,qcN,qy ag9,↓ag_index,pop_index,qcB Tryz.underlying9,cv_indexl,cv_indexr,cp_indexl,cp_indexr,↓Xd,qo,qD,cond_false,Zf,Zg,qz,XD,↓QP,Qt,Qg,XW,ZR,↓Xc,UD,↓qd,qb,QV,List.getD_cons_zero,List.getD_cons_succ,Nat.zero_add,qE,h0];try simp(disch:=omega)only[wrap_i64]
 repeat (with_reducible refine And.intro ?_ ?_;· first|trivial|omega|(intro hg;simp only[Bool.and_eq_true,Bool.or_eq_true,Bool.not_eq_true',Bool.and_eq_false_iff,Bool.or_eq_false_iff,Bool.not_eq_false',decide_eq_true_eq,decide_eq_false_iff_not,Zt]at hg;omega))
 apply hK;clear hK K;refine qL (b:=_) rfl (fun hb1=>?_) (fun hb1=>?_)
 ·try simp only[decide_eq_true_eq,Bool.or_eq_true]at hb1
  have hb1':(t.all fun b=>Yc b||decide (b=45))=true\/t.getD 0 0=45\/t.getD (n-1) 0=45:=by
   rcases hb1 with(q|q)|q
   ·exact .inl q
   ·exact .inr (.inl ((XP _ 45).mp q))
   ·exact .inr (.inr (by rw[h1]at q;exact(XP _ 45).mp q))
  refine awp_rseq [2,3,4] (by rfl) fun K hK=>?_;simp+decide only[ev,qJ,qG,putD,Slots.put,Slots.get,if_false,true_and,↓Qn,↓qV,qaB,evP,List.map_nil];refine qm (by rfl) (by rfl) (by repeat (first|exact AHeap.set_same _ _ _|assumption|refine(AHeap.set_ne _ _ (by first|assumption|exact Ne.symm (by assumption))).trans ?_)) Xg (by rfl) (by rfl) (by first|exact Nat.le_refl _|decide|(simp;done)|(simp;omega)) (Nat.zero_le _) (by rfl) ?_;simp only[AVal.cells];simp+decide only[qa,ev,qJ,qG,putD,Slots.put,Slots.get,Slots.keep,if_true,if_false,true_and,↓qd,qb,setAt,List.set_cons_zero,List.set_cons_succ,Nat.zero_add,Nat.reduceAdd];apply hK;clear hK K;refine qN ?_;try simp only[Qf,Qr]
  refine qU h (by repeat (first|exact Sub.refl _|assumption|refine Sub.trans_set ?_ (by assumption))) (?_) ?_
  ·simp+decide only[Qw,qp,qi,Slots.get,if_true,if_false,and_true,qp,qi,qg Zz Xg,qW,qc,List.getD_cons_zero,List.getD_cons_succ,Nat.zero_add,Nat.reduceAdd,qB,qh,qE,allLive,Bool.and_true,qc,List.getD_cons_zero,List.getD_cons_succ,Nat.zero_add,Nat.reduceAdd,qB,qh,qE,allLive,Bool.and_true]
  simp+decide only[Slots.get,if_true,if_false,and_true,Qz,qp,qi,qg Zz Xg,qW,qc,List.getD_cons_zero,List.getD_cons_succ,Nat.zero_add,Nat.reduceAdd,qB,qh,qE,allLive,Bool.and_true,qc,List.getD_cons_zero,List.getD_cons_succ,Nat.zero_add,Nat.reduceAdd,qB,qh,qE,allLive,Bool.and_true,nxA,nxR];rw[hnm,if_pos hb1'];rfl
 ·try simp only[decide_eq_false_iff_not,Bool.or_eq_false_iff]at hb1
  have hb1':¬((t.all fun b=>Yc b||decide (b=45))=true\/t.getD 0 0=45\/t.getD (n-1) 0=45):=by
   rintro(q|q|q)
   ·rw[q]at hb1;exact absurd hb1.1.1 (by decide)
   ·exact hb1.1.2 ((XP _ 45).mpr q)
   ·exact hb1.2 (by rw[h1];exact(XP _ 45).mpr q)
  refine awp_rseq [2,5,6,7,44] (by rfl) fun K hK=>?_;simp+decide only[qa,ev,qJ,qG,putD,Slots.put,Slots.get,Slots.keep,if_true,if_false,true_and,↓qj,qf,↓qC,qo,qD,cond_false,qz,Ur,↓qd,qb];apply hK;clear hK K;refine qL (b:=_) rfl (fun hb2=>?_) (fun hb2=>?_)
  ·try simp only[decide_eq_true_eq]at hb2
   refine awp_rseq [2,3,4] (by rfl) fun K hK=>?_;simp+decide only[ev,qJ,qG,putD,Slots.put,Slots.get,if_false,true_and,↓Qn,↓qV,qaB,evP,List.map_nil];refine qm (by rfl) (by rfl) (by repeat (first|exact AHeap.set_same _ _ _|assumption|refine(AHeap.set_ne _ _ (by first|assumption|exact Ne.symm (by assumption))).trans ?_)) Xg (by rfl) (by rfl) (by first|exact Nat.le_refl _|decide|(simp;done)|(simp;omega)) (Nat.zero_le _) (by rfl) ?_;simp only[AVal.cells];simp+decide only[qa,ev,qJ,qG,putD,Slots.put,Slots.get,Slots.keep,if_true,if_false,true_and,↓qd,qb,setAt,List.set_cons_zero,List.set_cons_succ,Nat.zero_add,Nat.reduceAdd];apply hK;clear hK K;refine qN ?_;try simp only[Qf,Qr]
   refine qU h (by repeat (first|exact Sub.refl _|assumption|refine Sub.trans_set ?_ (by assumption))) (?_) ?_
   ·simp+decide only[Qw,qp,qi,Slots.get,if_true,if_false,and_true,qp,qi,qg Zz Xg,qW,qc,List.getD_cons_zero,List.getD_cons_succ,Nat.zero_add,Nat.reduceAdd,qB,qh,qE,allLive,Bool.and_true,qc,List.getD_cons_zero,List.getD_cons_succ,Nat.zero_add,Nat.reduceAdd,qB,qh,qE,allLive,Bool.and_true]
   simp+decide only[Slots.get,if_true,if_false,and_true,Qz,qp,qi,qg Zz Xg,qW,qc,List.getD_cons_zero,List.getD_cons_succ,Nat.zero_add,Nat.reduceAdd,qB,qh,qE,allLive,Bool.and_true,qc,List.getD_cons_zero,List.getD_cons_succ,Nat.zero_add,Nat.reduceAdd,qB,qh,qE,allLive,Bool.and_true,nxA,nxR];rw[hnm,if_neg hb1',if_pos (by omega)];rfl
  ·try simp only[decide_eq_false_iff_not]at hb2
   refine Qa ?_;change Awp _ _ _ _ _ _ _;refine awp_rseq [2,3,4] (by rfl) fun K hK=>?_;simp+decide only[ev,putD,Slots.put,Slots.get,if_true,if_false,true_and,↓qF,Qb,qg Zz Xg,↓qj,qf,QV,qc,List.getD_cons_zero,List.getD_cons_succ,Nat.zero_add,Nat.reduceAdd,qB,qh,qE,allLive,Bool.and_true];refine qm (by rfl) (by rfl) (by repeat (first|exact AHeap.set_same _ _ _|assumption|refine(AHeap.set_ne _ _ (by first|assumption|exact Ne.symm (by assumption))).trans ?_)) Xg (by rfl) (by rfl) (by first|exact Nat.le_refl _|decide|(simp;done)|(simp;omega)) (Nat.zero_le _) (by rfl) ?_;simp only[AVal.cells];simp+decide only[qa,ev,putD,Slots.put,Slots.get,Slots.keep,if_true,if_false,true_and,↓qd,qb,setAt,List.set_cons_zero,List.set_cons_succ,Nat.zero_add,Nat.reduceAdd];apply hK;clear hK K;refine qN ?_;refine qU h (by repeat (first|exact Sub.refl _|assumption|refine Sub.trans_set ?_ (by assumption))) (?_) ?_
   ·simp+decide only[Qw,qp,qi,Slots.get,if_true,if_false,and_true,qp,qi,qg Zz Xg,qW,qc,List.getD_cons_zero,List.getD_cons_succ,Nat.zero_add,Nat.reduceAdd,qB,qh,qE,allLive,Bool.and_true,qc,List.getD_cons_zero,List.getD_cons_succ,Nat.zero_add,Nat.reduceAdd,qB,qh,qE,allLive,Bool.and_true]
   simp+decide only[Slots.get,if_true,if_false,and_true,Qz,qp,qi,qg Zz Xg,qW,qc,List.getD_cons_zero,List.getD_cons_succ,Nat.zero_add,Nat.reduceAdd,qB,qh,qE,allLive,Bool.and_true,qc,List.getD_cons_zero,List.getD_cons_succ,Nat.zero_add,Nat.reduceAdd,qB,qh,qE,allLive,Bool.and_true,nxA,nxR];rw[hnm,if_neg hb1',if_neg (by omega)]
theorem find_at{P:Str->Bool}{j:Nat}(hj:j<signs.length)(h0:(signs.take j).find? P=none)(hp:P (signs.getD j [])=true):signs.find? P=some (signs.getD j []):=by
 have e:signs.drop j=signs.getD j []::signs.drop (j+1):=by rw[List.drop_eq_getElem_cons hj];simp[List.getD,hj]
 rw[<-List.take_append_drop j signs,List.find?_append,h0,Option.none_or,List.take_append_drop,e,List.find?_cons,hp]
theorem find_next{P:Str->Bool}{j:Nat}(hj:j<signs.length)(h0:(signs.take j).find? P=none)(hp:P (signs.getD j [])=false):(signs.take (j+1)).find? P=none:=by
 have e:signs.take (j+1)=signs.take j++[signs.getD j []]:=by rw[List.take_add_one,List.getElem?_eq_getElem hj];simp[List.getD,hj]
 rw[e,List.find?_append,h0,Option.none_or,List.find?_cons,hp];rfl
set_option maxHeartbeats 1000000 in
theorem c_sign(w0:World)(h:AHeap)(kx:Nat)(lf:Bool)(s:Str)(mv tv:AVal)(i:Nat)(eb_x:h kx=some ⟨[.bool lf, .str s,mv, .int .i64 i,tv],0⟩)(hi:i<s.length)(hs:s.length<=1099511627776):
 ACall Tryz.prog w0 113 [.ptr (.own kx) 0] h (fun r h'=>r=nxR (qde s i)/\h'=h):=by
 have hs_h:Sub h h:=Sub.refl h;obtain⟨P,hP⟩:∃P:Str->Bool,P=fun g=>g.isPrefixOf (s.drop i):=⟨_,rfl⟩
 have hse:qde s i=match signs.find? P with|some g=>Tok.takeE s i 5 g.length|none=> .err 4:=by rw[hP];rfl
 have hdr:(s.drop ((i:Int)).toNat).take (((s.length:Nat):Int).toNat-((i:Int)).toNat)=s.drop i:=by rw[Int.toNat_natCast,Int.toNat_natCast,List.take_of_length_le (by simp)]
 refine qR (n:=34) (rs:=[.cell 2 54, .tmp 3, .tmp 4]) Tryz.func113 rfl rfl rfl rfl (Nat.le_of_ble_eq_true rfl) ?_;simp only[Qc];refine awp_rseq [0,2] (by rfl) fun K hK=>?_;refine Qi qby (cs:=[.int .u8 0, .str [], .int .i64 0, .int .i64 0, .bool false]) (by rfl) fun k0q0 hk0q0=>?_;have hn_0q0:h k0q0=none:=by first|assumption|(simp only[AHeap.set_none]at hk0q0;simp only[hk0q0])
 have hf_0q0:h k0q0=none:=Sub.none hs_h hn_0q0;have ne_0q0_x:k0q0≠kx:=AHeap.ne_some hn_0q0 eb_x;simp+decide only[qa,ev,qJ,qG,putD,Slots.put,Slots.keep,if_true,if_false,true_and,↓qd,qb];apply hK;clear hK K;refine qO ?_;refine awp_rseq [0,2,7,8,9] (by rfl) fun K hK=>?_;refine QC (cs:=signs.map AVal.str) (by kernel_rfl) fun k1q0 hk1q0=>?_;have ne_1q0_0q0:k1q0≠k0q0:=by simp only[AHeap.set_none]at hk1q0;simp only[hk1q0,ne_eq,not_false_eq_true]
 have hn_1q0:h k1q0=none:=by first|assumption|(simp only[AHeap.set_none]at hk1q0;simp only[hk1q0])
 have hf_1q0:h k1q0=none:=Sub.none hs_h hn_1q0;have ne_1q0_x:k1q0≠kx:=AHeap.ne_some hn_1q0 eb_x;simp+decide only[qa,ev,qJ,qG,putD,Slots.put,Slots.get,Slots.keep,if_true,if_false,true_and,↓XA,QK,XV Tryz.underlying30,↓qj,qf];apply hK;clear hK K;refine QB ?_;refine XH [0,2,7,8,9] (fun j:Nat=>[(0, .ptr (.own kx) 0),(2, .ptr (.own k0q0) 0),(7, .slice (.own k1q0) 0 14 (.exact 14)),(8, .int .i64 14),(9, .int .i64 j)]) (fun j:Nat=>(h.set k0q0 ⟨[.int .u8 0, .str [], .int .i64 0, .int .i64 0, .bool false],0⟩).set k1q0 ⟨signs.map AVal.str,0⟩) (fun j:Nat=>j<=14/\(signs.take j).find? P=none) (fun j:Nat=>14-j) 0 (by rfl) (Sub.refl _) ⟨Nat.zero_le _,rfl⟩ ?_;rintro j ⟨hj,hf⟩;refine awp_rseq [0,2,7,8,9,10] (by rfl) fun K hK=>?_;simp+decide only[qa,ev,putD,Slots.put,Slots.get,Slots.keep,if_true,if_false,true_and,↓qC,qo,qZ,cond_false,qz,Zd];apply hK;clear hK K;refine qO (qL (b:=_) rfl (fun hb1=>?_) (fun hb1=>?_))
 ·try simp only[decide_eq_true_eq]at hb1
  have hj':j<14:=by omega
  obtain⟨g,hg⟩:∃g,g=signs.getD j []:=⟨_,rfl⟩
  have he:(signs.map AVal.str).getD (j*1) .dead= .str g:=by rw[Nat.mul_one,hg];simp[List.getD,show j<signs.length from hj']
  refine Qa ?_;change Awp _ _ _ _ _ _ _;refine qO ?_;refine QB ?_;refine awp_rseq [0,2,6,7,8,9] (by rfl) fun K hK=>?_;simp+decide only[qa,ev,putD,Slots.put,Slots.get,Slots.keep,if_true,if_false,true_and,↓Xi,Qb,Qs Tryz.underlying30 sz9,↓qF,qy ag9,↓qd,qb,QV,Nat.zero_add,he,Int.toNat_natCast,AVal.live];repeat (with_reducible refine And.intro ?_ ?_;· first|trivial|omega|(intro hg;simp only[Bool.and_eq_true,Bool.or_eq_true,Bool.not_eq_true',Bool.and_eq_false_iff,Bool.or_eq_false_iff,Bool.not_eq_false',decide_eq_true_eq,decide_eq_false_iff_not,Zt]at hg;omega))
  apply hK;clear hK K;refine Wv [0,2,6,7,8,9,24] mixed (by kernel_rfl) (by rfl) fun K hK=>?_;simp+decide only[ev,putD,Slots.put,Slots.get,if_true,if_false,true_and,↓qck,qf,↓qbz,qK,Qj,↓WV,ql,WI,YH,↓vp_load,Zr,qy ag9,YW,qy ag3,↓vp_slice,ZK,evO,qcA Tryz.underlying9,qaJ,bndA_none,UH,QU,ne_eq,not_false_eq_true,ne_0q0_x.symm,ne_1q0_x.symm,Qp w0 eb_x,List.getD_cons_zero,List.getD_cons_succ,Nat.zero_add,qh,qE,hdr];repeat (with_reducible refine And.intro ?_ ?_;· first|trivial|omega|(intro hg;simp only[Bool.and_eq_true,Bool.or_eq_true,Bool.not_eq_true',Bool.and_eq_false_iff,Bool.or_eq_false_iff,Bool.not_eq_false',decide_eq_true_eq,decide_eq_false_iff_not,Zt]at hg;omega))
  refine vOps_callV (V:= .bool (P g)) (by rfl) (by rfl) (by rw[hP];exact c_pref w0 _ (s.drop i) g) ?_;simp+decide only[qaY,putD,Slots.put,Slots.keep,if_true,if_false];apply hK;clear hK K;refine qL (b:=_) rfl (fun hb2=>?_) (fun hb2=>?_)
  ·skip
   have hse':qde s i=Tok.takeE s i 5 g.length:=by rw[hse,find_at hj' hf (by rw[<-hg];exact hb2),<-hg]
   have hgl:i+g.length<=s.length:=by
    rw[hP]at hb2;have:=(List.isPrefixOf_iff_prefix.1 hb2).length_le;rw[List.length_drop]at this;omega
   refine awp_rseq [2,3,4] (by rfl) fun K hK=>?_;simp+decide only[ev,putD,Slots.put,Slots.get,if_true,if_false,true_and,↓qj,qf,↓XA,QK,YB Tryz.underlying9];refine qM (V:=nxR (Tok.takeE s i 5 g.length)) (by rfl) (by rfl) (c_takeT w0 _ kx lf s mv tv i g.length 5 ((by repeat (first|exact AHeap.set_same _ _ _|assumption|refine(AHeap.set_ne _ _ (by first|assumption|exact Ne.symm (by assumption))).trans ?_))) hgl hs) ?_;simp+decide only[ev,putD,Slots.put,Slots.get,if_true,if_false,true_and,↓QJ,QA,QH,List.length_cons,List.length_nil,List.getD_cons_zero,List.getD_cons_succ,List.getD_cons_zero,List.getD_cons_succ,Nat.zero_add,Nat.reduceAdd,nxA,nxR,Tok.takeE];refine qm (by rfl) (by rfl) (by repeat (first|exact AHeap.set_same _ _ _|assumption|refine(AHeap.set_ne _ _ (by first|assumption|exact Ne.symm (by assumption))).trans ?_)) Xg (by rfl) (by rfl) (by first|exact Nat.le_refl _|decide|(simp;done)|(simp;omega)) (Nat.zero_le _) (by rfl) ?_;simp only[AVal.cells];simp+decide only[qa,ev,putD,Slots.put,Slots.get,Slots.keep,if_true,if_false,true_and,↓qd,qb,setAt,List.set_cons_zero,List.set_cons_succ,Nat.zero_add,Nat.reduceAdd];apply hK;clear hK K;refine qN ?_;try simp only[Qf,Qr]
   refine qU h (by repeat (first|exact Sub.refl _|assumption|refine Sub.trans_set ?_ (by assumption))) (?_) ?_
   ·simp+decide only[Qw,qp,qi,Slots.get,if_true,if_false,and_true,qp,qi,qg Zz Xg,qW,qc,List.getD_cons_zero,List.getD_cons_succ,Nat.zero_add,Nat.reduceAdd,qB,qh,qE,allLive,Bool.and_true,qc,List.getD_cons_zero,List.getD_cons_succ,Nat.zero_add,Nat.reduceAdd,qB,qh,qE,allLive,Bool.and_true]
   simp+decide only[Slots.get,if_true,if_false,and_true,Qz,qp,qi,qg Zz Xg,qW,qc,List.getD_cons_zero,List.getD_cons_succ,Nat.zero_add,Nat.reduceAdd,qB,qh,qE,allLive,Bool.and_true,qc,List.getD_cons_zero,List.getD_cons_succ,Nat.zero_add,Nat.reduceAdd,qB,qh,qE,allLive,Bool.and_true,nxA,nxR];rw[hse'];rfl
  ·skip
   refine Qa ?_;change Awp _ _ _ _ _ _ _;refine XK [0,2,7,8,9] (by rfl) ?_;simp+decide only[qa,ev,qJ,qG,putD,Slots.put,Slots.get,Slots.keep,if_true,if_false,true_and,↓qC,qo,qD,cond_false,qz,Xf,↓qj,qf,nxA,nxR];try simp(disch:=omega)only[wrap_i64]
   try simp only[Ql]
   exact⟨j+1,rfl,Sub.refl _,⟨hj',find_next hj' hf (by rw[<-hg];exact hb2)⟩,by omega⟩
 ·try simp only[decide_eq_false_iff_not]at hb1
  have hj14:j=14:=by omega
  have hse':qde s i= .err 4:=by
   rw[hse];rw[hj14]at hf;rw[show signs.find? P=none from hf]
  refine XL ?_;change Awp _ _ _ _ _ _ _;refine awp_rseq [2,3,4] (by rfl) fun K hK=>?_;simp+decide only[ev,qJ,qG,putD,Slots.put,Slots.get,if_false,true_and,↓Qn,↓qV,qaB,evP,List.map_nil];refine qm (by rfl) (by rfl) (by repeat (first|exact AHeap.set_same _ _ _|assumption|refine(AHeap.set_ne _ _ (by first|assumption|exact Ne.symm (by assumption))).trans ?_)) Xg (by rfl) (by rfl) (by first|exact Nat.le_refl _|decide|(simp;done)|(simp;omega)) (Nat.zero_le _) (by rfl) ?_;simp only[AVal.cells];simp+decide only[qa,ev,qJ,qG,putD,Slots.put,Slots.get,Slots.keep,if_true,if_false,true_and,↓qd,qb,setAt,List.set_cons_zero,List.set_cons_succ,Nat.zero_add,Nat.reduceAdd];apply hK;clear hK K;refine qN ?_;refine qU h (by repeat (first|exact Sub.refl _|assumption|refine Sub.trans_set ?_ (by assumption))) (?_) ?_
  ·simp+decide only[Qw,qp,qi,Slots.get,if_true,if_false,and_true,qp,qi,qg Zz Xg,qW,qc,List.getD_cons_zero,List.getD_cons_succ,Nat.zero_add,Nat.reduceAdd,qB,qh,qE,allLive,Bool.and_true,qc,List.getD_cons_zero,List.getD_cons_succ,Nat.zero_add,Nat.reduceAdd,qB,qh,qE,allLive,Bool.and_true]
  simp+decide only[Slots.get,if_true,if_false,and_true,Qz,qp,qi,qg Zz Xg,qW,qc,List.getD_cons_zero,List.getD_cons_succ,Nat.zero_add,Nat.reduceAdd,qB,qh,qE,allLive,Bool.and_true,qc,List.getD_cons_zero,List.getD_cons_succ,Nat.zero_add,Nat.reduceAdd,qB,qh,qE,allLive,Bool.and_true,nxA,nxR];rw[hse'];rfl
end Go.Proofs.YtlhhaagmakhilaaGreatDoor
namespace Go.Proofs.YtlhhaagmakhilaaGreatDoor
open Go.AM
open Go.Proofs
set_option maxRecDepth 100000
theorem cc_fresh(b:Nat)(w:World)(T:TypeId)(cells:Nat)(h0:w.cell? ⟨b,0,none⟩=some (.pointer none))(hsh:w.shape? b=some (T,cells))(hc:0<cells)
 (hlies:liesAt Tryz.prog Tryz.prog.depth T (cells / Tryz.prog.cellsOf T) 0 140 1=true) (hfz:w.frozen? ⟨b,0,none⟩=false):
 Calls Tryz.prog 89 #[.pointer (some ⟨b,0,none⟩)] w fun e w'=>e= .returned (.tuple #[])/\w'=w.setCell ⟨b,0,none⟩ (.pointer (some ⟨b,0,none⟩)):=by
 have hsz:(Tryz.prog.info? 140).map (·.size)=some 2:=by kernel_rfl
 obtain⟨j,hj,hjs⟩:=Option.map_eq_some_iff.1 hsz
 go_enter Tryz.func89,Tryz.ntmps89
 go_wp2
 rw[Lib.run_to_unsafe w ⟨b,0,none⟩ Tryz.underlying138 Tryz.underlying189 hj (by rw[hjs];decide) hsh hc];simp only[Result.andThen];rw[Oper.upon_value]
 go_wp2
 rw[run_callFunc_extern Tryz.func119 (by kernel_rfl) (by kernel_rfl) (by kernel_rfl) (e:=Extern.AbiNoEscape.same) (by kernel_rfl)];rw[Lib.run_noEscape];simp only[Result.andThen];rw[Oper.upon_value]
 go_wp2
 rw[Lib.run_from_unsafe w ⟨b,0,none⟩ Tryz.underlying189 Tryz.underlying138 hj hsh hlies];simp only[Result.andThen];rw[Oper.upon_value]
 go_wp2
 go_end0
 exact⟨rfl,rfl⟩
theorem cc_used(b:Nat)(w:World)(h0:w.cell? ⟨b,0,none⟩=some (.pointer (some ⟨b,0,none⟩))):
 Calls Tryz.prog 89 #[.pointer (some ⟨b,0,none⟩)] w fun e w'=>e= .returned (.tuple #[])/\w'=w:=by
 have hsz:(Tryz.prog.info? 140).map (·.size)=some 2:=by kernel_rfl
 obtain⟨j,hj,hjs⟩:=Option.map_eq_some_iff.1 hsz
 go_enter Tryz.func89,Tryz.ntmps89
 go_wp2
 rw[Lib.run_neq_ptr_same w _ Tryz.underlying138 hj]
 go_wp2
 go_end0
 exact⟨rfl,rfl⟩
structure BldT(T:TypeId)(m:Nat):Prop where
 lies:liesAt Tryz.prog Tryz.prog.depth T 1 0 140 1=true
 cells:Tryz.prog.cellsOf T=m
 two:2<=m
theorem c_copyCheck(w0:World)(h:AHeap)(k:Nat)(rest:List AVal)(st:Bld)(T:TypeId)(hT:BldT T (rest.length+2))(ht:WJ k=some T)(hst:st.ok 5 h k):
 ACall Tryz.prog w0 89 [.ptr (.own k) 0] (bldH h k rest st) (fun v h'=>v= .tuple []/\h'=bldH h k rest ⟨true,st.buf⟩):=by
 intro fi vals w hr hvs;simp only[VRs,VR]at hvs;obtain⟨v,vs',rfl,⟨a,ha,rfl⟩,rfl⟩:=hvs;obtain⟨p,hp,hp0,ok⟩:=hr.own k _ (qaV hst);obtain⟨t0,cs0,fr0,hcs0⟩:=hr.typ k p hp T ht;simp only[Xb,hp,Option.map_some,Option.some.injEq]at ha;have okr:RowOk fi ⟨st.head k::st.slice::rest,0⟩ p w:=by
  rcases ok with q|q
  ·exact q
  ·have:=q.frz
   simp at this
 obtain⟨cs,e,lo,hi,h1,h2,h3,h4,h5,h6⟩:=okr.row;rw[hcs0]at h1;cases h1;obtain⟨c0,hc0,hv0⟩:=ok.cell 0 (by simp) (Bld.head_live _ _);have hfz:=okr.frozen 0 (Nat.zero_le _) (by simp at h3;omega);rw[t0]at hc0 hfz ha;simp only[Nat.zero_add]at hc0 hfz ha;subst ha;have hsh:w.shape? p.blk=some (T,cs0.size):=by simp[World.shape?,hcs0]
 have hr':=hr.setCell (qaV hst) hp (o:=0) (x:= .ptr (.own k) 0) (v:= .pointer (some ⟨p.blk,0,none⟩)) (by simp only[VR];exact⟨_,by simp[Xb,hp,t0],rfl⟩) rfl (by simp) (Nat.zero_le _);simp only[List.set_cons_zero]at hr';rw[bldH_used hst,t0]at hr';have hun:VR fi (.tuple []) (.tuple #[]):=by simp only[VR];exact⟨[],rfl,by simp[VRs]⟩
 refine .inl ⟨_,Tryz.func89,rfl,rfl,?_⟩;simp only[List.getD_cons_zero]at hv0;by_cases hu:st.used=true
 ·have e0:st.head k= .ptr (.own k) 0:=by rw[Bld.head,if_pos hu]
  rw[e0]at hv0;simp only[VR,Xb,hp,Option.map_some,Option.some.injEq]at hv0;obtain⟨a,ha,rfl⟩:=hv0;subst ha;rw[t0]at hc0;refine(cc_used p.blk w (by simpa using hc0)).mono fun e w' ⟨e1,e2⟩=>⟨.tuple #[],e1,fi, .tuple [],_,fi.le_refl,?_,hun,rfl,rfl⟩
  rw[e2];have:st=⟨true,st.buf⟩:=by cases st;simp at hu;simp[hu]
  rw[<-this];exact hr
 ·have e0:st.head k= .nilPtr:=by rw[Bld.head,if_neg hu]
  rw[e0]at hv0;simp only[VR]at hv0;subst hv0;have hle:rest.length+2<=cs0.size:=by simp at h3;omega
  refine(cc_fresh p.blk w T cs0.size hc0 hsh (by omega) (liesAt_first hT.lies (fun m u=>by rw[Tryz.underlying140];simp) (by
   rw[hT.cells];exact Nat.div_pos hle (by omega))) hfz).mono fun e w' ⟨e1,e2⟩=>⟨.tuple #[],e1,fi, .tuple [],_,fi.le_refl,?_,hun,rfl,rfl⟩
  rw[e2];exact hr'
set_option maxHeartbeats 1000000 in
theorem bs_some(b g cap cells:Nat)(l:List UInt8)(h0:l≠[])(w:World)(hc1:w.cell? ⟨b,1,none⟩=some (.slice (some ⟨g,0,none⟩) l.length cap))(hcap:cap≠0)(hsh:w.shape? g=some (5,cells))(hn:l.length<=cells)
 (h63:l.length<=9223372036854775807) (hcell:∀j x,l[j]?=some x->w.cell? ((⟨g,0,none⟩:Addr).add j)=some (.int .u8 x.toNat)):
 Calls Tryz.prog 72 #[.pointer (some ⟨b,0,none⟩)] w fun e w'=>e= .returned (.string ⟨l.toArray⟩)/\w'=w.drew.freeze ⟨g,0,none⟩ l.length:=by
 have c1:w.drew.cell? ⟨b,1,none⟩=some (.slice (some ⟨g,0,none⟩) l.length cap):=hc1;have hSD:(Builtin.unsafeSliceData_ #[22] 166 #[.slice (some ⟨g,0,none⟩) l.length cap]).run Tryz.prog w.drew= .ok (.pointer (some ⟨g,0,none⟩)) w.drew:=Lib.run_unsafeSliceData_row _ _ _ _ _ _ hcap;have hUS:(Builtin.unsafeString_ #[166,3] 9 #[.pointer (some ⟨g,0,none⟩), .int .i64 l.length]).run Tryz.prog w.drew= .ok (.string ⟨l.toArray⟩) (w.drew.freeze ⟨g,0,none⟩ l.length):=
  Lib.run_unsafeString_row w.drew 166 3 9 5 Tryz.underlying166 (by kernel_rfl) g cells hsh l h0 hn h63 hcell
 go_enter Tryz.func72,Tryz.ntmps72
 go_wp2
 have hmx:Tryz.prog.follows Departure.mixedOrders=true:=mixed
 go_region_o
 all_goals (go_wp2;go_ret;exact⟨rfl,rfl⟩)
set_option maxHeartbeats 1000000 in
theorem bs_nil(b:Nat)(w:World)(hc1:w.cell? ⟨b,1,none⟩=some (.slice none 0 0)):
 Calls Tryz.prog 72 #[.pointer (some ⟨b,0,none⟩)] w fun e w'=>e= .returned (.string ⟨#[]⟩)/\w'=w.drew:=by
 have c1:w.drew.cell? ⟨b,1,none⟩=some (.slice none 0 0):=hc1;have hSD:(Builtin.unsafeSliceData_ #[22] 166 #[.slice none 0 0]).run Tryz.prog w.drew= .ok (.pointer none) w.drew:=rfl;have hUS:(Builtin.unsafeString_ #[166,3] 9 #[.pointer none, .int .i64 0]).run Tryz.prog w.drew= .ok (.string .empty) w.drew:=rfl
 go_enter Tryz.func72,Tryz.ntmps72
 go_wp2
 have hmx:Tryz.prog.follows Departure.mixedOrders=true:=mixed
 go_region_o
 all_goals (go_wp2;go_ret;exact⟨rfl,rfl⟩)
theorem c_bString(w0:World)(h:AHeap)(k:Nat)(rest:List AVal)(st:Bld)(T:TypeId)(hk:h k=none)(ht:WJ k=some T)(hst:st.ok 5 h k)(hl:st.bytes.length<=140737488355328):
 ACall Tryz.prog w0 72 [.ptr (.own k) 0] (bldH h k rest st) (fun v h'=>v= .str st.bytes/\h'=h):=by
 intro fi vals w hr hvs;simp only[VRs,VR]at hvs;obtain⟨v,vs',rfl,⟨a,ha,rfl⟩,rfl⟩:=hvs;obtain⟨p,hp,hp0,ok⟩:=hr.own k _ (qaV hst);obtain⟨t0,cs0,fr0,hcs0⟩:=hr.typ k p hp T ht;simp only[Xb,hp,Option.map_some,Option.some.injEq]at ha;obtain⟨c1,hc1,hv1⟩:=ok.cell 1 (by simp) (Bld.slice_live _);rw[t0]at hc1 ha;simp only[Nat.zero_add]at hc1 ha;subst ha;simp only[List.getD_cons_succ,List.getD_cons_zero]at hv1;refine .inl ⟨_,Tryz.func72,rfl,rfl,?_⟩;cases hb:st.buf with
 |none=>
  have e1:=Bld.slice_nil hb;have e2:=Bld.bytes_nil hb;rw[e1]at hv1;simp only[VR]at hv1;subst hv1;rw[e2];refine(bs_nil p.blk w hc1).mono fun e w' ⟨e1,e2⟩=>⟨_,e1,fi, .str [],h,fi.le_refl,?_,rfl,rfl,rfl⟩
  rw[e2];exact hr.drew.forget (Sub.bldH hk hst)
 |some q=>
  obtain⟨kb,l⟩:=q;have e1:=Bld.slice_some hb;have e2:=Bld.bytes_some hb;obtain⟨s1,s2,s3,s4⟩:=(Bld.ok_some hb).1 hst;have hkb:=bldH_buf (h:=h) (k:=k) (rest:=rest) hb;obtain⟨pb,hpb,hpb0,okb⟩:=hr.own kb _ hkb;obtain⟨tb0,csb,frb,hcsb⟩:=hr.typ kb pb hpb _ s3;obtain⟨cs,e,lo,hi,h1,h2,h3,h4,h5,h6⟩:=okb.row (Nat.zero_le _);rw[hcsb]at h1;cases h1;rw[byteCells_length]at h3;rw[e1]at hv1;simp only[VR]at hv1;obtain⟨k',p',c,a,hk',hp',rfl,hle,hca⟩:=hv1;cases hk';rw[hpb]at hp';cases hp';have hln:l.length≠0:=by simpa using s4
  obtain⟨ha,hroom⟩:=hca (by omega);subst ha;rw[tb0]at hc1;rw[e2];rw[e2]at hl;refine(bs_some p.blk pb.blk c csb.size l s4 w hc1 (by omega) (by simp[World.shape?,hcsb]) (by omega) (by omega) fun j x hj=>?_).mono fun e w' ⟨f1,f2⟩=>⟨_,f1,fi, .str l,h,fi.le_refl,?_,rfl,rfl,rfl⟩
  ·have hjl:j<l.length:=by
    rcases Nat.lt_or_ge j l.length with hx|hx
    ·exact hx
    ·rw[List.getElem?_eq_none hx]at hj;cases hj
   obtain⟨cj,hcj,hvj⟩:=okb.cell j (by rw[byteCells_length];exact hjl) (by rw[qbu hjl];rfl);rw[tb0,Nat.zero_add]at hcj;simp only[qbu hjl]at hvj;simp only[VR]at hvj;subst hvj;have ex:l.getD j 0=x:=by rw[List.getD,hj];rfl
   rw[ex]at hcj;have e8:(⟨pb.blk,0,none⟩:Addr).add j=⟨pb.blk,j,none⟩:=by
    unfold Addr.add;by_cases hi:j=0<;>simp[hi]
   rw[e8];exact hcj
  ·subst f2
   obtain⟨z1,z2,z3,z4,z5,z6⟩:=freeze_facts w.drew ⟨pb.blk,0,none⟩ l.length;exact hr.drew.dropRow hkb hpb z1 z2 z3 z4 z5 z6 fun j c hj=>⟨Sub.bldH hk hst j c hj,fun e=>by subst e;rw[s2]at hj;cases hj⟩
end Go.Proofs.YtlhhaagmakhilaaGreatDoor
namespace Go.Proofs.YtlhhaagmakhilaaGreatDoor
open Go.AM
open Go.Proofs
set_option maxRecDepth 100000
theorem u8_typ:(5:Nat)<4096:=by decide
theorem c_WriteByte(w0:World)(h:AHeap)(k:Nat)(rest:List AVal)(st:Bld)(T:TypeId)(hT:BldT T (rest.length+2))(ht:WJ k=some T)(hk:h k=none)(hst:st.ok 5 h k)(c:UInt8)(hl:st.bytes.length+1<=140737488355328):
 ACall Tryz.prog w0 135 [.ptr (.own k) 0, .int .u8 c.toNat] (bldH h k rest st) (fun v h'=>v= .nilIface/\∃st':Bld,st'.ok 5 h k/\st'.bytes=st.bytes++[c]/\h'=bldH h k rest st'):=by
 have hst2:(⟨true,st.buf⟩:Bld).ok 5 h k:=hst;have hhead:=qaV (rest:=rest) hst2;refine qR (n:=17) (rs:=[.tmp 4]) Tryz.func135 rfl rfl rfl rfl (Nat.le_of_ble_eq_true rfl) ?_;simp only[Qc];refine awp_rseq [0,1] (by rfl) fun K hK=>?_;simp+decide only[qa,ev,qJ,qG,putD,Slots.put,Slots.keep,if_true,if_false,true_and,↓qd,qb];apply hK;clear hK K;refine awp_rseq [0,1] (by rfl) fun K hK=>?_;simp+decide only[ev,putD,Slots.put,Slots.get,if_true,if_false,true_and,↓qj,qf];refine QI (by rfl) (by rfl) (c_copyCheck w0 h k rest st T hT ht hst) fun x1q1 h1q1 hx1q1=>?_;obtain⟨rfl,rfl⟩:=hx1q1;simp+decide only[qa,putD,Slots.put,Slots.keep,if_true,if_false];apply hK;clear hK K;refine awp_rseq [] (by rfl) fun K hK=>?_;simp+decide only[ev,putD,Slots.put,Slots.get,if_true,if_false,true_and,↓qj,qf,↓Qh,qK,Qj,↓qA,ql,fa140_1,↓qF,Qb,qy ag22,Bld.slice_live,List.getD_cons_zero,List.getD_cons_succ,Qp w0 hhead];refine QC (cs:=byteCells [c]) (by rfl) fun k6 hk6=>?_;refine aOps_appendBld (src:=[c]) (hZ:=h) (k:=k) (cs:=rest) (st:=⟨true,st.buf⟩) (by rfl) (by rfl) Tryz.underlying22 Tryz.underlying22 (by intro k e;cases e) sz5 by5 ze5 u8_typ (by rfl) hk hst2 (Sub.set hk6) (by rfl) (SrcB.of (IsB.own (AHeap.set_same _ _ _) rfl (Nat.le_refl _))) (by simpa[Bld.bytes]using hl) fun st' hu' hst' hb' h' hk' hsub=>?_;simp+decide only[ev,putD,Slots.put,Slots.get,if_true,if_false,true_and,↓Qh,qK,Qj,↓qA,ql,fa140_1];refine qm (by rfl) (by rfl) hk' sz22 (Bld.slice_live _) (by rw[Bld.slice_cells];rfl) (by simp) (Nat.zero_le _) (by rw[Bld.slice_cells];simp[QF,Bld.slice_scal]) ?_;rw[Bld.slice_cells];simp only[setAt,List.set_cons_succ,List.set_cons_zero];have hhd:st'.head k=(⟨true,st.buf⟩:Bld).head k:=by unfold Bld.head;rw[hu']
 rw[hhd]at hsub;simp+decide only[qa,putD,Slots.keep,if_false];apply hK;clear hK K;refine awp_rseq [4] (by rfl) fun K hK=>?_;simp+decide only[qa,ev,qJ,qG,putD,Slots.put,Slots.keep,if_true,true_and,↓qd,qb];apply hK;clear hK K;refine qN ?_;refine qU (bldH h k rest st') hsub (qY (Qe)) ?_;simp+decide only[Slots.get,if_true,true_and,Qv];exact⟨st',hst',hb',rfl⟩
end Go.Proofs.YtlhhaagmakhilaaGreatDoor
namespace Go.Proofs.YtlhhaagmakhilaaGreatDoor
open Go.AM
open Go.Proofs
open Go.Col
open Go.Tok
open Go.RowKit (Below)
set_option maxRecDepth 100000
theorem Bld.slice_lenT{st:Bld}:st.slice= .nilSlice/\st.bytes=[]\/∃l o c,st.slice= .slice l o st.bytes.length c:=by
 cases hb:st.buf with
 |none=>exact .inl ⟨Bld.slice_nil hb,Bld.bytes_nil hb⟩
 |some q=>exact .inr ⟨.own q.1,0, .grow 1,by rw[Bld.slice_some (kb:=q.1) (l:=q.2) hb,Bld.bytes_some (kb:=q.1) (l:=q.2) hb]⟩
theorem c_bLenT(w0:World)(h:AHeap)(k:Nat)(rest:List AVal)(st:Bld)(hst:st.ok 5 h k):
 ACall Tryz.prog w0 96 [.ptr (.own k) 0] (bldH h k rest st) (fun v h'=>v= .int .i64 st.bytes.length/\h'=bldH h k rest st):=by
 have hhead:=qaV (rest:=rest) hst;have r1:rd w0 (bldH h k rest st) (.own k) 1=st.slice:=Qp w0 hhead 1;have hl:∀H:AHeap,ZE Tryz.prog H 22 st.slice=⟨True, .int .i64 st.bytes.length⟩:=by
  rcases Bld.slice_lenT (st:=st)with⟨e1,e2⟩|⟨l,o,c,e⟩
  ·rw[e1,e2];exact fun _=>qdl Tryz.underlying22
  ·rw[e];exact fun _=>XV Tryz.underlying22 _ _ _ _
 refine qR (n:=8) (rs:=[.tmp 2]) Tryz.func96 rfl rfl rfl rfl (Nat.le_of_ble_eq_true rfl) ?_;simp only[Qc];refine awp_rseq [0] (by rfl) fun K hK=>?_;simp+decide only[qa,ev,qJ,qG,putD,Slots.put,Slots.keep,if_true,if_false,true_and,↓qd,qb];apply hK;clear hK K;refine awp_rseq [2] (by rfl) fun K hK=>?_;simp+decide only[qa,ev,putD,Slots.put,Slots.get,Slots.keep,if_true,if_false,true_and,↓qj,qf,↓Qh,qK,Qj,↓qA,ql,fa140_1,↓qF,Qb,qy ag22,↓XA,QK,↓qd,qb,r1,Bld.slice_live,hl];apply hK;clear hK K;refine qN ?_;refine qU _ (Sub.refl _) (qY (Qe)) ?_;simp+decide only[Slots.get,if_true,and_true,Qv];all_goals first|rfl|exact⟨rfl,rfl⟩|(simp+decide only[if_true,if_false, *];done)|(trace_state;fail)
theorem bldT_selfT:BldT 140 ([]:List AVal).length.succ.succ:=⟨by kernel_rfl,by kernel_rfl,by decide⟩
set_option maxHeartbeats 1000000 in
theorem c_quote(w0:World)(h:AHeap)(kx:Nat)(lf:Bool)(s:Str)(mv tv:AVal)(i:Nat)(eb_x:h kx=some ⟨[.bool lf, .str s,mv, .int .i64 i,tv],0⟩)(hi:i<s.length)(hs:s.length<=1099511627776):
 ACall Tryz.prog w0 108 [.ptr (.own kx) 0] h (fun r h'=>r=nxR (qav s i)/\h'=h):=by
 have hs_h:Sub h h:=Sub.refl h;refine qR (n:=44) (rs:=[.cell 2 54, .tmp 3, .tmp 4]) Tryz.func108 rfl rfl rfl rfl (Nat.le_of_ble_eq_true rfl) ?_;simp only[Qc];refine awp_rseq [0,2] (by rfl) fun K hK=>?_;refine Qi qby (cs:=[.int .u8 0, .str [], .int .i64 0, .int .i64 0, .bool false]) (by rfl) fun k0q0 hk0q0=>?_;have hn_0q0:h k0q0=none:=by first|assumption|(simp only[AHeap.set_none]at hk0q0;simp only[hk0q0])
 have hf_0q0:h k0q0=none:=Sub.none hs_h hn_0q0;have ne_0q0_x:k0q0≠kx:=AHeap.ne_some hn_0q0 eb_x;simp+decide only[qa,ev,qJ,qG,putD,Slots.put,Slots.keep,if_true,if_false,true_and,↓qd,qb];apply hK;clear hK K;refine awp_aseqT [0,2,5] (by decide) (by decide) ze140 (cs:=[.nilPtr, .nilSlice]) (by rfl) fun k1q0 hk1q0 ht1q0=>?_;simp+decide only[Slots.put,Slots.keep,if_true,if_false];have ne_1q0_0q0:k1q0≠k0q0:=by simp only[AHeap.set_none]at hk1q0;simp only[hk1q0,ne_eq,not_false_eq_true]
 have hn_1q0:h k1q0=none:=by first|assumption|(simp only[AHeap.set_none]at hk1q0;simp only[hk1q0])
 have hf_1q0:h k1q0=none:=Sub.none hs_h hn_1q0;have ne_1q0_x:k1q0≠kx:=AHeap.ne_some hn_1q0 eb_x;obtain⟨H,hH⟩:∃H,H=h.set k0q0 ⟨[.int .u8 0, .str [], .int .i64 0, .int .i64 0, .bool false],0⟩:=⟨_,rfl⟩
 have hxH:H kx=some ⟨[.bool lf, .str s,mv, .int .i64 i,tv],0⟩:=by rw[hH];exact(by repeat (first|exact AHeap.set_same _ _ _|assumption|refine(AHeap.set_ne _ _ (by first|assumption|exact Ne.symm (by assumption))).trans ?_))
 have h0H:H k0q0=some ⟨[.int .u8 0, .str [], .int .i64 0, .int .i64 0, .bool false],0⟩:=by rw[hH];exact(by repeat (first|exact AHeap.set_same _ _ _|assumption|refine(AHeap.set_ne _ _ (by first|assumption|exact Ne.symm (by assumption))).trans ?_))
 have hsH:Sub h H:=by rw[hH];exact(by repeat (first|exact Sub.refl _|assumption|refine Sub.set_both ?_ _ _|refine Sub.trans_set ?_ (by repeat (first|assumption|refine(AHeap.set_ne _ _ (by first|assumption|exact Ne.symm (by assumption))).trans ?_))))
 rw[<-hH]at hk1q0|-
 refine qO ?_;refine awp_rseq [0,2,5,6] (by rfl) fun K hK=>?_;simp+decide only[qa,ev,qJ,qG,putD,Slots.put,Slots.keep,if_true,if_false,true_and,↓qd,qb];apply hK;clear hK K;refine QB ?_;refine XH [0,2,5,6] (fun g:Nat×Bld=>[(0, .ptr (.own kx) 0),(2, .ptr (.own k0q0) 0),(5, .ptr (.own k1q0) 0),(6, .int .i64 g.1)]) (fun g:Nat×Bld=>bldH H k1q0 [] g.2) (fun g:Nat×Bld=>i+g.1<=s.length/\g.2.ok 5 H k1q0/\Zc (s.drop (i+g.1)) g.2.bytes g.1=qav s i/\g.2.bytes.length<=g.1) (fun g:Nat×Bld=>s.length-g.1) (1,Bld.none) (by rfl) (Sub.refl _) ⟨hi,Bld.none_ok,rfl,Nat.zero_le _⟩ ?_;rintro⟨n,st⟩ ⟨hn,hst,hgo,hbl⟩;simp only at hn hst hgo hbl|-
 have hsb:=Sub.bldH (rest:=[]) hk1q0 hst;have hSb:=hsH.trans hsb;have hxb:=hsb _ _ hxH;have h0b:=hsb _ _ h0H;have rx:=fun o=>Qp w0 hxb o;refine qO ?_;refine Zh [0,2,5,6,19] mixed (by kernel_rfl) (by rfl) (by rfl) fun K hK=>?_;simp+decide only[qa,ev,putD,Slots.put,Slots.get,Slots.keep,if_true,if_false,true_and,↓qj,qf,↓Qh,qK,Qj,↓qA,ql,YW,↓qF,Qb,qy ag3,↓qC,qo,qZ,cond_false,qz,Xf,WI,YH,qy ag9,↓XA,QK,YB Tryz.underlying9,Zd,List.getD_cons_zero,List.getD_cons_succ,Nat.zero_add,qh,qE,rx];try simp(disch:=omega)only[wrap_i64]
 apply hK;clear hK K;refine qL (b:=_) rfl (fun hb1=>?_) (fun hb1=>?_)
 ·try simp only[decide_eq_true_eq]at hb1
  have hin:i+n<s.length:=by omega
  have hpn:Qk s ((i:Int)+n)=s.getD (i+n) 0:=by rw[show(i:Int)+(n:Int)=((i+n:Nat):Int) by omega,Yt hin]
  have hpn1:Qk s ((i:Int)+((n:Int)+1))=Qk s ((i+n+1:Nat):Int):=by congr 1
  rw[qcI hin]at hgo;refine Qa ?_;change Awp _ _ _ _ _ _ _;refine qO ?_;refine QB ?_;refine qO ?_;refine awp_rseq [0,2,5,6,25] (by rfl) fun K hK=>?_;simp+decide only[ev,putD,Slots.put,Slots.get,if_true,if_false,true_and,↓qj,qf];refine qM (V:= .int .u8 (s.getD (i+n) 0).toNat) (by rfl) (by rfl) (by rw[<-hpn];exact WU w0 _ kx lf s mv tv i n hxb (by omega) (by omega) (by omega)) ?_;simp+decide only[qa,ev,qJ,qG,putD,Slots.put,Slots.get,Slots.keep,if_true,if_false,true_and,↓qC,qo,qD,cond_false,qz,XD];apply hK;clear hK K;refine Uu [0,2,5,6] (fun m:Nat=>[(0, .ptr (.own kx) 0),(2, .ptr (.own k0q0) 0),(5, .ptr (.own k1q0) 0),(6, .int .i64 m)]) (fun m:Nat=>bldH H k1q0 [] st) (fun m:Nat=>n<=m/\i+m<s.length/\Zc (s.drop (i+m+1)) (st.bytes++[s.getD (i+m) 0]) (m+1)=qav s i) ?_ ?_
  ·refine qL (b:=_) rfl (fun hb2=>?_) (fun hb2=>?_)
   ·try simp only[decide_eq_true_eq]at hb2
    have hb2':s.getD (i+n) 0=34:=(XP _ 34).mp hb2;rw[hb2']at hgo;refine qO ?_;refine awp_rseq [0,2,5,6,30] (by rfl) fun K hK=>?_;simp+decide only[ev,qJ,qG,putD,Slots.put,Slots.get,if_true,if_false,true_and,↓qj,qf,↓qC,qo,qD,cond_false,qz,Xf];try simp(disch:=omega)only[wrap_i64]
    refine qM (V:= .int .u8 (Qk s ((i:Int)+((n:Int)+1))).toNat) (by rfl) (by rfl) (WU w0 _ kx lf s mv tv i ((n:Int)+1) hxb (by omega) (by omega) (by omega)) ?_;simp+decide only[qa,ev,qJ,qG,putD,Slots.put,Slots.get,Slots.keep,if_true,if_false,true_and,↓qC,qo,qD,cond_false,qz,qbh];apply hK;clear hK K;refine qL (b:=_) rfl (fun hb3=>?_) (fun hb3=>?_)
    ·try simp only[decide_eq_false_iff_not,Bool.not_eq_true']at hb3
     have hb3':(s.drop (i+n+1)).head?≠some 34:=by
      intro e;rw[List.head?_drop]at e;obtain⟨e1,e2⟩:=List.getElem?_eq_some_iff.1 e;rw[hpn1,Yt e1,List.getD,e]at hb3;exact hb3 rfl
     rw[qdk hb3']at hgo;refine qO ?_;refine awp_rseq [2,5,6,32] (by rfl) fun K hK=>?_;refine qM (V:= .int .i64 st.bytes.length) (by rfl) (by rfl) (c_bLenT w0 H k1q0 [] st hst) ?_;simp+decide only[qa,ev,qJ,qG,putD,Slots.put,Slots.get,Slots.keep,if_true,if_false,true_and,↓qC,qo,qD,cond_false,qz,XD];apply hK;clear hK K;refine qL (b:=_) rfl (fun hb4=>?_) (fun hb4=>?_)
     ·try simp only[decide_eq_true_eq]at hb4
      have hne:st.bytes=[]:=List.eq_nil_of_length_eq_zero (by omega);have hgo':qav s i= .err 4:=by rw[<-hgo,if_pos hne]
      refine XL ?_;change Awp _ _ _ _ _ _ _;refine awp_rseq [2,3,4] (by rfl) fun K hK=>?_;simp+decide only[ev,qJ,qG,putD,Slots.put,Slots.get,if_false,true_and,↓Qn,↓qV,qaB,evP,List.map_nil];refine qm (by rfl) (by rfl) (by repeat (first|exact AHeap.set_same _ _ _|assumption|refine(AHeap.set_ne _ _ (by first|assumption|exact Ne.symm (by assumption))).trans ?_)) Xg (by rfl) (by rfl) (by first|exact Nat.le_refl _|decide|(simp;done)|(simp;omega)) (Nat.zero_le _) (by rfl) ?_;simp only[AVal.cells];simp+decide only[qa,ev,qJ,qG,putD,Slots.put,Slots.get,Slots.keep,if_true,if_false,true_and,↓qd,qb,setAt,List.set_cons_zero,List.set_cons_succ,Nat.zero_add,Nat.reduceAdd];apply hK;clear hK K;refine qN ?_;refine qU h (by repeat (first|exact Sub.refl _|assumption|refine Sub.trans_set ?_ (by assumption))) (?_) ?_
      ·simp+decide only[Qw,qp,qi,Slots.get,if_true,if_false,and_true,qp,qi,qg Zz Xg,qW,qc,List.getD_cons_zero,List.getD_cons_succ,Nat.zero_add,Nat.reduceAdd,qB,qh,qE,allLive,Bool.and_true,qc,List.getD_cons_zero,List.getD_cons_succ,Nat.zero_add,Nat.reduceAdd,qB,qh,qE,allLive,Bool.and_true]
      simp+decide only[Slots.get,if_true,if_false,and_true,Qz,qp,qi,qg Zz Xg,qW,qc,List.getD_cons_zero,List.getD_cons_succ,Nat.zero_add,Nat.reduceAdd,qB,qh,qE,allLive,Bool.and_true,qc,List.getD_cons_zero,List.getD_cons_succ,Nat.zero_add,Nat.reduceAdd,qB,qh,qE,allLive,Bool.and_true,nxA,nxR];rw[hgo'];rfl
     ·try simp only[decide_eq_false_iff_not]at hb4
      have hne:¬st.bytes=[]:=fun e=>hb4 (by rw[e];rfl);refine Qa ?_;change Awp _ _ _ _ _ _ _;refine awp_rseq [2,3,4] (by rfl) fun K hK=>?_;refine QI (by rfl) (by rfl) (c_bString w0 H k1q0 [] st _ hk1q0 ht1q0 hst (by omega)) fun x8q0 h8q0 hx8q0=>?_;obtain⟨hv8,hh8⟩:=hx8q0;rw[hv8,hh8];rw[if_neg hne]at hgo;simp+decide only[ev,qJ,qG,putD,Slots.put,Slots.get,if_true,if_false,true_and,↓Qn,↓qV,bld54_0_1,evP,List.map_cons,List.map_nil,↓qj,qf,↓qC,qo,qD,cond_false,qz,Xf];try simp(disch:=omega)only[wrap_i64]
      refine qm (by rfl) (by rfl) (by repeat (first|exact AHeap.set_same _ _ _|assumption|refine(AHeap.set_ne _ _ (by first|assumption|exact Ne.symm (by assumption))).trans ?_)) Xg (by rfl) (by rfl) (by first|exact Nat.le_refl _|decide|(simp;done)|(simp;omega)) (Nat.zero_le _) (by rfl) ?_;simp only[AVal.cells];simp+decide only[qa,ev,qJ,qG,putD,Slots.put,Slots.get,Slots.keep,if_true,if_false,true_and,↓qd,qb,setAt,List.set_cons_zero,List.set_cons_succ,Nat.zero_add,Nat.reduceAdd];apply hK;clear hK K;refine qN ?_;try simp only[Qf,Qr]
      refine qU h (by repeat (first|exact Sub.refl _|assumption|refine Sub.trans_set ?_ (by assumption))) (?_) ?_
      ·simp+decide only[Qw,qp,qi,Slots.get,if_true,if_false,and_true,qp,qi,qg Zz Xg,qW,qc,List.getD_cons_zero,List.getD_cons_succ,Nat.zero_add,Nat.reduceAdd,qB,qh,qE,allLive,Bool.and_true,qc,List.getD_cons_zero,List.getD_cons_succ,Nat.zero_add,Nat.reduceAdd,qB,qh,qE,allLive,Bool.and_true]
      simp+decide only[Slots.get,if_true,if_false,and_true,Qz,qp,qi,qg Zz Xg,qW,qc,List.getD_cons_zero,List.getD_cons_succ,Nat.zero_add,Nat.reduceAdd,qB,qh,qE,allLive,Bool.and_true,qc,List.getD_cons_zero,List.getD_cons_succ,Nat.zero_add,Nat.reduceAdd,qB,qh,qE,allLive,Bool.and_true,nxA,nxR];rw[<-hgo];rfl
    ·try simp only[decide_eq_true_eq,Bool.not_eq_false']at hb3
     have hb3':Qk s ((i+n+1:Nat):Int)=34:=by rw[<-hpn1];exact(XP _ 34).mp hb3
     have hin1:i+n+1<s.length:=qbf (by rw[hb3'];decide);rw[Yt hin1]at hb3';rw[qcI hin1,hb3',qdi]at hgo;refine Qa ?_;change Awp _ _ _ _ _ _ _;refine XK [0,2,5,6] (by rfl) ?_;simp+decide only[qa,ev,qJ,qG,putD,Slots.put,Slots.get,Slots.keep,if_true,if_false,true_and,↓qj,qf,↓qC,qo,qD,cond_false,qz,Xf,↓qd,qb,nxA,nxR];try simp(disch:=omega)only[wrap_i64]
     try simp only[Ql]
     first
     |exact⟨n+1,rfl,Sub.refl _,by omega,by omega,by rw[<-hgo,show i+(n+1)=i+n+1 by omega,hb3']⟩
     |exact⟨n,rfl,Sub.refl _,by omega,by omega,by rw[<-hgo,qak (fun e=>hb2 ((XP _ 34).mpr e))]⟩
   ·try simp only[decide_eq_false_iff_not]at hb2
    refine Qa ?_;try simp only[Ql]
    first
    |exact⟨n+1,rfl,Sub.refl _,by omega,by omega,by rw[<-hgo,show i+(n+1)=i+n+1 by omega,hb3']⟩
    |exact⟨n,rfl,Sub.refl _,by omega,by omega,by rw[<-hgo,qak (fun e=>hb2 ((XP _ 34).mpr e))]⟩
  ·rintro m ⟨hnm,him,hgm⟩
   have hpm:Qk s ((i:Int)+m)=s.getD (i+m) 0:=by rw[show(i:Int)+(m:Int)=((i+m:Nat):Int) by omega,Yt him]
   refine XK [0,2,5,6] (by rfl) ?_;simp+decide only[ev,putD,Slots.put,Slots.get,if_true,if_false,true_and,↓qj,qf,nxA,nxR];refine qM (V:= .int .u8 (s.getD (i+m) 0).toNat) (by rfl) (by rfl) (by rw[<-hpm];exact WU w0 _ kx lf s mv tv i m hxb (by omega) (by omega) (by omega)) ?_;refine QI (by rfl) (by rfl) (c_WriteByte w0 H k1q0 [] st _ bldT_selfT ht1q0 hk1q0 hst (s.getD (i+m) 0) (by omega)) fun x10q3 h10q3 hx10q3=>?_;obtain⟨hv10,st',hst',hbt',hh10⟩:=hx10q3;rw[hh10];simp+decide only[qa,putD,Slots.put,Slots.keep,if_true,if_false];change Awp _ _ _ _ _ _ _;refine XK [0,2,5,6] (by rfl) ?_;simp+decide only[qa,ev,qJ,qG,putD,Slots.put,Slots.get,Slots.keep,if_true,if_false,true_and,↓qj,qf,↓qC,qo,qD,cond_false,qz,Xf,↓qd,qb];try simp(disch:=omega)only[wrap_i64]
   try simp only[Ql]
   refine⟨(m+1,st'),rfl,Sub.refl _,⟨by simp only;omega,hst',?_,by simp only;rw[hbt',List.length_append];simp;omega⟩,by simp only;omega⟩;simp only;rw[hbt',<-Nat.add_assoc];exact hgm
 ·try simp only[decide_eq_false_iff_not]at hb1
  have hend:qav s i= .err 4:=by rw[<-hgo,List.drop_eq_nil_of_le (by omega),qdj]
  refine XL ?_;change Awp _ _ _ _ _ _ _;refine awp_rseq [2,3,4] (by rfl) fun K hK=>?_;simp+decide only[ev,qJ,qG,putD,Slots.put,Slots.get,if_false,true_and,↓Qn,↓qV,qaB,evP,List.map_nil];refine qm (by rfl) (by rfl) (by repeat (first|exact AHeap.set_same _ _ _|assumption|refine(AHeap.set_ne _ _ (by first|assumption|exact Ne.symm (by assumption))).trans ?_)) Xg (by rfl) (by rfl) (by first|exact Nat.le_refl _|decide|(simp;done)|(simp;omega)) (Nat.zero_le _) (by rfl) ?_;simp only[AVal.cells];simp+decide only[qa,ev,qJ,qG,putD,Slots.put,Slots.get,Slots.keep,if_true,if_false,true_and,↓qd,qb,setAt,List.set_cons_zero,List.set_cons_succ,Nat.zero_add,Nat.reduceAdd];apply hK;clear hK K;refine qN ?_;refine qU h (by repeat (first|exact Sub.refl _|assumption|refine Sub.trans_set ?_ (by assumption))) (?_) ?_
  ·simp+decide only[Qw,qp,qi,Slots.get,if_true,if_false,and_true,qp,qi,qg Zz Xg,qW,qc,List.getD_cons_zero,List.getD_cons_succ,Nat.zero_add,Nat.reduceAdd,qB,qh,qE,allLive,Bool.and_true,qc,List.getD_cons_zero,List.getD_cons_succ,Nat.zero_add,Nat.reduceAdd,qB,qh,qE,allLive,Bool.and_true]
  simp+decide only[Slots.get,if_true,if_false,and_true,Qz,qp,qi,qg Zz Xg,qW,qc,List.getD_cons_zero,List.getD_cons_succ,Nat.zero_add,Nat.reduceAdd,qB,qh,qE,allLive,Bool.and_true,qc,List.getD_cons_zero,List.getD_cons_succ,Nat.zero_add,Nat.reduceAdd,qB,qh,qE,allLive,Bool.and_true,nxA,nxR];rw[hend];rfl
end Go.Proofs.YtlhhaagmakhilaaGreatDoor
namespace Go.Proofs.YtlhhaagmakhilaaGreatDoor
open Go.AM
open Go.Proofs
open Go.Col
open Go.Tok
open Go.RowKit (Below)
set_option maxRecDepth 100000
set_option maxHeartbeats 1000000 in
theorem c_next(w0:World)(h:AHeap)(kx:Nat)(lf:Bool)(s:Str)(mv tv:AVal)(i:Nat)(l:List TokC)(eb_x:h kx=some ⟨[.bool lf, .str s,mv, .int .i64 i,tv],0⟩)(ht:IsL w0 h 5 tv (l.map Xv))(hl:l.length<=1099511627776)(h32:Qk s i≠32)(hs:s.length<=1099511627776):
 ACall Tryz.prog w0 83 [.ptr (.own kx) 0] h (fun r h'=>r=nxR (Wm s i l)/\h'=h):=by
 have hs_h:Sub h h:=Sub.refl h;have hi:=qbf h32;have hdr:(s.drop ((i:Int)).toNat).take (((s.length:Nat):Int).toNat-((i:Int)).toNat)=s.drop i:=by rw[Int.toNat_natCast,Int.toNat_natCast,List.take_of_length_le (by simp)]
 obtain⟨eqs,heqs⟩:∃e,e=List.isPrefixOf [61,61] (s.drop i):=⟨_,rfl⟩
 have hnx:Wm s i l=if (ZB l).1=true/\eqs=false then Yz s i (ZB l).2
  else if Qk s i=34 then qav s i
  else if Qk s i=46/\Qk s (i+1)=32 then Tok.takeE s i 6 1
  else if eqs=true then Tok.takeE s i 7 2
  else if 0<(YD s i).n\/(YD s i).e≠0 then YD s i
  else if Zy (Qk s i)=true/\Qk s i≠45 then nameE s i
  else qde s i:=by rw[heqs];rfl
 refine qR (n:=110) (rs:=[.cell 2 54, .tmp 3, .tmp 4]) Tryz.func83 rfl rfl rfl rfl (Nat.le_of_ble_eq_true rfl) ?_;simp only[Qc];refine awp_rseq [0,2] (by rfl) fun K hK=>?_;refine Qi qby (cs:=[.int .u8 0, .str [], .int .i64 0, .int .i64 0, .bool false]) (by rfl) fun k0q0 hk0q0=>?_;have hn_0q0:h k0q0=none:=by first|assumption|(simp only[AHeap.set_none]at hk0q0;simp only[hk0q0])
 have hf_0q0:h k0q0=none:=Sub.none hs_h hn_0q0;have ne_0q0_x:k0q0≠kx:=AHeap.ne_some hn_0q0 eb_x;simp+decide only[qa,ev,qJ,qG,putD,Slots.put,Slots.keep,if_true,if_false,true_and,↓qd,qb];apply hK;clear hK K;refine qO ?_;refine awp_rseq [0,2,5,6] (by rfl) fun K hK=>?_;simp+decide only[ev,putD,Slots.put,Slots.get,if_true,if_false,true_and,↓qj,qf];refine qM (V:= .tuple [.bool (ZB l).1, .bool (ZB l).2]) (by rfl) (by rfl) (c_pictures w0 _ kx lf s mv tv i l ((by repeat (first|exact AHeap.set_same _ _ _|assumption|refine(AHeap.set_ne _ _ (by first|assumption|exact Ne.symm (by assumption))).trans ?_))) (ht.mono ((by repeat (first|exact Sub.refl _|assumption|refine Sub.set_both ?_ _ _|refine Sub.trans_set ?_ (by repeat (first|assumption|refine(AHeap.set_ne _ _ (by first|assumption|exact Ne.symm (by assumption))).trans ?_)))))) hl) ?_;simp+decide only[qa,ev,putD,Slots.put,Slots.get,Slots.keep,if_true,if_false,true_and,↓qj,qf,↓QJ,QA,QH,List.length_cons,List.length_nil,List.getD_cons_zero,List.getD_cons_succ,↓qd,qb,List.getD_cons_zero,List.getD_cons_succ,Nat.zero_add,Nat.reduceAdd];apply hK;clear hK K;refine Wv [0,2,6,30] mixed (by kernel_rfl) (by rfl) fun K hK=>?_;simp+decide only[ev,putD,Slots.put,Slots.get,if_true,if_false,true_and,↓qck,qf,↓vg_move,vgP,qbU,qI,qH,qw,implies_true,↓qcW,qK,Qj,qbr,qbs,↓Uy,ql,WI,Zv,Zw,YH,↓vg_load,Zr,qy ag9,cv_load,cp_load,YW,qy ag3,↓vg_slice,ZK,evO,qcA Tryz.underlying9,qaJ,bndA_none,UH,cv_slice,cp_slice,cv_slicelo,cp_slicelo,QU,ne_eq,not_false_eq_true,ne_0q0_x.symm,Qp w0 eb_x,List.getD_cons_zero,List.getD_cons_succ,Nat.zero_add,qh,qE,hdr];repeat (with_reducible refine And.intro ?_ ?_;· first|trivial|omega|(intro hg;simp only[Bool.and_eq_true,Bool.or_eq_true,Bool.not_eq_true',Bool.and_eq_false_iff,Bool.or_eq_false_iff,Bool.not_eq_false',decide_eq_true_eq,decide_eq_false_iff_not,Zt]at hg;omega))
 refine qcl (V:= .bool eqs) (f:=_) (cap:=_) (xs:=_) (by first|rfl|(simp+decide only[gv,qI,Slots.get,if_true,if_false,QO,qH])) (fun hg=>⟨rfl,?_⟩) (fun hg=>by rw[heqs];exact c_pref w0 _ (s.drop i) [61,61]) ?_
 ·try simp+decide only[gv,qI,Slots.get,if_true,if_false,qw]at hg
  simp+decide only[evs,ev,Slots.get,if_true,if_false,hg,Qm,List.append_nil,List.map_cons,List.map_nil,qJ,qG]
 simp+decide only[qaY,ev,qJ,qG,putD,Slots.put,Slots.get,Slots.keep,if_true,if_false,true_and,gv,qI,qw,↓vg_unOp,XE,vgP,qbU,qH,implies_true,ZY,cv_un,cp_un,↓vp_pick,Qt,Qg,Xj,Xk];apply hK;clear hK K;refine qL (b:=_) rfl (fun hb1=>?_) (fun hb1=>?_)
 ·try simp only[Bool.not_eq_true',Bool.and_eq_true]at hb1
  refine awp_rseq [2,3,4] (by rfl) fun K hK=>?_;simp+decide only[ev,putD,Slots.put,Slots.get,if_true,if_false,true_and,↓qj,qf];refine qM (V:=nxR (Yz s i (ZB l).2)) (by rfl) (by rfl) (c_picture w0 _ kx lf s mv tv i _ ((by repeat (first|exact AHeap.set_same _ _ _|assumption|refine(AHeap.set_ne _ _ (by first|assumption|exact Ne.symm (by assumption))).trans ?_))) h32 hs) ?_;simp+decide only[ev,putD,Slots.put,Slots.get,if_true,if_false,true_and,↓QJ,QA,QH,List.length_cons,List.length_nil,List.getD_cons_zero,List.getD_cons_succ,List.getD_cons_zero,List.getD_cons_succ,Nat.zero_add,Nat.reduceAdd,nxA,nxR];refine qm (by rfl) (by rfl) (by repeat (first|exact AHeap.set_same _ _ _|assumption|refine(AHeap.set_ne _ _ (by first|assumption|exact Ne.symm (by assumption))).trans ?_)) Xg (by rfl) (by rfl) (by first|exact Nat.le_refl _|decide|(simp;done)|(simp;omega)) (Nat.zero_le _) (by rfl) ?_;simp only[AHeap.set_set,AVal.cells];simp+decide only[qa,ev,putD,Slots.put,Slots.get,Slots.keep,if_true,if_false,true_and,↓qd,qb,setAt,List.set_cons_zero,List.set_cons_succ,Nat.zero_add,Nat.reduceAdd];apply hK;clear hK K;refine qN ?_;try simp only[Qf]
  refine qU h (by repeat (first|exact Sub.refl _|assumption|refine Sub.trans_set ?_ (by assumption))) (?_) ?_
  ·simp+decide only[Qw,qp,qi,Slots.get,if_true,if_false,and_true,qp,qi,qg Zz Xg,qW,qc,List.getD_cons_zero,List.getD_cons_succ,Nat.zero_add,Nat.reduceAdd,qB,qh,qE,allLive,Bool.and_true,qc,List.getD_cons_zero,List.getD_cons_succ,Nat.zero_add,Nat.reduceAdd,qB,qh,qE,allLive,Bool.and_true]
  simp+decide only[Slots.get,if_true,if_false,and_true,Qz,qp,qi,qg Zz Xg,qW,qc,List.getD_cons_zero,List.getD_cons_succ,Nat.zero_add,Nat.reduceAdd,qB,qh,qE,allLive,Bool.and_true,qc,List.getD_cons_zero,List.getD_cons_succ,Nat.zero_add,Nat.reduceAdd,qB,qh,qE,allLive,Bool.and_true,nxA,nxR];rw[hnx,if_pos hb1]
 ·try simp only[Bool.not_eq_false',Bool.and_eq_false_iff]at hb1
  have hb1':¬((ZB l).1=true/\eqs=false):=by
   rintro⟨q1,q2⟩;rcases hb1 with z|z
   ·rw[q1]at z;cases z
   ·rw[q2]at z;cases z
  rw[hnx,if_neg hb1'];refine Qa ?_;change Awp _ _ _ _ _ _ _;refine qO ?_;refine awp_rseq [0,2,7] (by rfl) fun K hK=>?_;simp+decide only[ev,putD,Slots.put,Slots.get,if_true,if_false,true_and,↓qj,qf];refine qM (V:= .int .u8 (Qk s i).toNat) (by rfl) (by rfl) (qbI w0 _ kx lf s mv tv i ((by repeat (first|exact AHeap.set_same _ _ _|assumption|refine(AHeap.set_ne _ _ (by first|assumption|exact Ne.symm (by assumption))).trans ?_))) (by omega)) ?_;simp+decide only[qa,ev,putD,Slots.put,Slots.get,Slots.keep,if_true,if_false,true_and,↓qd,qb];apply hK;clear hK K;refine QB ?_;refine awp_rseq [0,2,7,39] (by rfl) fun K hK=>?_;simp+decide only[qa,ev,qJ,qG,putD,Slots.put,Slots.get,Slots.keep,if_true,if_false,true_and,↓qj,qf,↓qC,qo,qD,cond_false,qz,XD,↓qd,qb];apply hK;clear hK K;refine qL (b:=_) rfl (fun hb2=>?_) (fun hb2=>?_)
  ·try simp only[decide_eq_true_eq]at hb2
   have hb2':Qk s i=34:=(XP _ 34).mp hb2;refine awp_rseq [2,3,4] (by rfl) fun K hK=>?_;simp+decide only[ev,putD,Slots.put,Slots.get,if_true,if_false,true_and,↓qj,qf];refine qM (V:=nxR (qav s i)) (by rfl) (by rfl) (c_quote w0 _ kx lf s mv tv i ((by repeat (first|exact AHeap.set_same _ _ _|assumption|refine(AHeap.set_ne _ _ (by first|assumption|exact Ne.symm (by assumption))).trans ?_))) hi hs) ?_;simp+decide only[ev,putD,Slots.put,Slots.get,if_true,if_false,true_and,↓QJ,QA,QH,List.length_cons,List.length_nil,List.getD_cons_zero,List.getD_cons_succ,List.getD_cons_zero,List.getD_cons_succ,Nat.zero_add,Nat.reduceAdd,nxA,nxR];refine qm (by rfl) (by rfl) (by repeat (first|exact AHeap.set_same _ _ _|assumption|refine(AHeap.set_ne _ _ (by first|assumption|exact Ne.symm (by assumption))).trans ?_)) Xg (by rfl) (by rfl) (by first|exact Nat.le_refl _|decide|(simp;done)|(simp;omega)) (Nat.zero_le _) (by rfl) ?_;simp only[AHeap.set_set,AVal.cells];simp+decide only[qa,ev,putD,Slots.put,Slots.get,Slots.keep,if_true,if_false,true_and,↓qd,qb,setAt,List.set_cons_zero,List.set_cons_succ,Nat.zero_add,Nat.reduceAdd];apply hK;clear hK K;refine qN ?_;try simp only[Qf,Qr]
   refine qU h (by repeat (first|exact Sub.refl _|assumption|refine Sub.trans_set ?_ (by assumption))) (?_) ?_
   ·simp+decide only[Qw,qp,qi,Slots.get,if_true,if_false,and_true,qp,qi,qg Zz Xg,qW,qc,List.getD_cons_zero,List.getD_cons_succ,Nat.zero_add,Nat.reduceAdd,qB,qh,qE,allLive,Bool.and_true,qc,List.getD_cons_zero,List.getD_cons_succ,Nat.zero_add,Nat.reduceAdd,qB,qh,qE,allLive,Bool.and_true]
   simp+decide only[Slots.get,if_true,if_false,and_true,Qz,qp,qi,qg Zz Xg,qW,qc,List.getD_cons_zero,List.getD_cons_succ,Nat.zero_add,Nat.reduceAdd,qB,qh,qE,allLive,Bool.and_true,ne_eq,qc,List.getD_cons_zero,List.getD_cons_succ,Nat.zero_add,Nat.reduceAdd,qB,qh,qE,allLive,Bool.and_true,nxA,nxR,Tok.takeE];rw[if_pos hb2'];try rfl
  ·try simp only[decide_eq_false_iff_not]at hb2
   have hb2':¬Qk s i=34:=fun q=>hb2 ((XP _ 34).mpr q);rw[if_neg hb2'];refine awp_rseq [0,2,47] (by rfl) fun K hK=>?_;simp+decide only[ev,qJ,qG,putD,Slots.put,Slots.get,if_true,if_false,true_and,↓qj,qf,↓qC,qo,qD,cond_false,qz,XD,↓Xc,agP,Qu,qI,qH,qw,implies_true]
   (refine XJ (V:= .int .u8 (Qk s (i+1)).toNat) (f:=_) (cap:=_) (xs:=_) (by first|rfl|(simp+decide only[gv,qI,Slots.get,if_true,if_false,QO,qH])) (fun hg=>⟨rfl,?_⟩) (fun hg=>WU w0 _ kx lf s mv tv i 1 ((by repeat (first|exact AHeap.set_same _ _ _|assumption|refine(AHeap.set_ne _ _ (by first|assumption|exact Ne.symm (by assumption))).trans ?_))) (by omega) (by omega) (by omega)) ?_;· (simp+decide only[gv,qI,Slots.get,if_true,if_false,qw]at hg;simp+decide only[evs,ev,Slots.get,if_true,if_false,hg,Qm,List.append_nil,List.map_cons,List.map_nil,qJ,qG]<;>try rfl))
   simp+decide only[qa,ev,qJ,qG,putD,Slots.put,Slots.get,Slots.keep,if_true,if_false,true_and,gv,qI,qw,↓Xd,qo,agP,Qu,qH,implies_true,qD,cond_false,Zf,Zg,qz,XD,↓QP,Qt,Qg,Xj,Xk,↓qd,qb];apply hK;clear hK K;refine qL (b:=_) rfl (fun hb3=>?_) (fun hb3=>?_)
   ·try simp only[decide_eq_true_eq,Bool.and_eq_true]at hb3
    have hb3':Qk s i=46/\Qk s (i+1)=32:=⟨(XP _ 46).mp hb3.1,(XP _ 32).mp hb3.2⟩
    refine awp_rseq [2,3,4] (by rfl) fun K hK=>?_;simp+decide only[ev,putD,Slots.put,Slots.get,if_true,if_false,true_and,↓qj,qf];refine qM (V:=nxR (Tok.takeE s i 6 1)) (by rfl) (by rfl) (c_takeT w0 _ kx lf s mv tv i 1 6 ((by repeat (first|exact AHeap.set_same _ _ _|assumption|refine(AHeap.set_ne _ _ (by first|assumption|exact Ne.symm (by assumption))).trans ?_))) (by omega) hs) ?_;simp+decide only[ev,putD,Slots.put,Slots.get,if_true,if_false,true_and,↓QJ,QA,QH,List.length_cons,List.length_nil,List.getD_cons_zero,List.getD_cons_succ,List.getD_cons_zero,List.getD_cons_succ,Nat.zero_add,Nat.reduceAdd,nxA,nxR,Tok.takeE];refine qm (by rfl) (by rfl) (by repeat (first|exact AHeap.set_same _ _ _|assumption|refine(AHeap.set_ne _ _ (by first|assumption|exact Ne.symm (by assumption))).trans ?_)) Xg (by rfl) (by rfl) (by first|exact Nat.le_refl _|decide|(simp;done)|(simp;omega)) (Nat.zero_le _) (by rfl) ?_;simp only[AHeap.set_set,AVal.cells];simp+decide only[qa,ev,putD,Slots.put,Slots.get,Slots.keep,if_true,if_false,true_and,↓qd,qb,setAt,List.set_cons_zero,List.set_cons_succ,Nat.zero_add,Nat.reduceAdd];apply hK;clear hK K;refine qN ?_;try simp only[Qf,Qr]
    refine qU h (by repeat (first|exact Sub.refl _|assumption|refine Sub.trans_set ?_ (by assumption))) (?_) ?_
    ·simp+decide only[Qw,qp,qi,Slots.get,if_true,if_false,and_true,qp,qi,qg Zz Xg,qW,qc,List.getD_cons_zero,List.getD_cons_succ,Nat.zero_add,Nat.reduceAdd,qB,qh,qE,allLive,Bool.and_true,qc,List.getD_cons_zero,List.getD_cons_succ,Nat.zero_add,Nat.reduceAdd,qB,qh,qE,allLive,Bool.and_true]
    simp+decide only[Slots.get,if_true,if_false,and_true,Qz,qp,qi,qg Zz Xg,qW,qc,List.getD_cons_zero,List.getD_cons_succ,Nat.zero_add,Nat.reduceAdd,qB,qh,qE,allLive,Bool.and_true,ne_eq,qc,List.getD_cons_zero,List.getD_cons_succ,Nat.zero_add,Nat.reduceAdd,qB,qh,qE,allLive,Bool.and_true,nxA,nxR,Tok.takeE];rw[if_pos hb3'];try rfl
   ·try simp only[decide_eq_false_iff_not,Bool.and_eq_false_iff]at hb3
    have hb3':¬(Qk s i=46/\Qk s (i+1)=32):=fun q=>by
     rcases hb3 with z|z
     ·exact z ((XP _ 46).mpr q.1)
     ·exact z ((XP _ 32).mpr q.2)
    rw[if_neg hb3'];refine Wv [0,2,60] mixed (by kernel_rfl) (by rfl) fun K hK=>?_;simp+decide only[ev,putD,Slots.put,Slots.get,if_true,if_false,true_and,↓qck,qf,↓qbz,qK,Qj,↓WV,ql,WI,YH,↓vp_load,Zr,qy ag9,YW,qy ag3,↓vp_slice,ZK,evO,qcA Tryz.underlying9,qaJ,bndA_none,UH,QU,ne_eq,not_false_eq_true,ne_0q0_x.symm,Qp w0 eb_x,List.getD_cons_zero,List.getD_cons_succ,Nat.zero_add,qh,qE,hdr];repeat (with_reducible refine And.intro ?_ ?_;· first|trivial|omega|(intro hg;simp only[Bool.and_eq_true,Bool.or_eq_true,Bool.not_eq_true',Bool.and_eq_false_iff,Bool.or_eq_false_iff,Bool.not_eq_false',decide_eq_true_eq,decide_eq_false_iff_not,Zt]at hg;omega))
    refine vOps_callV (V:= .bool eqs) (by rfl) (by rfl) (by rw[heqs];exact c_pref w0 _ (s.drop i) [61,61]) ?_;simp+decide only[qaY,ev,putD,Slots.put,Slots.get,Slots.keep,if_true,if_false,true_and,↓qbT,qb];apply hK;clear hK K;refine qL (b:=_) rfl (fun hb4=>?_) (fun hb4=>?_)
    ·skip
     have h2:i+2<=s.length:=by
      rw[hb4]at heqs;have:=(List.isPrefixOf_iff_prefix.1 heqs.symm).length_le;rw[List.length_drop]at this;simp at this;omega
     refine awp_rseq [2,3,4] (by rfl) fun K hK=>?_;simp+decide only[ev,putD,Slots.put,Slots.get,if_true,if_false,true_and,↓qj,qf];refine qM (V:=nxR (Tok.takeE s i 7 2)) (by rfl) (by rfl) (c_takeT w0 _ kx lf s mv tv i 2 7 ((by repeat (first|exact AHeap.set_same _ _ _|assumption|refine(AHeap.set_ne _ _ (by first|assumption|exact Ne.symm (by assumption))).trans ?_))) h2 hs) ?_;simp+decide only[ev,putD,Slots.put,Slots.get,if_true,if_false,true_and,↓QJ,QA,QH,List.length_cons,List.length_nil,List.getD_cons_zero,List.getD_cons_succ,List.getD_cons_zero,List.getD_cons_succ,Nat.zero_add,Nat.reduceAdd,nxA,nxR,Tok.takeE];refine qm (by rfl) (by rfl) (by repeat (first|exact AHeap.set_same _ _ _|assumption|refine(AHeap.set_ne _ _ (by first|assumption|exact Ne.symm (by assumption))).trans ?_)) Xg (by rfl) (by rfl) (by first|exact Nat.le_refl _|decide|(simp;done)|(simp;omega)) (Nat.zero_le _) (by rfl) ?_;simp only[AHeap.set_set,AVal.cells];simp+decide only[qa,ev,putD,Slots.put,Slots.get,Slots.keep,if_true,if_false,true_and,↓qd,qb,setAt,List.set_cons_zero,List.set_cons_succ,Nat.zero_add,Nat.reduceAdd];apply hK;clear hK K;refine qN ?_;try simp only[Qf,Qr]
     refine qU h (by repeat (first|exact Sub.refl _|assumption|refine Sub.trans_set ?_ (by assumption))) (?_) ?_
     ·simp+decide only[Qw,qp,qi,Slots.get,if_true,if_false,and_true,qp,qi,qg Zz Xg,qW,qc,List.getD_cons_zero,List.getD_cons_succ,Nat.zero_add,Nat.reduceAdd,qB,qh,qE,allLive,Bool.and_true,qc,List.getD_cons_zero,List.getD_cons_succ,Nat.zero_add,Nat.reduceAdd,qB,qh,qE,allLive,Bool.and_true]
     simp+decide only[Slots.get,if_true,if_false,and_true,Qz,qp,qi,qg Zz Xg,qW,qc,List.getD_cons_zero,List.getD_cons_succ,Nat.zero_add,Nat.reduceAdd,qB,qh,qE,allLive,Bool.and_true,ne_eq,qc,List.getD_cons_zero,List.getD_cons_succ,Nat.zero_add,Nat.reduceAdd,qB,qh,qE,allLive,Bool.and_true,nxA,nxR,Tok.takeE];rw[if_pos hb4];try rfl
    ·skip
     have hb4':¬eqs=true:=by rw[hb4];decide
     rw[if_neg hb4'];refine Qa ?_;change Awp _ _ _ _ _ _ _;refine qO ?_;refine awp_rseq [0,2,8,9,10] (by rfl) fun K hK=>?_;simp+decide only[ev,putD,Slots.put,Slots.get,if_true,if_false,true_and,↓qj,qf];refine qM (V:=nxR (YD s i)) (by rfl) (by rfl) (c_number w0 _ kx lf s mv tv i ((by repeat (first|exact AHeap.set_same _ _ _|assumption|refine(AHeap.set_ne _ _ (by first|assumption|exact Ne.symm (by assumption))).trans ?_))) hi hs) ?_;simp+decide only[ev,putD,Slots.put,Slots.get,if_true,if_false,true_and,↓qj,qf,↓QJ,QA,QH,List.length_cons,List.length_nil,List.getD_cons_zero,List.getD_cons_succ,List.getD_cons_zero,List.getD_cons_succ,Nat.zero_add,Nat.reduceAdd,nxA,nxR];refine Qi qby (cs:=[.int .u8 0, .str [], .int .i64 0, .int .i64 0, .bool false]) (by rfl) fun k11q6 hk11q6=>?_;have ne_11q6_0q0:k11q6≠k0q0:=by simp only[AHeap.set_none]at hk11q6;simp only[hk11q6,ne_eq,not_false_eq_true]
     have hn_11q6:h k11q6=none:=by first|assumption|(simp only[AHeap.set_none]at hk11q6;simp only[hk11q6])
     have hf_11q6:h k11q6=none:=Sub.none hs_h hn_11q6;have ne_11q6_x:k11q6≠kx:=AHeap.ne_some hn_11q6 eb_x;refine qm (by rfl) (by rfl) (by repeat (first|exact AHeap.set_same _ _ _|assumption|refine(AHeap.set_ne _ _ (by first|assumption|exact Ne.symm (by assumption))).trans ?_)) Xg (by rfl) (by rfl) (by first|exact Nat.le_refl _|decide|(simp;done)|(simp;omega)) (Nat.zero_le _) (by rfl) ?_;simp only[AHeap.set_set,AVal.cells];simp+decide only[qa,ev,putD,Slots.put,Slots.get,Slots.keep,if_true,if_false,true_and,↓qd,qb,setAt,List.set_cons_zero,List.set_cons_succ,Nat.zero_add,Nat.reduceAdd];apply hK;clear hK K;refine awp_rseq [0,2,8,9,10,88] (by rfl) fun K hK=>?_;simp+decide only[qa,ev,qJ,qG,putD,Slots.put,Slots.get,Slots.keep,if_true,if_false,true_and,↓qj,qf,↓qC,qo,qD,cond_false,qz,Ur,↓Xc,agP,Qu,qI,qH,Qd,implies_true,↓Xd,Zf,Zg,qbh,↓QP,Qt,Qg,XW,ZR];apply hK;clear hK K;refine qL (b:=_) rfl (fun hb5=>?_) (fun hb5=>?_)
     ·try simp only[decide_eq_true_eq,decide_eq_false_iff_not,Bool.not_eq_true',Bool.or_eq_true]at hb5
      have hb5':0<(YD s i).n\/(YD s i).e≠0:=hb5.imp (fun q=>by omega) id;refine awp_rseq [2,3,4] (by rfl) fun K hK=>?_;simp+decide only[ev,putD,Slots.put,Slots.get,if_true,if_false,true_and,↓qF,Qb,qg Zz Xg,↓qj,qf,QV,qc,List.getD_cons_zero,List.getD_cons_succ,Nat.zero_add,Nat.reduceAdd,qB,qh,qE,allLive,Bool.and_true];refine qm (by rfl) (by rfl) (by repeat (first|exact AHeap.set_same _ _ _|assumption|refine(AHeap.set_ne _ _ (by first|assumption|exact Ne.symm (by assumption))).trans ?_)) Xg (by rfl) (by rfl) (by first|exact Nat.le_refl _|decide|(simp;done)|(simp;omega)) (Nat.zero_le _) (by rfl) ?_;simp only[AVal.cells];simp+decide only[qa,ev,putD,Slots.put,Slots.get,Slots.keep,if_true,if_false,true_and,↓qd,qb,setAt,List.set_cons_zero,List.set_cons_succ,Nat.zero_add,Nat.reduceAdd];apply hK;clear hK K;refine qN ?_;try simp only[Qf]
      refine qU h (by repeat (first|exact Sub.refl _|assumption|refine Sub.trans_set ?_ (by assumption))) (?_) ?_
      ·simp+decide only[Qw,qp,qi,Slots.get,if_true,if_false,and_true,qp,qi,qg Zz Xg,qW,qc,List.getD_cons_zero,List.getD_cons_succ,Nat.zero_add,Nat.reduceAdd,qB,qh,qE,allLive,Bool.and_true,qc,List.getD_cons_zero,List.getD_cons_succ,Nat.zero_add,Nat.reduceAdd,qB,qh,qE,allLive,Bool.and_true]
      simp+decide only[Slots.get,if_true,if_false,and_true,Qz,qp,qi,qg Zz Xg,qW,qc,List.getD_cons_zero,List.getD_cons_succ,Nat.zero_add,Nat.reduceAdd,qB,qh,qE,allLive,Bool.and_true,ne_eq,qc,List.getD_cons_zero,List.getD_cons_succ,Nat.zero_add,Nat.reduceAdd,qB,qh,qE,allLive,Bool.and_true,nxA,nxR];rw[if_pos hb5'];try rfl
     ·try simp only[decide_eq_true_eq,decide_eq_false_iff_not,Bool.not_eq_false',Bool.or_eq_false_iff]at hb5
      have hb5':¬(0<(YD s i).n\/(YD s i).e≠0):=fun q=>q.elim (fun q=>hb5.1 (by omega)) (fun q=>q hb5.2);rw[if_neg hb5'];refine Qa ?_;change Awp _ _ _ _ _ _ _;refine qO ?_;refine awp_rseq [0,2,99] (by rfl) fun K hK=>?_;simp+decide only[ev,putD,Slots.put,Slots.get,if_true,if_false,true_and,↓qj,qf];refine qM (V:= .int .u8 (Qk s i).toNat) (by rfl) (by rfl) (qbI w0 _ kx lf s mv tv i ((by repeat (first|exact AHeap.set_same _ _ _|assumption|refine(AHeap.set_ne _ _ (by first|assumption|exact Ne.symm (by assumption))).trans ?_))) (by omega)) ?_;refine qM (V:= .bool (Zy (Qk s i))) (by rfl) (by rfl) (c_wordy w0 _ _) ?_;simp+decide only[ev,putD,Slots.put,Slots.get,if_true,if_false,true_and,↓qj,qf,↓Xc,agP,Qu,qI,qH,qw,implies_true]
      (refine XJ (V:= .int .u8 (Qk s i).toNat) (f:=_) (cap:=_) (xs:=_) (by first|rfl|(simp+decide only[gv,qI,Slots.get,if_true,if_false,QO,qH])) (fun hg=>⟨rfl,?_⟩) (fun hg=>qbI w0 _ kx lf s mv tv i ((by repeat (first|exact AHeap.set_same _ _ _|assumption|refine(AHeap.set_ne _ _ (by first|assumption|exact Ne.symm (by assumption))).trans ?_))) (by omega)) ?_;· (simp+decide only[gv,qI,Slots.get,if_true,if_false,qw]at hg;simp+decide only[evs,ev,Slots.get,if_true,if_false,hg,Qm,List.append_nil,List.map_cons,List.map_nil,qJ,qG]<;>try rfl))
      simp+decide only[qa,ev,qJ,qG,putD,Slots.put,Slots.get,Slots.keep,if_true,if_false,true_and,gv,qI,qw,↓Xd,qo,agP,Qu,qH,implies_true,qD,cond_false,Zf,Zg,qz,qbh,↓QP,Qt,Qg,Xj,Xk];apply hK;clear hK K;refine qL (b:=_) rfl (fun hb6=>?_) (fun hb6=>?_)
      ·try simp only[decide_eq_false_iff_not,Bool.not_eq_true',Bool.and_eq_true]at hb6
       have hb6':Zy (Qk s i)=true/\Qk s i≠45:=⟨hb6.1,fun q=>hb6.2 ((XP _ 45).mpr q)⟩
       refine awp_rseq [2,3,4] (by rfl) fun K hK=>?_;simp+decide only[ev,putD,Slots.put,Slots.get,if_true,if_false,true_and,↓qj,qf];refine qM (V:=nxR (nameE s i)) (by rfl) (by rfl) (c_name w0 _ kx lf s mv tv i ((by repeat (first|exact AHeap.set_same _ _ _|assumption|refine(AHeap.set_ne _ _ (by first|assumption|exact Ne.symm (by assumption))).trans ?_))) hi (by rw[<-Yt hi];exact hb6.1) hs) ?_;simp+decide only[ev,putD,Slots.put,Slots.get,if_true,if_false,true_and,↓QJ,QA,QH,List.length_cons,List.length_nil,List.getD_cons_zero,List.getD_cons_succ,List.getD_cons_zero,List.getD_cons_succ,Nat.zero_add,Nat.reduceAdd,nxA,nxR];refine qm (by rfl) (by rfl) (by repeat (first|exact AHeap.set_same _ _ _|assumption|refine(AHeap.set_ne _ _ (by first|assumption|exact Ne.symm (by assumption))).trans ?_)) Xg (by rfl) (by rfl) (by first|exact Nat.le_refl _|decide|(simp;done)|(simp;omega)) (Nat.zero_le _) (by rfl) ?_;simp only[AVal.cells];simp+decide only[qa,ev,putD,Slots.put,Slots.get,Slots.keep,if_true,if_false,true_and,↓qd,qb,setAt,List.set_cons_zero,List.set_cons_succ,Nat.zero_add,Nat.reduceAdd];apply hK;clear hK K;refine qN ?_;try simp only[Qf]
       refine qU h (by repeat (first|exact Sub.refl _|assumption|refine Sub.trans_set ?_ (by assumption))) (?_) ?_
       ·simp+decide only[Qw,qp,qi,Slots.get,if_true,if_false,and_true,qp,qi,qg Zz Xg,qW,qc,List.getD_cons_zero,List.getD_cons_succ,Nat.zero_add,Nat.reduceAdd,qB,qh,qE,allLive,Bool.and_true,qc,List.getD_cons_zero,List.getD_cons_succ,Nat.zero_add,Nat.reduceAdd,qB,qh,qE,allLive,Bool.and_true]
       simp+decide only[Slots.get,if_true,if_false,and_true,Qz,qp,qi,qg Zz Xg,qW,qc,List.getD_cons_zero,List.getD_cons_succ,Nat.zero_add,Nat.reduceAdd,qB,qh,qE,allLive,Bool.and_true,ne_eq,qc,List.getD_cons_zero,List.getD_cons_succ,Nat.zero_add,Nat.reduceAdd,qB,qh,qE,allLive,Bool.and_true,nxA,nxR];rw[if_pos hb6'];try rfl
      ·try simp only[decide_eq_true_eq,Bool.not_eq_false',Bool.and_eq_false_iff]at hb6
       have hb6':¬(Zy (Qk s i)=true/\Qk s i≠45):=fun q=>by
        rcases hb6 with z|z
        ·rw[q.1]at z;cases z
        ·exact q.2 ((XP _ 45).mp z)
       rw[if_neg hb6'];refine Qa ?_;change Awp _ _ _ _ _ _ _;refine awp_rseq [2,3,4] (by rfl) fun K hK=>?_;simp+decide only[ev,putD,Slots.put,Slots.get,if_true,if_false,true_and,↓qj,qf];refine qM (V:=nxR (qde s i)) (by rfl) (by rfl) (c_sign w0 _ kx lf s mv tv i ((by repeat (first|exact AHeap.set_same _ _ _|assumption|refine(AHeap.set_ne _ _ (by first|assumption|exact Ne.symm (by assumption))).trans ?_))) hi hs) ?_;simp+decide only[ev,putD,Slots.put,Slots.get,if_true,if_false,true_and,↓QJ,QA,QH,List.length_cons,List.length_nil,List.getD_cons_zero,List.getD_cons_succ,List.getD_cons_zero,List.getD_cons_succ,Nat.zero_add,Nat.reduceAdd,nxA,nxR];refine qm (by rfl) (by rfl) (by repeat (first|exact AHeap.set_same _ _ _|assumption|refine(AHeap.set_ne _ _ (by first|assumption|exact Ne.symm (by assumption))).trans ?_)) Xg (by rfl) (by rfl) (by first|exact Nat.le_refl _|decide|(simp;done)|(simp;omega)) (Nat.zero_le _) (by rfl) ?_;simp only[AVal.cells];simp+decide only[qa,ev,putD,Slots.put,Slots.get,Slots.keep,if_true,if_false,true_and,↓qd,qb,setAt,List.set_cons_zero,List.set_cons_succ,Nat.zero_add,Nat.reduceAdd];apply hK;clear hK K;refine qN ?_;refine qU h (by repeat (first|exact Sub.refl _|assumption|refine Sub.trans_set ?_ (by assumption))) (?_) ?_
       ·simp+decide only[Qw,qp,qi,Slots.get,if_true,if_false,and_true,qp,qi,qg Zz Xg,qW,qc,List.getD_cons_zero,List.getD_cons_succ,Nat.zero_add,Nat.reduceAdd,qB,qh,qE,allLive,Bool.and_true,qc,List.getD_cons_zero,List.getD_cons_succ,Nat.zero_add,Nat.reduceAdd,qB,qh,qE,allLive,Bool.and_true]
       simp+decide only[Slots.get,if_true,if_false,and_true,Qz,qp,qi,qg Zz Xg,qW,qc,List.getD_cons_zero,List.getD_cons_succ,Nat.zero_add,Nat.reduceAdd,qB,qh,qE,allLive,Bool.and_true,qc,List.getD_cons_zero,List.getD_cons_succ,Nat.zero_add,Nat.reduceAdd,qB,qh,qE,allLive,Bool.and_true,nxA,nxR];try rfl
end Go.Proofs.YtlhhaagmakhilaaGreatDoor
namespace Go.Proofs.YtlhhaagmakhilaaGreatDoor
open Go.AM
open Go.Proofs
open Go.Col
set_option maxRecDepth 100000
def Xe(cb:Option Buf)(x:Rd):List AVal:=[QT 3 cb, .int .i64 x.line, .int .i64 x.col, .bool x.odd]
def rdH(kx:Nat)(B:AHeap)(cb mb:Option Buf)(x:Rd):AHeap:=QY (QY (B.set kx ⟨Xe cb x,0⟩) cb) mb
def XZ(p:CardC×AVal):List AVal:=[.bool p.1.left, .str p.1.text,p.2]
structure RdInv(w0:World)(h:AHeap)(kx:Nat)(B M:AHeap)(cb mb:Option Buf)(x:Rd):Prop where
 sub:Sub h B
 subM:Sub M B
 hk:B kx=none
 okc:bufOk (B.set kx ⟨Xe cb x,0⟩) 3 cb
 okm:bufOk (QY (B.set kx ⟨Xe cb x,0⟩) cb) 3 mb
 cards:(x.cards=[]/\cb=none/\mb=none)\/∃(done:List (CardC×AVal)) (c:CardC) (kc:Nat),x.cards=done.map (·.1)++[c]/\cb=some ⟨kc,(done.map XZ).flatten++[.bool c.left, .str c.text,QT 3 mb]⟩/\Uc mb=(c.marks.map WO).flatten/\∀p∈done,IsL w0 M 3 p.2 (p.1.marks.map WO)
theorem bufNew{H:AHeap}{b:Option Buf}{j:Nat}(hj:QY H b j=none)(c:Blk):(QY H b).set j c=QY (H.set j c) b/\H j=none:=by
 cases b with
 |none=>exact⟨rfl,hj⟩
 |some b=>
  have hne:j≠b.blk:=fun e=>by subst e;rw[show QY H (some b)=H.set b.blk ⟨b.cells,0⟩from rfl,AHeap.set_same]at hj;cases hj
  exact⟨AHeap.set_comm _ _ _ hne,by rw[show QY H (some b)=H.set b.blk ⟨b.cells,0⟩from rfl,AHeap.set_ne _ _ hne]at hj;exact hj⟩
theorem bufOkNew{H:AHeap}{es:Nat}{b:Option Buf}(hb:bufOk H es b){j:Nat}(hj:QY H b j=none)(c:Blk):bufOk (H.set j c) es b:=by
 cases b with
 |none=>trivial
 |some b=>
  refine⟨?_,hb.2⟩;have hne:j≠b.blk:=fun e=>by subst e;rw[show QY H (some b)=H.set b.blk ⟨b.cells,0⟩from rfl,AHeap.set_same]at hj;cases hj
  rw[AHeap.set_ne _ _ hne.symm];exact hb.1
theorem bufSwap{H:AHeap}{es:Nat}{a b:Option Buf}(ha:bufOk H es a)(hb:bufOk (QY H a) es b):QY (QY H a) b=QY (QY H b) a/\bufOk H es b/\bufOk (QY H b) es a:=by
 cases a with
 |none=>exact⟨rfl,hb,trivial⟩
 |some a=>
  cases b with
  |none=>exact⟨rfl,trivial,ha⟩
  |some b=>
   have hne:b.blk≠a.blk:=fun e=>by
    have:=hb.1;rw[e,show QY H (some a)=H.set a.blk ⟨a.cells,0⟩from rfl,AHeap.set_same]at this;cases this
   have hb1:H b.blk=none:=by
    have:=hb.1
    rwa [show QY H (some a)=H.set a.blk ⟨a.cells,0⟩from rfl,AHeap.set_ne _ _ hne]at this
   exact⟨AHeap.set_comm _ _ _ hne,⟨hb1,hb.2⟩,⟨(AHeap.set_ne _ _ hne.symm).trans ha.1,ha.2⟩⟩
theorem rdH_new{w0:World}{h:AHeap}{kx:Nat}{B M:AHeap}{cb mb:Option Buf}{x:Rd}(hi:RdInv w0 h kx B M cb mb x){j:Nat}(hj:rdH kx B cb mb x j=none)(c:Blk):
 (rdH kx B cb mb x).set j c=rdH kx (B.set j c) cb mb x/\RdInv w0 h kx (B.set j c) M cb mb x/\j≠kx/\B j=none:=by
 unfold rdH at hj;obtain⟨e1,h1⟩:=bufNew hj c;obtain⟨e2,h2⟩:=bufNew h1 c;have hne:j≠kx:=fun e=>by subst e;rw[AHeap.set_same]at h2;cases h2
 have h3:B j=none:=by rwa [AHeap.set_ne _ _ hne]at h2
 have e3:(B.set kx ⟨Xe cb x,0⟩).set j c=(B.set j c).set kx ⟨Xe cb x,0⟩:=AHeap.set_comm _ _ _ hne;refine⟨?_,⟨Sub.trans_set hi.sub (hi.sub.none h3),Sub.trans_set hi.subM (hi.subM.none h3),(AHeap.set_ne _ _ hne.symm).trans hi.hk,?_,?_,hi.cards⟩,hne,h3⟩
 ·unfold rdH
  rw[e1,e2,e3]
 ·rw[<-e3]
  exact bufOkNew hi.okc h1 c
 ·rw[<-e3,<-e2]
  exact bufOkNew hi.okm hj c
section
variable {w0:World} {h:AHeap} {kx:Nat} {B M:AHeap} {cb mb:Option Buf} {x:Rd}
theorem RdInv.at(hi:RdInv w0 h kx B M cb mb x):rdH kx B cb mb x kx=some ⟨Xe cb x,0⟩:=ZN hi.okm (ZN hi.okc (AHeap.set_same _ _ _))
theorem RdInv.other(hi:RdInv w0 h kx B M cb mb x){j:Nat}{c:Blk}(hj:B j=some c):rdH kx B cb mb x j=some c:=
 ZN hi.okm (ZN hi.okc ((AHeap.set_ne _ _ (fun e=>by subst e;rw[hi.hk]at hj;cases hj)).trans hj))
theorem RdInv.above(hi:RdInv w0 h kx B M cb mb x):Sub h (rdH kx B cb mb x):=fun _ _ hj=>hi.other (hi.sub _ _ hj)
theorem RdInv.put(hi:RdInv w0 h kx B M cb mb x){j:Nat}{c:Blk}(hj:B j=some c)(hh:h j=none)(hM:M j=none)(d:Blk):(rdH kx B cb mb x).set j d=rdH kx (B.set j d) cb mb x/\RdInv w0 h kx (B.set j d) M cb mb x:=by
 have hne:j≠kx:=fun e=>by subst e;rw[hi.hk]at hj;cases hj
 have hj1:B.set kx ⟨Xe cb x,0⟩ j=some c:=(AHeap.set_ne _ _ hne).trans hj;have e3:(B.set kx ⟨Xe cb x,0⟩).set j d=(B.set j d).set kx ⟨Xe cb x,0⟩:=AHeap.set_comm _ _ _ hne;refine⟨?_,⟨Sub.trans_set hi.sub hh,Sub.trans_set hi.subM hM,(AHeap.set_ne _ _ hne.symm).trans hi.hk,?_,?_,hi.cards⟩⟩
 ·unfold rdH
  rw[YS hi.okm (ZN hi.okc hj1),YS hi.okc hj1,e3]
 ·rw[<-e3]
  exact ZH hi.okc hj1 d
 ·rw[<-e3,<-YS hi.okc hj1]
  exact ZH hi.okm (ZN hi.okc hj1) d
theorem cell3_wide:∀p:CardC×AVal,(XZ p).length=3:=fun _=>rfl
theorem RdInv.many(hi:RdInv w0 h kx B M cb mb x):(Uc cb).length / 3=x.cards.length:=by
 rcases hi.cards with⟨c1,c2,_⟩|⟨done,c',kc,c1,c2,c3,c4⟩
 ·rw[c1,c2];rfl
 ·rw[c1,c2]
  simp only[Uc,List.length_append,List.length_map,List.length_cons,List.length_nil];rw[Yn (es:=3) (by intro y hy;obtain⟨p,_,rfl⟩:=List.mem_map.1 hy;rfl),List.length_map];omega
theorem buf_len(P:Program){t e:TypeId}(ht:P.underlying t=some (.slice e))(es:Nat)(b:Option Buf):∀H:AHeap,ZE P H t (QT es b)=⟨True, .int .i64 ((Uc b).length / es:Nat)⟩:=by
 cases b with
 |none=>intro H;simp[QT,Uc,ZE,Ul,pLen,ht]
 |some b=>intro H;simp only[QT,Uc,ZE,Ul,pLen,ht,cond_false]
end
end Go.Proofs.YtlhhaagmakhilaaGreatDoor
namespace Go.Proofs.YtlhhaagmakhilaaGreatDoor
open Go.AM
open Go.Proofs
open Go.Col
open Go.Tok
open Go.RowKit (Below)
set_option maxRecDepth 100000
def tokAt(c:CardC)(j:Nat)(t:Nx):TokC:=⟨t.kind,t.text,(atE c j).1,(atE c j).2.1,decide ((atE c j).2.1<12)⟩
def cardR(c:CardC)(i:Nat)(l:List TokC):List TokC×FaultC:=qcK c (c.text.length+1-i) i l
theorem WT(c:CardC)(f i:Nat)(l:List TokC):qcK c (f+1) i l=
 if c.text.length<=ZG c.text (ZB l).1 i then(l,okF)
 else if errE (Wm c.text (ZG c.text (ZB l).1 i) l) l.length≠0 then(l,⟨errE (Wm c.text (ZG c.text (ZB l).1 i) l) l.length,(atE c (ZG c.text (ZB l).1 i)).1,(atE c (ZG c.text (ZB l).1 i)).2.1⟩)
 else qcK c f (ZG c.text (ZB l).1 i+(Wm c.text (ZG c.text (ZB l).1 i) l).n) (l++[tokAt c (ZG c.text (ZB l).1 i) (Wm c.text (ZG c.text (ZB l).1 i) l)]):=rfl
theorem cardGo_fuel(c:CardC):∀(f g i:Nat) (l:List TokC),c.text.length<i+f->c.text.length<i+g->qcK c f i l=qcK c g i l
 |0,g,i,l,h,h'=>by
  have hj:=qdd c.text (ZB l).1 i;cases g with
  |zero=>rfl
  |succ g=>rw[WT,if_pos (by omega)];rfl
 |f+1,0,i,l,h,h'=>by
  have hj:=qdd c.text (ZB l).1 i;rw[WT,if_pos (by omega)];rfl
 |f+1,g+1,i,l,h,h'=>by
  have hj:=qdd c.text (ZB l).1 i;rw[WT,WT];split
  ·rfl
  ·rename_i hl
   split
   ·rfl
   ·rename_i he
    have hn:=next_len (by omega) (errE_ok (Decidable.of_not_not he));have:=hn.n0;exact cardGo_fuel c f g _ _ (by omega) (by omega)
theorem cardR_step(c:CardC)(i:Nat)(l:List TokC):cardR c i l=
 if c.text.length<=ZG c.text (ZB l).1 i then(l,okF)
 else if errE (Wm c.text (ZG c.text (ZB l).1 i) l) l.length≠0 then(l,⟨errE (Wm c.text (ZG c.text (ZB l).1 i) l) l.length,(atE c (ZG c.text (ZB l).1 i)).1,(atE c (ZG c.text (ZB l).1 i)).2.1⟩)
 else cardR c (ZG c.text (ZB l).1 i+(Wm c.text (ZG c.text (ZB l).1 i) l).n) (l++[tokAt c (ZG c.text (ZB l).1 i) (Wm c.text (ZG c.text (ZB l).1 i) l)]):=by
 have hj:=qdd c.text (ZB l).1 i;by_cases h:c.text.length<i
 ·unfold cardR
  rw[show c.text.length+1-i=0 by omega,if_pos (by omega)];rfl
 ·unfold cardR
  rw[show c.text.length+1-i=(c.text.length-i)+1 by omega,WT];split
  ·rfl
  ·split
   ·rfl
   ·rename_i hl he
    have hn:=next_len (by omega) (errE_ok (Decidable.of_not_not he));have:=hn.n0;exact cardGo_fuel c _ _ _ _ (by omega) (by omega)
theorem cardGo_inv(c:CardC)(P:TokC->Prop)(hP:∀(j:Nat) (l:List TokC),j<c.text.length->Qk c.text j≠32->(Wm c.text j l).e=0->P (tokAt c j (Wm c.text j l))):∀(f i:Nat) (l:List TokC),(∀t∈l,P t)->∀t∈(qcK c f i l).1,P t
 |0,i,l,h=>h
 |f+1,i,l,h=>by
  rw[WT];split
  ·exact h
  ·rename_i hl
   split
   ·exact h
   ·rename_i he
    refine cardGo_inv c P hP f _ _ fun t ht=>?_;rw[List.mem_append,List.mem_singleton]at ht;rcases ht with ht|rfl
    ·exact h t ht
    ·exact hP _ _ (by omega) (skip_not (by omega)) (errE_ok (Decidable.of_not_not he))
theorem cardT_inv(c:CardC)(P:TokC->Prop)(hP:∀(j:Nat) (l:List TokC),validC c=true->j<c.text.length->Qk c.text j≠32->(Wm c.text j l).e=0->P (tokAt c j (Wm c.text j l)))(l:List TokC)(h:∀t∈l,P t):∀t∈(UW c l).1,P t:=by
 unfold UW;split
 ·exact h
 ·rename_i h0
  have hv:validC c=true:=by
   unfold atE at h0;split at h0
   ·rename_i q;exact q.1
   ·exact absurd (show((0:Int),(0:Int),(1:Int)).2.2≠0 by decide) h0
  exact cardGo_inv c P (fun j l a b d=>hP j l hv a b d) _ _ _ h
theorem scanGo_inv(P:TokC->Prop):∀(cs:List CardC),(∀c∈cs,∀(j:Nat) (l:List TokC),validC c=true->j<c.text.length->Qk c.text j≠32->(Wm c.text j l).e=0->P (tokAt c j (Wm c.text j l)))->∀(l:List TokC),(∀t∈l,P t)->∀t∈(qba cs l).1,P t
 |[],_,l,h=>h
 |c::r,hP,l,h=>by
  rw[qba];split
  ·exact fun t ht=>by cases ht
  ·exact scanGo_inv P r (fun d hd=>hP d (by simp[hd])) _ (cardT_inv c P (hP c (by simp)) l h)
theorem cardGo_many(c:CardC):∀(f i:Nat) (l:List TokC),l.length<=65536->(qcK c f i l).1.length<=65536
 |0,i,l,h=>h
 |f+1,i,l,h=>by
  rw[WT];split
  ·exact h
  ·split
   ·exact h
   ·rename_i he
    refine cardGo_many c f _ _ ?_;have hlt:¬65536<=l.length:=fun q=>by
     have h0:=errE_ok (Decidable.of_not_not he);unfold errE at he;rw[if_pos ⟨h0,q⟩]at he;exact he (by decide)
    simp;omega
theorem cardT_many(c:CardC)(l:List TokC)(h:l.length<=65536):(UW c l).1.length<=65536:=by
 unfold UW;split
 ·exact h
 ·exact cardGo_many c _ _ _ h
theorem scanGo_many:∀(cs:List CardC) (l:List TokC),l.length<=65536->(qba cs l).1.length<=65536
 |[],l,h=>h
 |c::r,l,h=>by
  rw[qba];split
  ·exact Nat.zero_le _
  ·exact scanGo_many r _ (cardT_many c l h)
def scH(kx:Nat)(B:AHeap)(tb:Option Buf)(lf:Bool)(s:Str)(mv:AVal)(i:Nat):AHeap:=QY (B.set kx ⟨[.bool lf, .str s,mv, .int .i64 i,QT 5 tb],0⟩) tb
structure ScInv(kx:Nat)(B:AHeap)(tb:Option Buf)(l:List TokC):Prop where
 hk:B kx=none
 ok:∀c,bufOk (B.set kx c) 5 tb
 eq:Uc tb=(l.map Xv).flatten
theorem Ya{l:List TokC}:∀x∈l.map Xv,x.length=5:=fun x hx=>by obtain⟨y,_,rfl⟩:=List.mem_map.1 hx;rfl
section
variable {w0:World} {kx:Nat} {B:AHeap} {tb:Option Buf} {l:List TokC} {lf:Bool} {s:Str} {mv:AVal} {i:Nat}
theorem ScInv.at(hi:ScInv kx B tb l):scH kx B tb lf s mv i kx=some ⟨[.bool lf, .str s,mv, .int .i64 i,QT 5 tb],0⟩:=ZN (hi.ok _) (AHeap.set_same _ _ _)
theorem ScInv.other(hi:ScInv kx B tb l){j:Nat}{c:Blk}(hj:B j=some c):scH kx B tb lf s mv i j=some c:=
 ZN (hi.ok _) ((AHeap.set_ne _ _ (fun e=>by subst e;rw[hi.hk]at hj;cases hj)).trans hj)
theorem ScInv.above(hi:ScInv kx B tb l):Sub B (scH kx B tb lf s mv i):=fun _ _ hj=>hi.other hj
theorem ScInv.toks(hi:ScInv kx B tb l)(c:Blk):IsL w0 (QY (B.set kx c) tb) 5 (QT 5 tb) (l.map Xv):=IsL.buf (hi.ok c) (by decide) hi.eq Ya (Sub.refl _)
theorem ScInv.set(hi:ScInv kx B tb l)(c:Blk):(scH kx B tb lf s mv i).set kx c=QY (B.set kx c) tb:=by
 unfold scH;rw[YS (hi.ok _) (AHeap.set_same _ _ _),AHeap.set_set]
theorem ScInv.lay(hi:ScInv kx B tb l){j:Nat}(hj:scH kx B tb lf s mv i j=none)(c:Blk):
 (scH kx B tb lf s mv i).set j c=scH kx (B.set j c) tb lf s mv i/\ScInv kx (B.set j c) tb l/\j≠kx/\B j=none:=by
 have hj':=hj;unfold scH at hj;obtain⟨e1,h1⟩:=bufNew hj c;have hne:j≠kx:=fun e=>by subst e;rw[AHeap.set_same]at h1;cases h1
 have h3:B j=none:=by rwa [AHeap.set_ne _ _ hne]at h1
 have e3:∀d,(B.set kx d).set j c=(B.set j c).set kx d:=fun d=>AHeap.set_comm _ _ _ hne;refine⟨?_,⟨(AHeap.set_ne _ _ hne.symm).trans hi.hk,fun d=>?_,hi.eq⟩,hne,h3⟩
 ·unfold scH
  rw[e1,e3]
 ·rw[<-e3]
  refine bufOkNew (hi.ok d) ?_ c;rw[<-ScInv.set hi (lf:=lf) (s:=s) (mv:=mv) (i:=i) d,AHeap.set_ne _ _ hne];exact hj'
theorem ScInv.down(hi:ScInv kx B tb l){B':AHeap}(hs:Sub B' B):ScInv kx B' tb l:=⟨hs.none hi.hk,fun c=>(hi.ok c).sub (Sub.set_both hs _ _),hi.eq⟩
theorem ScInv.none(hi:ScInv kx B tb l){B':AHeap}{j:Nat}{b:Blk}(hj:B j=some b)(hj':B' j=Option.none):scH kx B' tb lf s mv i j=Option.none:=by
 have hne:j≠kx:=fun e=>by rw[e,hi.hk]at hj;cases hj
 have hok:=hi.ok ⟨[],0⟩;unfold scH;cases tb with
 |none=>exact(AHeap.set_ne _ _ hne).trans hj'
 |some q=>
  have hq:j≠q.blk:=fun e=>by
   have:=hok.1;rw[<-e,AHeap.set_ne _ _ hne,hj]at this;cases this
  exact(AHeap.set_ne _ _ hq).trans ((AHeap.set_ne _ _ hne).trans hj')
theorem scH_sub{B':AHeap}(hs:Sub B' B):Sub (scH kx B' tb lf s mv i) (scH kx B tb lf s mv i):=by
 unfold scH;cases tb with
 |none=>exact Sub.set_both hs _ _
 |some b=>exact Sub.set_both (Sub.set_both hs _ _) _ _
end
end Go.Proofs.YtlhhaagmakhilaaGreatDoor
namespace Go.Proofs.YtlhhaagmakhilaaGreatDoor
open Go.AM
open Go.Proofs
open Go.Col
open Go.Tok
open Go.RowKit (Below)
set_option maxRecDepth 100000
structure ScG where
 i:Nat
 l:List TokC
 tb:Option Buf
structure ScOk(kx:Nat)(B:AHeap)(c:CardC)(R:List TokC×FaultC)(g:ScG):Prop where
 inv:ScInv kx B g.tb g.l
 i:g.i<=c.text.length
 eq:cardR c g.i g.l=R
 len:g.l.length<=65536
set_option maxHeartbeats 1000000 in
theorem c_card(w0:World)(kx:Nat)(B:AHeap)(tb:Option Buf)(c:CardC)(mv:AVal)(l:List TokC)(hi:ScInv kx B tb l)(hm:IsL w0 B 3 mv (c.marks.map WO))(hml:c.marks.length<=4611686018427387904)(hct:c.text.length<=1099511627776)(hl:l.length<=65536):
 ACall Tryz.prog w0 65 [.ptr (.own kx) 0] (scH kx B tb c.left c.text mv 0)
  (fun v h'=>v=QS (UW c l).2/\(UW c l).1.length<=65536/\∃tb' i',h'=scH kx B tb' c.left c.text mv i'/\ScInv kx B tb' (UW c l).1):=by
 have hlm:=hm.live;obtain⟨H0,hH0⟩:∃H0,H0=scH kx B tb c.left c.text mv 0:=⟨_,rfl⟩
 have eb_x:H0 kx=some ⟨[.bool c.left, .str c.text,mv, .int .i64 (0:Nat),QT 5 tb],0⟩:=by rw[hH0];exact hi.at
 have hs_H0:Sub B H0:=by rw[hH0];exact hi.above
 have ht0:(if (atE c 0).2.2≠0 then(l,(⟨(atE c 0).2.2,0,0⟩:FaultC))else cardR c 0 l)=UW c l:=rfl;rw[<-hH0];refine qR (n:=82) (rs:=[.cell 2 35]) Tryz.func65 rfl rfl rfl rfl (Nat.le_of_ble_eq_true rfl) ?_;simp only[Qc];refine awp_rseq [0,2] (by rfl) fun K hK=>?_;refine Qi qaF (cs:=[.int .i64 0, .int .i64 0, .int .i64 0]) (by rfl) fun k0q0 hk0q0=>?_;have hn_0q0:H0 k0q0=none:=by first|assumption|(simp only[AHeap.set_none]at hk0q0;simp only[hk0q0])
 have hf_0q0:B k0q0=none:=Sub.none hs_H0 hn_0q0;have ne_0q0_x:k0q0≠kx:=AHeap.ne_some hn_0q0 eb_x;simp+decide only[qa,putD,Slots.put,Slots.keep,if_true,if_false];apply hK;clear hK K;refine qO ?_;refine awp_rseq [0,2,4] (by rfl) fun K hK=>?_;simp+decide only[ev,putD,Slots.put,Slots.get,if_true,if_false,true_and,↓qj,qf,↓Qh,qK,Qj,↓qA,ql,WI,↓qF,Qb,qg ag129 qbV,QU,ne_eq,not_false_eq_true,ne_0q0_x.symm,Qp w0 eb_x,qc,List.getD_cons_zero,List.getD_cons_succ,Nat.zero_add,Nat.reduceAdd,qB,qE,allLive,Bool.and_true,hlm];refine qM (V:= .tuple [posA (atE c 0).1 (atE c 0).2.1, .int .i64 (atE c 0).2.2]) (by rfl) (by rfl) (c_At w0 _ c mv 0 (hm.mono (by repeat (first|exact Sub.refl _|assumption|refine Sub.set_both ?_ _ _|refine Sub.trans_set ?_ (by repeat (first|assumption|refine(AHeap.set_ne _ _ (by first|assumption|exact Ne.symm (by assumption))).trans ?_))))) hml (by omega) (by omega)) ?_;simp+decide only[ev,putD,Slots.put,Slots.get,if_true,if_false,true_and,↓qj,qf,↓QJ,QA,QH,List.length_cons,List.length_nil,List.getD_cons_zero,List.getD_cons_succ,List.getD_cons_zero,List.getD_cons_succ,Nat.zero_add,Nat.reduceAdd,posA];refine Qi ze33 (cs:=[.int .i64 0, .int .i64 0]) (by rfl) fun k1q8 hk1q8=>?_;have ne_1q8_0q0:k1q8≠k0q0:=by simp only[AHeap.set_none]at hk1q8;simp only[hk1q8,ne_eq,not_false_eq_true]
 have hn_1q8:H0 k1q8=none:=by first|assumption|(simp only[AHeap.set_none]at hk1q8;simp only[hk1q8])
 have hf_1q8:B k1q8=none:=Sub.none hs_H0 hn_1q8;have ne_1q8_x:k1q8≠kx:=AHeap.ne_some hn_1q8 eb_x;refine qm (by rfl) (by rfl) (by repeat (first|exact AHeap.set_same _ _ _|assumption|refine(AHeap.set_ne _ _ (by first|assumption|exact Ne.symm (by assumption))).trans ?_)) qaZ (by rfl) (by rfl) (by first|exact Nat.le_refl _|decide|(simp;done)|(simp;omega)) (Nat.zero_le _) (by rfl) ?_;simp only[AHeap.set_set,AVal.cells];simp+decide only[qa,ev,putD,Slots.put,Slots.get,Slots.keep,if_true,if_false,true_and,↓qd,qb,setAt,List.set_cons_zero,List.set_cons_succ,Nat.zero_add];apply hK;clear hK K;refine awp_rseq [0,2,4,19] (by rfl) fun K hK=>?_;simp+decide only[qa,ev,qJ,qG,putD,Slots.put,Slots.get,Slots.keep,if_true,if_false,true_and,↓qj,qf,↓qC,qo,qD,cond_false,qz,qbh];apply hK;clear hK K;refine qL (b:=_) rfl (fun hb1=>?_) (fun hb1=>?_)
 ·try simp only[decide_eq_false_iff_not,Bool.not_eq_true']at hb1
  refine awp_rseq [2] (by rfl) fun K hK=>?_;simp+decide only[ev,qJ,qG,putD,Slots.put,Slots.get,if_true,if_false,true_and,↓qj,qf,↓Qn,↓qV,bld35_0,evP,List.map_cons,List.map_nil];refine qm (by rfl) (by rfl) (by repeat (first|exact AHeap.set_same _ _ _|assumption|refine(AHeap.set_ne _ _ (by first|assumption|exact Ne.symm (by assumption))).trans ?_)) QD (by rfl) (by rfl) (by first|exact Nat.le_refl _|decide|(simp;done)|(simp;omega)) (Nat.zero_le _) (by rfl) ?_;simp only[AVal.cells];simp+decide only[qa,ev,putD,Slots.get,Slots.keep,if_true,if_false,setAt,List.set_cons_zero,List.set_cons_succ,Nat.zero_add,Nat.reduceAdd];apply hK;clear hK K;refine qN ?_;try simp only[Qf]
  refine QN (?_) ?_
  ·simp+decide only[Qw,qi,Slots.get,if_true,and_true,qi,qg Xh QD,qW,qc,List.getD_cons_zero,List.getD_cons_succ,Nat.zero_add,Nat.reduceAdd,qh,allLive,Bool.and_true,qc,List.getD_cons_zero,List.getD_cons_succ,Nat.zero_add,Nat.reduceAdd,qh,allLive,Bool.and_true]
  simp+decide only[Slots.get,if_true,YM,qi,qg Xh QD,qW,qc,List.getD_cons_zero,List.getD_cons_succ,Nat.zero_add,Nat.reduceAdd,qh,allLive,Bool.and_true,qc,List.getD_cons_zero,List.getD_cons_succ,Nat.zero_add,Nat.reduceAdd,qh,allLive,Bool.and_true,QS];rw[if_pos hb1]at ht0;rw[<-ht0];exact⟨scH kx B tb c.left c.text mv 0,by rw[<-hH0];exact(by repeat (first|exact Sub.refl _|assumption|refine Sub.set_both ?_ _ _|refine Sub.trans_set ?_ (by repeat (first|assumption|refine(AHeap.set_ne _ _ (by first|assumption|exact Ne.symm (by assumption))).trans ?_)))),rfl,hl,tb,0,rfl,hi⟩
 ·try simp only[decide_eq_true_eq,Bool.not_eq_false']at hb1
  have hv0:(atE c 0).2.2=0:=by simpa using hb1
  rw[if_neg (by rw[hv0];simp)]at ht0;obtain⟨a1,a2,a3,a4⟩:=hi.lay (j:=k0q0) (lf:=c.left) (s:=c.text) (mv:=mv) (i:=0) (by rw[<-hH0];exact hk0q0) ⟨[.int .i64 0, .int .i64 0, .int .i64 0],0⟩;obtain⟨B1,hB1⟩:∃B1,B1=B.set k0q0 ⟨[.int .i64 0, .int .i64 0, .int .i64 0],0⟩:=⟨_,rfl⟩
  rw[<-hB1]at a1 a2;have hB1s:Sub B B1:=by rw[hB1];exact Sub.set a4
  have hB1k:B1 k0q0=some ⟨[.int .i64 0, .int .i64 0, .int .i64 0],0⟩:=by rw[hB1];exact AHeap.set_same _ _ _
  have hv:validC c=true:=by
   unfold atE at hv0;split at hv0
   ·rename_i q;exact q.1
   ·cases hv0
  refine Awp.forget (h':=scH kx B1 tb c.left c.text mv 0) (by rw[<-a1,<-hH0];exact Sub.set hk1q8) ?_;refine Qa ?_;change Awp _ _ _ _ _ _ _;refine qO ?_;refine QB ?_;refine XH [0,2] (fun g:ScG=>[(0, .ptr (.own kx) 0),(2, .ptr (.own k0q0) 0)]) (fun g:ScG=>scH kx B1 g.tb c.left c.text mv g.i) (fun g:ScG=>ScOk kx B1 c (UW c l) g) (fun g:ScG=>c.text.length-g.i) ⟨0,l,tb⟩ (by rfl) (Sub.refl _) ⟨a2,Nat.zero_le _,ht0,hl⟩ ?_;rintro⟨i,l1,tb1⟩ ⟨i1,i2,i3,i4⟩;simp only at i1 i2 i3 i4|-
  have hjl:=skipE_le c.text (ZB l1).1 i i2;have hjg:=qdd c.text (ZB l1).1 i;have hnot:=skip_not (s:=c.text) (next:=(ZB l1).1) (i:=i);have hstep:=cardR_step c i l1;have hsk:=c_skip w0 (scH kx B1 tb1 c.left c.text mv i) kx c.left c.text mv (QT 5 tb1) i l1 i1.at (i1.toks _) (fun d=>by rw[i1.set];exact i1.toks d) (by omega) hct i2;have hst:=i1.set (lf:=c.left) (s:=c.text) (mv:=mv) (i:=i) ⟨[.bool c.left, .str c.text,mv, .int .i64 (ZG c.text (ZB l1).1 i),QT 5 tb1],0⟩;obtain⟨j,hj⟩:∃j,j=ZG c.text (ZB l1).1 i:=⟨_,rfl⟩
  rw[<-hj]at hjl hjg hnot hstep hsk hst;rw[i3]at hstep;have hval:atE c j=((atE c j).1,(atE c j).2.1,0):=by
   unfold atE;rw[if_pos ⟨hv,by omega,by omega⟩]
  refine qO ?_;refine awp_rseq [0,2,23] (by rfl) fun K hK=>?_;simp+decide only[ev,putD,Slots.put,Slots.get,if_true,if_false,true_and,↓qj,qf];refine QI (by rfl) (by rfl) (hsk) fun x4q1 h4q1 hx4q1=>?_;obtain⟨hv4,hh4⟩:=hx4q1;rw[hv4,hh4,hst];simp+decide only[qa,putD,Slots.put,Slots.keep,if_true,if_false];apply hK;clear hK K;refine qL (b:=_) rfl (fun hb2=>?_) (fun hb2=>?_)
  ·try simp only[decide_eq_true_eq]at hb2
   refine Qa ?_;change Awp _ _ _ _ _ _ _;refine QB ?_;have hjlt:j<c.text.length:=by simpa using hb2
   have h32:=hnot hjlt;obtain⟨H1,hH1⟩:∃H1,H1=scH kx B1 tb1 c.left c.text mv j:=⟨_,rfl⟩
   have htk:IsL w0 H1 5 (QT 5 tb1) (l1.map Xv):=by rw[hH1];exact i1.toks _
   replace eb_x:H1 kx=some ⟨[.bool c.left, .str c.text,mv, .int .i64 j,QT 5 tb1],0⟩:=by rw[hH1];exact i1.at
   have eb_0q0:H1 k0q0=some ⟨[.int .i64 0, .int .i64 0, .int .i64 0],0⟩:=by rw[hH1];exact i1.other hB1k
   have hs_H1:Sub B H1:=by rw[hH1];exact hB1s.trans i1.above
   have htl:=htk.live;have hlen:=htk.len Tryz.underlying26;rw[List.length_map]at hlen;rw[if_neg (by omega)]at hstep;obtain⟨t,ht⟩:∃t,t=Wm c.text j l1:=⟨_,rfl⟩
   rw[<-ht]at hstep;show Awp _ _ _ _ _ _ (scH kx B1 tb1 c.left c.text mv j)
   rw[<-hH1];refine Ww 13 [11] [0,2,5] mixed (by kernel_rfl) (by rfl) fun K hK=>?_;simp only[List.take_succ_cons,List.take_zero,List.drop_succ_cons,List.drop_zero];simp+decide only[ev,putD,Slots.put,Slots.get,if_true,if_false,true_and,↓Um,qf,↓Wn,qK,Qj,↓Zu,ql,WI,↓WH,Zr,qg ag129 qbV,YW,qy ag3,Qp w0 eb_x,qc,List.getD_cons_zero,List.getD_cons_succ,Nat.zero_add,Nat.reduceAdd,qB,qh,qE,allLive,Bool.and_true,hlm];refine qbo (V:= .tuple [posA (atE c j).1 (atE c j).2.1, .int .i64 (atE c j).2.2]) (by rfl) (by rfl) (by first|trivial|(simp+decide only[AVal.okIn,WM,and_true,true_and,QS,WO,posA,cardA,nxA,nxR,AHeap.set_same,Option.isSome_some];done)|(simp[AVal.okIn,WM,AHeap.set];done)) (fun g hg=>c_At w0 _ c mv j (hm.mono (hs_H1.trans hg)) hml (by omega) (by omega)) ?_;simp+decide only[ev,putD,Slots.put,Slots.get,if_true,if_false,true_and,↓Um,qf,↓fp_extract,QA,QH,List.length_cons,List.length_nil,List.getD_cons_zero,List.getD_cons_succ,List.getD_cons_zero,List.getD_cons_succ,Nat.zero_add,Nat.reduceAdd,posA];refine qdC (by rfl) ?_;refine Qi ze33 (cs:=[.int .i64 0, .int .i64 0]) (by rfl) fun k5q12 hk5q12=>?_;have hn_5q12:H1 k5q12=none:=by first|assumption|(simp only[AHeap.set_none]at hk5q12;simp only[hk5q12])
   have hf_5q12:B k5q12=none:=Sub.none hs_H1 hn_5q12;have ne_5q12_x:k5q12≠kx:=AHeap.ne_some hn_5q12 eb_x;have ne_5q12_0q0:k5q12≠k0q0:=AHeap.ne_some hn_5q12 eb_0q0;rw[qa];try simp only[YI]
   refine qm (by rfl) (by rfl) (by repeat (first|exact AHeap.set_same _ _ _|assumption|refine(AHeap.set_ne _ _ (by first|assumption|exact Ne.symm (by assumption))).trans ?_)) qaZ (by rfl) (by rfl) (by first|exact Nat.le_refl _|decide|(simp;done)|(simp;omega)) (Nat.zero_le _) (by rfl) ?_;simp only[AHeap.set_set,AVal.cells];simp+decide only[qa,ev,putD,Slots.put,Slots.get,Slots.keep,if_true,if_false,true_and,↓qd,qb,setAt,List.set_cons_zero,List.set_cons_succ,Nat.zero_add];apply hK;clear hK K;refine awp_rseq [0,2,5,7,8,9] (by rfl) fun K hK=>?_;simp+decide only[ev,putD,Slots.put,Slots.get,if_true,if_false,true_and,↓qj,qf];refine qM (V:=nxR t) (by rfl) (by rfl) (by rw[ht];exact c_next w0 _ kx c.left c.text mv (QT 5 tb1) j l1 ((by repeat (first|exact AHeap.set_same _ _ _|assumption|refine(AHeap.set_ne _ _ (by first|assumption|exact Ne.symm (by assumption))).trans ?_))) (htk.mono (by repeat (first|exact Sub.refl _|assumption|refine Sub.set_both ?_ _ _|refine Sub.trans_set ?_ (by repeat (first|assumption|refine(AHeap.set_ne _ _ (by first|assumption|exact Ne.symm (by assumption))).trans ?_))))) (by omega) h32 hct) ?_;simp+decide only[ev,putD,Slots.put,Slots.get,if_true,if_false,true_and,↓qj,qf,↓QJ,QA,QH,List.length_cons,List.length_nil,List.getD_cons_zero,List.getD_cons_succ,List.getD_cons_zero,List.getD_cons_succ,Nat.zero_add,Nat.reduceAdd,nxA,nxR];refine Qi qby (cs:=[.int .u8 0, .str [], .int .i64 0, .int .i64 0, .bool false]) (by rfl) fun k6q6 hk6q6=>?_;have ne_6q6_5q12:k6q6≠k5q12:=by simp only[AHeap.set_none]at hk6q6;simp only[hk6q6,ne_eq,not_false_eq_true]
   have hn_6q6:H1 k6q6=none:=by first|assumption|(simp only[AHeap.set_none]at hk6q6;simp only[hk6q6])
   have hf_6q6:B k6q6=none:=Sub.none hs_H1 hn_6q6;have ne_6q6_x:k6q6≠kx:=AHeap.ne_some hn_6q6 eb_x;have ne_6q6_0q0:k6q6≠k0q0:=AHeap.ne_some hn_6q6 eb_0q0;refine qm (by rfl) (by rfl) (by repeat (first|exact AHeap.set_same _ _ _|assumption|refine(AHeap.set_ne _ _ (by first|assumption|exact Ne.symm (by assumption))).trans ?_)) Xg (by rfl) (by rfl) (by first|exact Nat.le_refl _|decide|(simp;done)|(simp;omega)) (Nat.zero_le _) (by rfl) ?_;simp only[AHeap.set_set,AVal.cells];simp+decide only[qa,ev,putD,Slots.put,Slots.get,Slots.keep,if_true,if_false,true_and,↓qd,qb,setAt,List.set_cons_zero,List.set_cons_succ,Nat.zero_add,Nat.reduceAdd];apply hK;clear hK K;refine qO ?_;refine awp_rseq [0,2,5,7,8,9,51] (by rfl) fun K hK=>?_;simp+decide only[qa,ev,qJ,qG,putD,Slots.put,Slots.get,Slots.keep,if_true,if_false,true_and,↓qj,qf,↓qC,qo,qD,cond_false,qz,XD,↓Xc,agP,Qu,qI,qH,qw,implies_true,↓ZZ,qK,Qj,qbr,qbs,↓Xn,ql,qcF,Zv,Zw,↓Zb,XI,Wy,agL_ld1,qy UK,↓qbS,QK,cv_len,cp_len,↓Xd,Zf,Zg,qaw,↓QP,Qt,Qg,Xj,Xk,QU,ne_eq,not_false_eq_true,ne_5q12_x.symm,ne_6q6_x.symm,Qp w0 eb_x,List.getD_cons_zero,List.getD_cons_succ,Nat.zero_add,htl,hlen];apply hK;clear hK K;refine Uu [0,2,5,7,8,9] (fun z:Unit=>[(0, .ptr (.own kx) 0),(2, .ptr (.own k0q0) 0),(5, .ptr (.own k5q12) 0),(7, .ptr (.own k6q6) 0),(8, .int .i64 t.n),(9, .int .i64 (errE t l1.length))]) (fun z:Unit=>(H1.set k5q12 ⟨[.int .i64 (atE c j).1, .int .i64 (atE c j).2.1],0⟩).set k6q6 ⟨[.int .u8 t.kind.toNat, .str t.text, .int .i64 0, .int .i64 0, .bool false],0⟩) (fun z:Unit=>True) ?_ ?_
   ·refine qL (b:=_) rfl (fun hb3=>?_) (fun hb3=>?_)
    ·try simp only[decide_eq_true_eq,Bool.and_eq_true]at hb3
     have hee:errE t l1.length=3:=by unfold errE;rw[if_pos ⟨hb3.1,by omega⟩]
     refine XK [0,2,5,7,8,9] (by rfl) ?_;simp+decide only[qa,ev,qJ,qG,putD,Slots.put,Slots.keep,if_true,if_false,true_and,and_true,↓qd,qb,QS];try simp only[Ql]
     first
     |exact⟨(),by rw[hee];rfl,Sub.refl _,trivial⟩
     |exact⟨(),by rw[hee];rfl,Sub.refl _⟩
    ·try simp only[decide_eq_false_iff_not,Bool.and_eq_false_iff]at hb3
     have hee:errE t l1.length=t.e:=by unfold errE;rw[if_neg (fun q=>hb3.elim (fun z=>z q.1) (fun z=>z (by omega)))]
     refine Qa ?_;try simp only[Ql]
     first
     |exact⟨(),by rw[hee];rfl,Sub.refl _,trivial⟩
     |exact⟨(),by rw[hee];rfl,Sub.refl _⟩
   ·intro _ _
    refine qO ?_;refine awp_rseq [0,2,5,7,8,9,53] (by rfl) fun K hK=>?_;simp+decide only[qa,ev,qJ,qG,putD,Slots.put,Slots.get,Slots.keep,if_true,if_false,true_and,↓qj,qf,↓qC,qo,qD,cond_false,qz,qbh];apply hK;clear hK K;refine qL (b:=_) rfl (fun hb4=>?_) (fun hb4=>?_)
    ·try simp only[decide_eq_false_iff_not,Bool.not_eq_true']at hb4
     rw[if_pos hb4]at hstep;have hSB:Sub (scH kx B tb1 c.left c.text mv j) H1:=by rw[hH1];exact scH_sub hB1s
     have hz0:(scH kx B tb1 c.left c.text mv j) k0q0=none:=i1.none hB1k a4;have hz5:=Sub.none hSB hn_5q12;have hz6:=Sub.none hSB hn_6q6;refine awp_rseq [2] (by rfl) fun K hK=>?_;simp+decide only[ev,qJ,qG,putD,Slots.put,Slots.get,if_true,if_false,true_and,↓qj,qf,↓qF,Qb,qg ag33 qaZ,↓Qn,↓qV,Ud,evP,List.map_cons,List.map_nil,QU,ne_eq,not_false_eq_true,ne_6q6_5q12.symm,QV,qc,List.getD_cons_zero,List.getD_cons_succ,Nat.zero_add,qh,allLive,Bool.and_true];refine qm (by rfl) (by rfl) (by repeat (first|exact AHeap.set_same _ _ _|assumption|refine(AHeap.set_ne _ _ (by first|assumption|exact Ne.symm (by assumption))).trans ?_)) QD (by rfl) (by rfl) (by first|exact Nat.le_refl _|decide|(simp;done)|(simp;omega)) (Nat.zero_le _) (by rfl) ?_;simp only[AVal.cells];simp+decide only[qa,ev,putD,Slots.get,Slots.keep,if_true,if_false,setAt,List.set_cons_zero,List.set_cons_succ,Nat.zero_add,Nat.reduceAdd];apply hK;clear hK K;refine qN ?_;try simp only[Qf,Qr]
     refine QN (?_) ?_
     ·simp+decide only[Qw,qi,Slots.get,if_true,and_true,qi,qg Xh QD,qW,qc,List.getD_cons_zero,List.getD_cons_succ,Nat.zero_add,Nat.reduceAdd,qh,allLive,Bool.and_true,qc,List.getD_cons_zero,List.getD_cons_succ,Nat.zero_add,Nat.reduceAdd,qh,allLive,Bool.and_true]
     simp+decide only[Slots.get,if_true,YM,qi,qg Xh QD,qW,qc,List.getD_cons_zero,List.getD_cons_succ,Nat.zero_add,Nat.reduceAdd,qh,allLive,Bool.and_true,qc,List.getD_cons_zero,List.getD_cons_succ,Nat.zero_add,Nat.reduceAdd,qh,allLive,Bool.and_true,QS];rw[hstep];exact⟨scH kx B tb1 c.left c.text mv j,(by repeat (first|exact Sub.refl _|assumption|refine Sub.set_both ?_ _ _|refine Sub.trans_set ?_ (by repeat (first|assumption|refine(AHeap.set_ne _ _ (by first|assumption|exact Ne.symm (by assumption))).trans ?_)))),rfl,i4,tb1,j,rfl,i1.down hB1s⟩
    ·try simp only[decide_eq_true_eq,Bool.not_eq_false']at hb4
     have hez:errE t l1.length=0:=by simpa using hb4
     rw[if_neg (by rw[hez];simp)]at hstep;have hte:=errE_ok hez;have hlt:l1.length<65536:=by
      unfold errE at hez;split at hez
      ·cases hez
      ·rename_i q;exact Nat.lt_of_not_le fun z=>q ⟨hte,z⟩
     have hnk:NxOk c.text j t:=by
      rw[ht]at hte|-
      exact next_ok hjlt (by rwa [Yt hjlt]at h32) hte
     have hn0:=hnk.n0;have hn1:=hnk.n1;refine Qa ?_;change Awp _ _ _ _ _ _ _;refine awp_dseq_G 5 [1,2,3] [k5q12] [0,2,7,8] mixed (by kernel_rfl) (by rfl) fun K hK=>?_;simp only[List.take_succ_cons,List.take_zero,List.drop_succ_cons,List.drop_zero];simp+decide only[YI,ev,qJ,qG,putD,Slots.put,Slots.get,if_true,if_false,true_and,↓WH,Zr,qg ag33 qaZ,↓Zu,ql,fa33_1,qy ag3,↓fp_binOp,qo,qD,cond_false,qz,Zd,fa54_2,QU,ne_eq,not_false_eq_true,ne_6q6_5q12.symm,QV,qc,List.getD_cons_zero,List.getD_cons_succ,Nat.zero_add,qh,allLive,Bool.and_true];refine And.intro (by simp(decide:=true) [qbP,ev,Slots.get]) ?_;refine qaT ?_;refine qm (by rfl) (by rfl) (by repeat (first|exact AHeap.set_same _ _ _|assumption|refine(AHeap.set_ne _ _ (by first|assumption|exact Ne.symm (by assumption))).trans ?_)) qaZ (by rfl) (by rfl) (by first|exact Nat.le_refl _|decide|(simp;done)|(simp;omega)) (Nat.zero_le _) (by rfl) ?_;simp only[AHeap.set_set,AVal.cells];rw[qa];refine And.intro (by intro k hk;simp only[List.mem_cons,List.not_mem_nil,or_false]at hk;first|rfl|(first|subst hk|(rcases hk with rfl|rfl|rfl|rfl|rfl));all_goals (simp[AHeap.set,ne_6q6_5q12.symm]<;>rfl)) ?_;simp+decide only[ev,putD,Slots.put,Slots.get,if_true,if_false,true_and,↓kp_fieldAddr,ql,fa54_3,setAt,List.set_cons_zero,List.set_cons_succ,Nat.zero_add,Nat.reduceAdd];refine qaT ?_;refine qm (by rfl) (by rfl) (by repeat (first|exact AHeap.set_same _ _ _|assumption|refine(AHeap.set_ne _ _ (by first|assumption|exact Ne.symm (by assumption))).trans ?_)) sz4 (by rfl) (by rfl) (by first|exact Nat.le_refl _|decide|(simp;done)|(simp;omega)) (Nat.zero_le _) (by rfl) ?_;simp only[AHeap.set_set,AVal.cells];rw[qa];refine And.intro (by intro k hk;simp only[List.mem_cons,List.not_mem_nil,or_false]at hk;first|rfl|(first|subst hk|(rcases hk with rfl|rfl|rfl|rfl|rfl));all_goals (simp[AHeap.set,ne_6q6_5q12.symm]<;>rfl)) ?_;simp+decide only[kOps_nil,ev,putD,Slots.get,Slots.keep,if_true,if_false,setAt,List.set_cons_zero,List.set_cons_succ];apply hK;clear hK K;refine Ww 7 [0] [0,2,8] mixed (by kernel_rfl) (by rfl) fun K hK=>?_;simp only[List.take_succ_cons,List.take_zero,List.drop_succ_cons,List.drop_zero];simp+decide only[ev,putD,Slots.put,Slots.get,if_true,if_false,true_and,↓Um,qf,↓Wn,qK,Qj,↓Zu,ql,qcF,↓WH,Zr,qy UK,qg Zz Xg,QU,ne_eq,not_false_eq_true,ne_5q12_x.symm,ne_6q6_x.symm,Qp w0 eb_x,QV,qc,List.getD_cons_zero,List.getD_cons_succ,Nat.zero_add,Nat.reduceAdd,qB,qh,qE,allLive,Bool.and_true,htl];refine qdC (by rfl) ?_;refine QC (cs:=Xv (tokAt c j t)) (by kernel_rfl) fun k12q6 hk12q6=>?_;have ne_12q6_5q12:k12q6≠k5q12:=by simp only[AHeap.set_none]at hk12q6;simp only[hk12q6,ne_eq,not_false_eq_true]
     have ne_12q6_6q6:k12q6≠k6q6:=by simp only[AHeap.set_none]at hk12q6;simp only[hk12q6,ne_eq,not_false_eq_true]
     have hn_12q6:H1 k12q6=none:=by first|assumption|(simp only[AHeap.set_none]at hk12q6;simp only[hk12q6])
     have hf_12q6:B k12q6=none:=Sub.none hs_H1 hn_12q6;have ne_12q6_x:k12q6≠kx:=AHeap.ne_some hn_12q6 eb_x;have ne_12q6_0q0:k12q6≠k0q0:=AHeap.ne_some hn_12q6 eb_0q0;rw[qa];try simp only[YI]
     refine XY (es:=5) (zs:=l1.map Xv) (xs:=[Xv (tokAt c j t)]) (hZ:=B1.set kx ⟨[.bool c.left, .str c.text,mv, .int .i64 j,QT 5 tb1],0⟩) (b:=tb1) (by rfl) (by rfl) Tryz.underlying26 Tryz.underlying26 (fun k e=>by cases e) Xg by54 qby (by rfl) (by decide) (by rfl) (i1.ok _) i1.eq Ya (by rw[show QY (B1.set kx ⟨[.bool c.left, .str c.text,mv, .int .i64 j,QT 5 tb1],0⟩) tb1=H1 from hH1.symm];exact(by repeat (first|exact Sub.refl _|assumption|refine Sub.set_both ?_ _ _|refine Sub.trans_set ?_ (by repeat (first|assumption|refine(AHeap.set_ne _ _ (by first|assumption|exact Ne.symm (by assumption))).trans ?_))))) (by rfl) (IsL.own (AHeap.set_same _ _ _) (by simp[Xv]) (by rfl) (by rfl) (.exact 1) (Nat.le_refl _)) (by rfl) (by simp;omega) (by simp;omega) fun tb2 h12 o1 o2 o3=>?_;have hlv2:=Xm 5 tb2;simp+decide only[ev,putD,Slots.put,Slots.get,if_true,if_false,true_and,↓Qh,qK,Qj,↓qA,ql,qcF,Nat.zero_add];refine qm (v:=QT 5 tb2) (by rfl) (by rfl) (o3 _ _ (ZN o1 (AHeap.set_same _ _ _))) sz26 hlv2 (by cases tb2<;>rfl) (by cases tb2<;>simp[QT]) (Nat.zero_le _) (by cases tb2<;>rfl) ?_;rw[show(QT 5 tb2).cells=[QT 5 tb2] by cases tb2<;>rfl];simp only[setAt,List.set_cons_zero,List.set_cons_succ];simp+decide only[qa,putD,Slots.keep,if_true,if_false];apply hK;clear hK K;have j1:ScInv kx B1 tb2 (l1++[tokAt c j t]):=⟨i1.hk,fun d=>by have:=ZH o1 (AHeap.set_same _ _ _) d;rwa [AHeap.set_set]at this,by rw[o2,List.map_append];rfl⟩
     have hfor:Sub (scH kx B1 tb2 c.left c.text mv j) (h12.set kx ⟨[.bool c.left, .str c.text,mv, .int .i64 j,QT 5 tb2],0⟩):=by
      have:=Sub.set_both o3 kx ⟨[.bool c.left, .str c.text,mv, .int .i64 j,QT 5 tb2],0⟩;rw[YS o1 (AHeap.set_same _ _ _),AHeap.set_set]at this;exact this
     refine Awp.forget (h':=scH kx B1 tb2 c.left c.text mv j) hfor ?_;have r13:=fun o=>Qp w0 (j1.at (lf:=c.left) (s:=c.text) (mv:=mv) (i:=j)) o;refine XK [0,2] (by rfl) ?_;simp+decide only[ev,putD,Slots.put,Slots.get,if_true,if_false,true_and,↓qj,qf,↓Qh,qK,Qj,↓qA,ql,YW,↓qF,Qb,qy ag3,↓qC,qo,qZ,cond_false,qz,Xf,List.getD_cons_zero,List.getD_cons_succ,Nat.zero_add,qh,QS,r13];try simp(disch:=omega)only[wrap_i64]
     refine qm (v:= .int .i64 ((j:Int)+t.n)) (by rfl) (by rfl) j1.at sz3 (by rfl) (by rfl) (by simp) (Nat.zero_le _) (by rfl) ?_;simp only[setAt,AVal.cells,List.set_cons_zero,List.set_cons_succ];rw[j1.set,show(j:Int)+(t.n:Int)=((j+t.n:Nat):Int) by omega];simp+decide only[qa,putD,Slots.keep,if_true,if_false];try simp only[Ql,Yy]
     exact⟨⟨j+t.n,l1++[tokAt c j t],tb2⟩,rfl,Sub.refl _,⟨j1,hn1,hstep.symm,by simp only[List.length_append,List.length_cons,List.length_nil];omega⟩,by simp only;omega⟩
  ·try simp only[decide_eq_false_iff_not]at hb2
   refine XL ?_;change Awp _ _ _ _ _ _ _;have hjge:¬j<c.text.length:=by simpa using hb2
   obtain⟨H1,hH1⟩:∃H1,H1=scH kx B1 tb1 c.left c.text mv j:=⟨_,rfl⟩
   have eb_0q0:H1 k0q0=some ⟨[.int .i64 0, .int .i64 0, .int .i64 0],0⟩:=by rw[hH1];exact i1.other hB1k
   have hs_H1:Sub B H1:=by rw[hH1];exact hB1s.trans i1.above
   rw[if_pos (by omega)]at hstep;show Awp _ _ _ _ _ _ (scH kx B1 tb1 c.left c.text mv j)
   rw[<-hH1];refine awp_rseq [2] (by rfl) fun K hK=>?_;simp+decide only[ev,qJ,qG,putD,Slots.put,Slots.get,if_false,true_and,↓Qn,↓qV,ZI,evP,List.map_nil];refine qm (by rfl) (by rfl) (by repeat (first|exact AHeap.set_same _ _ _|assumption|refine(AHeap.set_ne _ _ (by first|assumption|exact Ne.symm (by assumption))).trans ?_)) QD (by rfl) (by rfl) (by first|exact Nat.le_refl _|decide|(simp;done)|(simp;omega)) (Nat.zero_le _) (by rfl) ?_;simp only[AVal.cells];simp+decide only[qa,ev,putD,Slots.get,Slots.keep,if_true,if_false,setAt,List.set_cons_zero,List.set_cons_succ,Nat.zero_add,Nat.reduceAdd];apply hK;clear hK K;refine qN ?_;refine QN (?_) ?_
   ·simp+decide only[Qw,qi,Slots.get,if_true,and_true,qi,qg Xh QD,qW,qc,List.getD_cons_zero,List.getD_cons_succ,Nat.zero_add,Nat.reduceAdd,qh,allLive,Bool.and_true,qc,List.getD_cons_zero,List.getD_cons_succ,Nat.zero_add,Nat.reduceAdd,qh,allLive,Bool.and_true]
   simp+decide only[Slots.get,if_true,YM,qi,qg Xh QD,qW,qc,List.getD_cons_zero,List.getD_cons_succ,Nat.zero_add,Nat.reduceAdd,qh,allLive,Bool.and_true,qc,List.getD_cons_zero,List.getD_cons_succ,Nat.zero_add,Nat.reduceAdd,qh,allLive,Bool.and_true,QS];have hSB:Sub (scH kx B tb1 c.left c.text mv j) H1:=by rw[hH1];exact scH_sub hB1s
   have hz0:(scH kx B tb1 c.left c.text mv j) k0q0=none:=i1.none hB1k a4;rw[hstep];exact⟨scH kx B tb1 c.left c.text mv j,(by repeat (first|exact Sub.refl _|assumption|refine Sub.set_both ?_ _ _|refine Sub.trans_set ?_ (by repeat (first|assumption|refine(AHeap.set_ne _ _ (by first|assumption|exact Ne.symm (by assumption))).trans ?_)))),rfl,i4,tb1,j,rfl,i1.down hB1s⟩
end Go.Proofs.YtlhhaagmakhilaaGreatDoor
namespace Go.Proofs.YtlhhaagmakhilaaGreatDoor
open Go.AM
open Go.Proofs
open Go.Col
set_option maxRecDepth 100000
theorem addE_last{x:Rd}{l:List CardC}{c:CardC}(hx:x.cards=l++[c])(line col:Int)(t:Str):addE x line col t=⟨l++[addC c line col t],line,col,qbO (c.text++t)⟩:=by
 unfold addE;rw[hx];simp
theorem bufV_some(es:Nat)(b:Buf):QT es (some b)= .slice (.own b.blk) 0 (b.cells.length / es) (.grow es):=rfl
theorem c_addR(w0:World)(h:AHeap)(kx:Nat)(B M:AHeap)(cb mb:Option Buf)(x:Rd)(hi:RdInv w0 h kx B M cb mb x)(hx:x.cards≠[])(line col:Int)(t:Str)(hb:∀c∈x.cards,c.text.length<=549755813888/\c.marks.length<=549755813888)(hn:x.cards.length<=549755813888)(ht:t.length<=80):
 ACall Tryz.prog w0 80 [.ptr (.own kx) 0, .int .i64 line, .int .i64 col, .str t] (rdH kx B cb mb x)
  (fun v h'=>v= .tuple []/\∃cb' mb',h'=rdH kx B cb' mb' (addE x line col t)/\RdInv w0 h kx B M cb' mb' (addE x line col t)):=by
 rcases hi.cards with⟨c1,_⟩|⟨done,c,kc,c1,c2,c3,c4⟩
 ·exact absurd c1 hx
 have hD:((done.map XZ).flatten).length=done.length*3:=by
  rw[Yn (es:=3) (by intro y hy;obtain⟨p,_,rfl⟩:=List.mem_map.1 hy;rfl),List.length_map]
 have hlen:x.cards.length=done.length+1:=by rw[c1];simp
 have hcm:c∈x.cards:=by rw[c1];simp
 obtain⟨b1,b2⟩:=hb c hcm;have hokc:=hi.okc;have hokm:=hi.okm;have hL:((done.map XZ).flatten++[.bool c.left, .str c.text,QT 3 mb]).length / 3=done.length+1:=by
  rw[List.length_append,hD];simp only[List.length_cons,List.length_nil];omega
 have hv:QT 3 cb= .slice (.own kc) 0 (done.length+1) (.grow 3):=by
  rw[c2,bufV_some,hL]
 subst c2;have hkc:kc≠kx:=fun e=>by
  have:=hokc.1;simp only[e,AHeap.set_same]at this;cases this
 have hBc:B kc=none:=by
  have:=hokc.1
  rwa [AHeap.set_ne _ _ hkc]at this
 have call:=c_add w0 (QY (B.set kx ⟨Xe (some ⟨kc,(done.map XZ).flatten++[.bool c.left, .str c.text,QT 3 mb]⟩) x,0⟩) (some ⟨kc,(done.map XZ).flatten++[.bool c.left, .str c.text,QT 3 mb]⟩)) kx kc (done.map XZ).flatten done.length mb c x.line x.col x.odd line col t
  (by rw[show QY (B.set kx ⟨Xe (some ⟨kc,(done.map XZ).flatten++[.bool c.left, .str c.text,QT 3 mb]⟩) x,0⟩) (some ⟨kc,(done.map XZ).flatten++[.bool c.left, .str c.text,QT 3 mb]⟩)=(B.set kx ⟨Xe (some ⟨kc,(done.map XZ).flatten++[.bool c.left, .str c.text,QT 3 mb]⟩) x,0⟩).set kc ⟨(done.map XZ).flatten++[.bool c.left, .str c.text,QT 3 mb],0⟩from rfl,AHeap.set_ne _ _ hkc.symm,AHeap.set_same];unfold Xe;rw[hv])
  (AHeap.set_same _ _ _) hD hokm c3 (by omega) (by omega) (by omega)
 refine call.mono fun v h' hr=>?_;obtain⟨e1,mb',e2,o1,o2⟩:=hr;have hadd:=addE_last c1 line col t;have hL':((done.map XZ).flatten++[.bool c.left, .str (addC c line col t).text,QT 3 mb']).length / 3=done.length+1:=by
  rw[List.length_append,hD];simp only[List.length_cons,List.length_nil];omega
 have hcells:Xe (some ⟨kc,(done.map XZ).flatten++[.bool c.left, .str (addC c line col t).text,QT 3 mb']⟩) (addE x line col t)=[.slice (.own kc) 0 (done.length+1) (.grow 3), .int .i64 line, .int .i64 col, .bool (qbO (c.text++t))]:=by
  unfold Xe;rw[hadd,bufV_some,hL']
 have hH:(((QY (B.set kx ⟨Xe (some ⟨kc,(done.map XZ).flatten++[.bool c.left, .str c.text,QT 3 mb]⟩) x,0⟩) (some ⟨kc,(done.map XZ).flatten++[.bool c.left, .str c.text,QT 3 mb]⟩)).set kx ⟨[.slice (.own kc) 0 (done.length+1) (.grow 3), .int .i64 line, .int .i64 col, .bool (qbO (c.text++t))],0⟩).set kc ⟨(done.map XZ).flatten++[.bool c.left, .str (addC c line col t).text,QT 3 mb'],0⟩)
  =QY (B.set kx ⟨Xe (some ⟨kc,(done.map XZ).flatten++[.bool c.left, .str (addC c line col t).text,QT 3 mb']⟩) (addE x line col t),0⟩) (some ⟨kc,(done.map XZ).flatten++[.bool c.left, .str (addC c line col t).text,QT 3 mb']⟩):=by
  rw[hcells];simp only[QY];rw[AHeap.set_comm _ _ _ hkc.symm,AHeap.set_set,AHeap.set_set]
 rw[hH]at e2 o1;refine⟨e1,_,mb',e2,⟨hi.sub,hi.subM,hi.hk,?_,o1, .inr ⟨done,addC c line col t,kc,by rw[hadd],?_,o2,c4⟩⟩⟩
 ·refine⟨(AHeap.set_ne _ _ hkc).trans hBc,?_,?_⟩
  ·rw[List.length_append,hD]
   simp only[List.length_cons,List.length_nil];omega
  ·have hlv:=hokc.2.2
   rw[qbv,Bool.and_eq_true]at hlv|-
   refine⟨hlv.1,?_⟩;show(true && (true && ((QT 3 mb').live && true)))=true
   rw[Xm];rfl
 ·have hleft:(addC c line col t).left=c.left:=rfl
  rw[hleft]
theorem bufPut{H:AHeap}{es:Nat}{b:Option Buf}{j:Nat}{c d:Blk}(hb:bufOk (H.set j c) es b):QY (H.set j d) b=(QY H b).set j d/\bufOk H es b/\QY H b j=H j:=by
 cases b with
 |none=>exact⟨rfl,trivial,rfl⟩
 |some b=>
  have hne:b.blk≠j:=fun e=>by
   have:=hb.1;rw[e,AHeap.set_same]at this;cases this
  have h1:H b.blk=none:=by have:=hb.1;rwa [AHeap.set_ne _ _ hne]at this
  exact⟨AHeap.set_comm _ _ _ hne,⟨h1,hb.2⟩,AHeap.set_ne _ _ hne.symm⟩
theorem RdInv.chunks{w0:World}{h:AHeap}{kx:Nat}{B M:AHeap}{cb mb:Option Buf}{x:Rd}(hi:RdInv w0 h kx B M cb mb x):∃zs:List (List AVal),Uc cb=zs.flatten/\(∀z∈zs,z.length=3)/\zs.length=x.cards.length:=by
 rcases hi.cards with⟨c1,c2,_⟩|⟨done,c,kc,c1,c2,c3,c4⟩
 ·exact⟨[],by rw[c2];rfl,by simp,by rw[c1];rfl⟩
 ·refine⟨done.map XZ++[[.bool c.left, .str c.text,QT 3 mb]],by rw[c2];simp[Uc],?_,by rw[c1];simp⟩
  intro z hz;rw[List.mem_append]at hz;rcases hz with hz|hz
  ·obtain⟨p,_,rfl⟩:=List.mem_map.1 hz;rfl
  ·rw[List.mem_singleton.1 hz];rfl
theorem RdInv.push{w0:World}{h:AHeap}{kx:Nat}{B M:AHeap}{cb mb:Option Buf}{x:Rd}(hi:RdInv w0 h kx B M cb mb x)(left:Bool){cb':Option Buf}{h5:AHeap}
 (o1:bufOk (QY (B.set kx ⟨Xe cb x,0⟩) mb) 3 cb') (o2:Uc cb'=Uc cb++[.bool left, .str [], .nilSlice]) (o3:Sub (QY (QY (B.set kx ⟨Xe cb x,0⟩) mb) cb') h5):
 RdInv w0 h kx (QY B mb) (QY M mb) cb' none ⟨x.cards++[⟨left,[],[]⟩],x.line,x.col,x.odd⟩/\Sub (rdH kx (QY B mb) cb' none ⟨x.cards++[⟨left,[],[]⟩],x.line,x.col,x.odd⟩) (h5.set kx ⟨Xe cb' ⟨x.cards++[⟨left,[],[]⟩],x.line,x.col,x.odd⟩,0⟩)/\(∀j c,B j=some c->QY B mb j=some c)/\∀j c,B j=some c->M j=none->QY M mb j=none:=by
 obtain⟨q1,q2,q3⟩:=bufSwap hi.okc hi.okm;obtain⟨p1,p2,p3⟩:=bufPut (d:=⟨Xe cb x,0⟩) q2;have hsub:Sub B (QY B mb):=Sub.buf p2;rw[p1]at o1 o3;obtain⟨r1,r2,r3⟩:=bufPut (d:=⟨Xe cb' ⟨x.cards++[⟨left,[],[]⟩],x.line,x.col,x.odd⟩,0⟩) o1;obtain⟨s1,_,_⟩:=bufPut (d:=⟨Xe cb x,0⟩) o1;have pM:bufOk M 3 mb:=p2.sub hi.subM;have hsubM:Sub M (QY M mb):=Sub.buf pM;have hMB:Sub (QY M mb) (QY B mb):=by
  cases mb with
  |none=>exact hi.subM
  |some b=>exact Sub.set_both hi.subM _ _
 refine⟨⟨hi.sub.trans hsub,hMB,p3.trans hi.hk,?_,trivial, .inr ?_⟩,?_,fun j c hj=>hsub _ _ hj,fun j c hj hM=>?_⟩
 ·have:=ZH o1 (AHeap.set_same _ _ _) ⟨Xe cb' ⟨x.cards++[⟨left,[],[]⟩],x.line,x.col,x.odd⟩,0⟩
  rwa [AHeap.set_set]at this
 ·have hsome:∃kc,cb'=some ⟨kc,Uc cb++[.bool left, .str [], .nilSlice]⟩:=by
   cases cb' with
   |none=>simp[Uc]at o2
   |some b=>exact⟨b.blk,by rw[<-o2];rfl⟩
  obtain⟨kc',hcb'⟩:=hsome;rcases hi.cards with⟨c1,c2,c3⟩|⟨done,c,kc,c1,c2,c3,c4⟩
  ·refine⟨[],⟨left,[],[]⟩,kc',by rw[c1];rfl,by rw[hcb',c2];rfl,rfl,by simp⟩
  ·refine⟨done++[(c,QT 3 mb)],⟨left,[],[]⟩,kc',by rw[c1];simp,?_,rfl,?_⟩
   ·rw[hcb',c2]
    simp[Uc,XZ,QT]
   ·intro p hp
    rw[List.mem_append]at hp;rcases hp with hp|hp
    ·exact(c4 p hp).mono hsubM
    ·rw[List.mem_singleton.1 hp]
     exact IsL.buf pM (by decide) c3 (by intro y hy;obtain⟨m,_,rfl⟩:=List.mem_map.1 hy;rfl) (Sub.refl _)
 ·show Sub (QY ((QY B mb).set kx ⟨Xe cb' ⟨x.cards++[⟨left,[],[]⟩],x.line,x.col,x.odd⟩,0⟩) cb') _
  rw[r1];rw[s1]at o3;have:=Sub.set_both o3 kx ⟨Xe cb' ⟨x.cards++[⟨left,[],[]⟩],x.line,x.col,x.odd⟩,0⟩
  rwa [AHeap.set_set]at this
 ·cases mb with
  |none=>exact hM
  |some b=>
   have:j≠b.blk:=fun e=>by
    have:=p2.1;rw[<-e,hj]at this;cases this
   exact(AHeap.set_ne _ _ this).trans hM
end Go.Proofs.YtlhhaagmakhilaaGreatDoor
namespace Go.Proofs.YtlhhaagmakhilaaGreatDoor
open Go.AM
open Go.Proofs
open Go.Col
set_option maxRecDepth 100000
theorem take1{x:Rd}{r:RowC}(h1:r.more=false)(h2:x.odd=true):takeE x r=(x,⟨4,x.line,x.col⟩):=by unfold takeE;rw[h1,h2];rfl
theorem take2{x:Rd}{r:RowC}(h1:r.more=false)(h2:x.odd=false):takeE x r=(addE ⟨x.cards++[⟨decide (r.col<12),[],[]⟩],x.line,x.col,x.odd⟩ r.line r.col r.text,okF):=by unfold takeE;rw[h1,h2];rfl
theorem take3{x:Rd}{r:RowC}(h1:r.more=true)(h2:x.cards=[]):takeE x r=(x,⟨6,r.line,7⟩):=by unfold takeE;rw[h1,if_neg (by simp),if_neg (by simp),if_pos h2]
theorem take4{x:Rd}{r:RowC}(h1:r.more=true)(h2:x.cards≠[])(h3:r.col<12\/(x.odd=true/\r.text.getD 0 0≠34)):takeE x r=(x,⟨4,r.line,r.col⟩):=by unfold takeE;rw[h1,if_neg (by simp),if_neg (by simp),if_neg h2,if_pos h3]
theorem take5{x:Rd}{r:RowC}(h1:r.more=true)(h2:x.cards≠[])(h3:¬(r.col<12\/(x.odd=true/\r.text.getD 0 0≠34)))(h4:x.odd=true):takeE x r=(addE x r.line (r.col+1) (r.text.drop 1),okF):=by unfold takeE;rw[h1,if_neg (by simp),if_neg (by simp),if_neg h2,if_neg h3,if_pos h4]
theorem take6{x:Rd}{r:RowC}(h1:r.more=true)(h2:x.cards≠[])(h3:¬(r.col<12\/(x.odd=true/\r.text.getD 0 0≠34)))(h4:x.odd=false):takeE x r=(addE x r.line r.col r.text,okF):=by unfold takeE;rw[h1,if_neg (by simp),if_neg (by simp),if_neg h2,if_neg h3,if_neg (by rw[h4];decide)]
theorem c_take(w0:World)(h:AHeap)(kx:Nat)(B M:AHeap)(cb mb:Option Buf)(x:Rd)(hi:RdInv w0 h kx B M cb mb x)(r:RowC)(hb:∀c∈x.cards,c.text.length<=549755813887/\c.marks.length<=549755813887)(hn:x.cards.length<=549755813887)(ht:r.text.length<=80)(ht0:r.text≠[])(hc0:0<=r.col)(hc1:r.col<=80):
 ACall Tryz.prog w0 62 [.ptr (.own kx) 0,rowA r] (rdH kx B cb mb x)
  (fun v h'=>v=QS (takeE x r).2/\∃B' M' cb' mb',h'=rdH kx B' cb' mb' (takeE x r).1/\RdInv w0 h kx B' M' cb' mb' (takeE x r).1/\Sub B B'/\∀j,B j≠none->M j=none->M' j=none):=by
 have hlvc:=Xm 3 cb;have hmany:=hi.many;have hlen:=buf_len Tryz.prog Tryz.underlying101 3 cb;rw[hmany]at hlen;have htp:0<r.text.length:=List.length_pos_iff.2 ht0;refine qR (n:=100) (rs:=[.cell 4 35]) Tryz.func62 rfl rfl rfl rfl (Nat.le_of_ble_eq_true rfl) ?_;simp only[Qc];refine awp_rseq [0,3,4] (by rfl) fun K hK=>?_;refine Wj (by rfl) (by rfl) (by rfl) fun k0q0 hk0q0=>?_;try have hf_0q0:(rdH kx B cb mb x) k0q0=none:=by first|assumption|(simp only[AHeap.set_none]at hk0q0;simp only[hk0q0])
 skip;refine Qi qaF (cs:=[.int .i64 0, .int .i64 0, .int .i64 0]) (by rfl) fun k0q1 hk0q1=>?_;have ne_0q1_0q0:k0q1≠k0q0:=by simp only[AHeap.set_none]at hk0q1;simp only[hk0q1,ne_eq,not_false_eq_true]
 try have hf_0q1:(rdH kx B cb mb x) k0q1=none:=by first|assumption|(simp only[AHeap.set_none]at hk0q1;simp only[hk0q1])
 simp+decide only[qa,ev,putD,Slots.put,Slots.get,Slots.keep,if_true,if_false,AVal.cells,Nat.zero_add,rowA];obtain⟨a1,a2,a3,a4⟩:=rdH_new hi hk0q0 ⟨[.int .i64 r.line, .bool r.more, .str r.text, .int .i64 r.col],0⟩;have hk1':rdH kx (B.set k0q0 ⟨[.int .i64 r.line, .bool r.more, .str r.text, .int .i64 r.col],0⟩) cb mb x k0q1=none:=by rw[<-a1];exact hk0q1
 obtain⟨b1,b2,b3,b4⟩:=rdH_new a2 hk1' ⟨[.int .i64 0, .int .i64 0, .int .i64 0],0⟩;have hheap:((rdH kx B cb mb x).set k0q0 ⟨[.int .i64 r.line, .bool r.more, .str r.text, .int .i64 r.col],0⟩).set k0q1 ⟨[.int .i64 0, .int .i64 0, .int .i64 0],0⟩=rdH kx ((B.set k0q0 ⟨[.int .i64 r.line, .bool r.more, .str r.text, .int .i64 r.col],0⟩).set k0q1 ⟨[.int .i64 0, .int .i64 0, .int .i64 0],0⟩) cb mb x:=by rw[a1,b1]
 have hat:(((rdH kx B cb mb x).set k0q0 ⟨[.int .i64 r.line, .bool r.more, .str r.text, .int .i64 r.col],0⟩).set k0q1 ⟨[.int .i64 0, .int .i64 0, .int .i64 0],0⟩) kx=some ⟨Xe cb x,0⟩:=by rw[hheap];exact b2.at
 have hrx:=fun o=>Qp w0 hat o;apply hK;clear hK K;refine qO ?_;refine QB ?_;refine awp_rseq [0,3,4,13] (by rfl) fun K hK=>?_;simp+decide only[qa,ev,qJ,qG,putD,Slots.put,Slots.get,Slots.keep,if_true,if_false,true_and,↓qA,ql,fa120_1,↓qF,Qb,qy ag4,↓Yi,XE,ZY,↓qj,qf,↓Xc,agP,Qu,qI,qH,qw,implies_true,↓ZZ,qK,Qj,qbr,qbs,↓Xn,qcG,Zv,Zw,↓Zb,XI,Wy,agL_ld1,↓QP,Qt,Qg,Xj,Xk,↓qd,qb,QU,ne_eq,not_false_eq_true,ne_0q1_0q0.symm,QV,List.getD_cons_zero,List.getD_cons_succ,Nat.zero_add,qB,hrx,Xe];apply hK;clear hK K;refine qL (b:=_) rfl (fun hb1=>?_) (fun hb1=>?_)
 ·try simp only[Bool.not_eq_true',Bool.and_eq_true]at hb1
  refine awp_rseq [4] (by rfl) fun K hK=>?_;simp+decide only[ev,qJ,qG,putD,Slots.put,Slots.get,if_true,if_false,true_and,↓qj,qf,↓Qh,qK,Qj,↓qA,ql,fa116_1,↓qF,Qb,qg ag33 qaZ,↓Qn,↓qV,Ud,evP,List.map_cons,List.map_nil,qc,List.getD_cons_zero,List.getD_cons_succ,Nat.zero_add,Nat.reduceAdd,qh,allLive,Bool.and_true,hrx,Xe];refine qm (by rfl) (by rfl) (by repeat (first|exact AHeap.set_same _ _ _|assumption|refine(AHeap.set_ne _ _ (by first|assumption|exact Ne.symm (by assumption))).trans ?_)) QD (by rfl) (by rfl) (by first|exact Nat.le_refl _|decide|(simp;done)|(simp;omega)) (Nat.zero_le _) (by rfl) ?_;simp only[AHeap.set_set,AVal.cells];simp+decide only[qa,ev,putD,Slots.get,Slots.keep,if_true,if_false,setAt,List.set_cons_zero,List.set_cons_succ,Nat.zero_add,Nat.reduceAdd];apply hK;clear hK K;refine qN ?_;try simp only[Qf,Qr]
  refine qU (rdH kx B cb mb x) (by repeat (first|exact Sub.refl _|assumption|refine Sub.trans_set ?_ (by assumption))) (?_) ?_
  ·simp+decide only[Qw,qi,Slots.get,if_true,and_true,qi,qg Xh QD,qW,qc,List.getD_cons_zero,List.getD_cons_succ,Nat.zero_add,Nat.reduceAdd,qh,allLive,Bool.and_true,qc,List.getD_cons_zero,List.getD_cons_succ,Nat.zero_add,Nat.reduceAdd,qh,allLive,Bool.and_true]
  simp+decide only[Slots.get,if_true,YM,qi,qg Xh QD,qW,qc,List.getD_cons_zero,List.getD_cons_succ,Nat.zero_add,Nat.reduceAdd,qh,allLive,Bool.and_true,ne_eq,qc,List.getD_cons_zero,List.getD_cons_succ,Nat.zero_add,Nat.reduceAdd,qh,allLive,Bool.and_true,QS];rw[take1 hb1.1 hb1.2];exact⟨rfl,B,M,cb,mb,rfl,hi,Sub.refl _,fun _ _ h=>h⟩
 ·try simp only[Bool.not_eq_false',Bool.and_eq_false_iff]at hb1
  refine awp_rseq [0,3,4,28] (by rfl) fun K hK=>?_;simp+decide only[qa,ev,putD,Slots.put,Slots.get,Slots.keep,if_true,if_false,true_and,↓qA,ql,fa120_1,↓qF,Qb,qy ag4,↓Yi,XE,ZY,↓qd,qb,QU,ne_eq,not_false_eq_true,ne_0q1_0q0.symm,QV,List.getD_cons_zero,List.getD_cons_succ,Nat.zero_add,qB];apply hK;clear hK K;refine qL (b:=_) rfl (fun hb2=>?_) (fun hb2=>?_)
  ·try simp only[Bool.not_eq_true']at hb2
   rw[hheap];obtain⟨B₁,hB₁⟩:∃B₁,B₁=(B.set k0q0 ⟨[.int .i64 r.line, .bool r.more, .str r.text, .int .i64 r.col],0⟩).set k0q1 ⟨[.int .i64 0, .int .i64 0, .int .i64 0],0⟩:=⟨_,rfl⟩
   rw[<-hB₁]at b2|-
   have e0:B₁ k0q0=some ⟨[.int .i64 r.line, .bool r.more, .str r.text, .int .i64 r.col],0⟩:=by rw[hB₁,AHeap.set_ne _ _ ne_0q1_0q0.symm,AHeap.set_same]
   have e1:B₁ k0q1=some ⟨[.int .i64 0, .int .i64 0, .int .i64 0],0⟩:=by rw[hB₁,AHeap.set_same]
   have s0:=fun o=>Qp w0 (b2.other e0) o;have sx:=fun o=>Qp w0 b2.at o;obtain⟨q1,q2,q3⟩:=bufSwap b2.okc b2.okm;obtain⟨zs,z1,z2,z3⟩:=b2.chunks;refine Ww 10 [0] [0,3,4] mixed (by kernel_rfl) (by rfl) fun K hK=>?_;simp only[List.take_succ_cons,List.take_zero,List.drop_succ_cons,List.drop_zero];simp+decide only[ev,qJ,qG,putD,Slots.put,Slots.get,if_true,if_false,true_and,↓Um,qf,↓Wn,qK,Qj,↓Zu,ql,qaN,↓WH,Zr,qy ag101,fa120_3,qy ag3,↓fp_binOp,qo,qD,cond_false,qz,Zd,↓qao,↓qV,bld129_0,evP,List.map_cons,List.map_nil,List.getD_cons_zero,List.getD_cons_succ,Nat.zero_add,qh,Xe,hlvc,s0,sx];refine qdC (by rfl) ?_;refine QC (cs:=[.bool (decide (r.col<12)), .str [], .nilSlice]) (by kernel_rfl) fun k5q9 hk5q9=>?_;try have hf_5q9:(rdH kx B cb mb x) k5q9=none:=by first|assumption|(simp only[AHeap.set_none]at hk5q9;simp only[hk5q9])
   rw[qa];try simp only[YI]
   refine XY (es:=3) (zs:=zs) (xs:=[[.bool (decide (r.col<12)), .str [], .nilSlice]]) (hZ:=QY (B₁.set kx ⟨Xe cb x,0⟩) mb) (b:=cb) (by rfl) (by rfl) Tryz.underlying101 Tryz.underlying101 (fun k e=>by cases e) qbV by129 ze129 (by rfl) (by decide) (by rfl) q3 z1 z2 (by rw[<-q1];exact Sub.set hk5q9) (by rfl) (IsL.own (AHeap.set_same _ _ _) (by simp) (by rfl) (by rfl) (.exact 1) (Nat.le_refl _)) (by rfl) (by simp;omega) (by simp;omega) fun cb' h5 o1 o2 o3=>?_;have hlv':=Xm 3 cb';simp+decide only[ev,putD,Slots.put,Slots.get,if_true,if_false,true_and,↓Qh,qK,Qj,↓qA,ql,qaN,Nat.zero_add];refine qm (v:=QT 3 cb') (by rfl) (by rfl) (o3 _ _ (ZN o1 (ZN q2 (AHeap.set_same _ _ _)))) sz101 hlv' (by cases cb'<;>rfl) (by cases cb'<;>simp[Xe,QT]) (Nat.zero_le _) (by cases cb'<;>rfl) ?_;rw[show(QT 3 cb').cells=[QT 3 cb'] by cases cb'<;>rfl];simp only[setAt,Xe,List.set_cons_zero];simp+decide only[qa,putD,Slots.keep,if_true,if_false];apply hK;clear hK K;obtain⟨i1,u1,u2,u3⟩:=b2.push (decide (r.col<12)) o1 (by rw[o2,List.flatten_append,<-z1];rfl) o3;refine Awp.forget (h':=rdH kx (QY B₁ mb) cb' none ⟨x.cards++[⟨decide (r.col<12),[],[]⟩],x.line,x.col,x.odd⟩) u1 ?_;have t0:=fun o=>Qp w0 (i1.other (u2 _ _ e0)) o;have hb':∀c∈x.cards++[⟨decide (r.col<12),[],[]⟩],c.text.length<=549755813888/\c.marks.length<=549755813888:=by
    intro c hc;rw[List.mem_append]at hc;rcases hc with hc|hc
    ·have:=hb c hc
     omega
    ·rw[List.mem_singleton.1 hc]
     exact⟨by simp,by simp⟩
   refine XK [4] (by rfl) ?_;simp+decide only[ev,putD,Slots.put,Slots.get,if_true,if_false,true_and,↓qj,qf,↓qA,ql,fa120_0,↓qF,Qb,qy ag3,fa120_3,fa120_2,qy ag9,ne_eq,List.getD_cons_zero,List.getD_cons_succ,Nat.zero_add,qh,qE,QS,t0];refine QI (by rfl) (by rfl) (c_addR w0 h kx _ _ cb' none _ i1 (by simp) r.line r.col r.text hb' (by simp;omega) ht) fun x6q7 h6q7 hx6q7=>?_;obtain⟨-,cb2,mb2,rfl,i2⟩:=hx6q7;have hz:=i2.other (u2 _ _ e1);have hsB:Sub B (QY B₁ mb):=fun j c hj=>u2 _ _ (by rw[hB₁];exact Sub.trans_set (Sub.trans_set (Sub.refl _) a4) (by rwa [AHeap.set_ne _ _ ne_0q1_0q0]at b4) j c hj);have hsM:∀j,B j≠none->M j=none->QY M mb j=none:=fun j hj hM=>by
    cases hjc:B j with
    |none=>exact absurd hjc hj
    |some c=>exact u3 j c (by rw[hB₁];exact Sub.trans_set (Sub.trans_set (Sub.refl _) a4) (by rwa [AHeap.set_ne _ _ ne_0q1_0q0]at b4) j c hjc) hM
   have hfin:=take2 (x:=x) (r:=r) (by simpa using hb2) (by simpa[hb2]using hb1);simp+decide only[qa,putD,Slots.put,Slots.keep,if_true,if_false];change Awp _ _ _ _ _ _ _;refine awp_rseq [4] (by rfl) fun K hK=>?_;simp+decide only[ev,qJ,qG,putD,Slots.put,Slots.get,if_false,true_and,↓Qn,↓qV,ZI,evP,List.map_nil];refine qm (v:= .agg [.int .i64 0, .int .i64 0, .int .i64 0]) (by rfl) (by rfl) hz QD (by rfl) (by rfl) (by simp[]) (Nat.zero_le _) (by rfl) ?_;simp only[setAt,AVal.cells,List.set_cons_zero,List.set_cons_succ,Nat.zero_add,Nat.reduceAdd];rw[Yj hz];simp+decide only[qa,putD,Slots.keep,if_true,if_false];apply hK;clear hK K;refine qN ?_;refine QN (?_) ?_
   ·simp+decide only[Qw,qi,Slots.get,if_true,and_true,qi,qg Xh QD,qc,List.getD_cons_zero,List.getD_cons_succ,Nat.zero_add,Nat.reduceAdd,qh,allLive,Bool.and_true,qc,List.getD_cons_zero,List.getD_cons_succ,Nat.zero_add,Nat.reduceAdd,qh,allLive,Bool.and_true,Qp w0 hz]
   simp+decide only[Slots.get,if_true,YM,qi,qg Xh QD,qc,List.getD_cons_zero,List.getD_cons_succ,Nat.zero_add,Nat.reduceAdd,qh,allLive,Bool.and_true,qc,List.getD_cons_zero,List.getD_cons_succ,Nat.zero_add,Nat.reduceAdd,qh,allLive,Bool.and_true,Qp w0 hz];refine⟨_,Sub.refl _,?_⟩;rw[hfin];exact⟨rfl,_,_,_,_,rfl,i2,hsB,hsM⟩
  ·try simp only[Bool.not_eq_false']at hb2
   refine awp_rseq [0,3,4,53] (by rfl) fun K hK=>?_;simp+decide only[qa,ev,qJ,qG,putD,Slots.put,Slots.get,Slots.keep,if_true,if_false,true_and,↓qj,qf,↓Qh,qK,Qj,↓qA,ql,qaN,↓qF,Qb,qy ag101,↓XA,QK,↓qC,qo,qD,cond_false,qz,XD,↓qd,qb,List.getD_cons_zero,Nat.zero_add,hrx,Xe,hlvc,hlen];apply hK;clear hK K;refine qL (b:=_) rfl (fun hb3=>?_) (fun hb3=>?_)
   ·try simp only[decide_eq_true_eq]at hb3
    refine awp_rseq [4] (by rfl) fun K hK=>?_;simp+decide only[ev,putD,Slots.put,Slots.get,if_true,if_false,true_and,↓qA,ql,fa120_0,↓qF,Qb,qy ag3,QU,ne_eq,not_false_eq_true,ne_0q1_0q0.symm,QV,List.getD_cons_zero,Nat.zero_add,qh];refine qM (V:=QS ⟨6,r.line,7⟩) (by rfl) (by rfl) (c_fault w0 _ 6 r.line 7) ?_;refine qm (by rfl) (by rfl) (by repeat (first|exact AHeap.set_same _ _ _|assumption|refine(AHeap.set_ne _ _ (by first|assumption|exact Ne.symm (by assumption))).trans ?_)) QD (by rfl) (by rfl) (by first|exact Nat.le_refl _|decide|(simp;done)|(simp;omega)) (Nat.zero_le _) (by rfl) ?_;simp only[AHeap.set_set,AVal.cells];simp+decide only[qa,ev,putD,Slots.put,Slots.get,Slots.keep,if_true,if_false,setAt,List.set_cons_zero,List.set_cons_succ,Nat.zero_add,Nat.reduceAdd,QS];apply hK;clear hK K;refine qN ?_;try simp only[Qf,Qr]
    refine qU (rdH kx B cb mb x) (by repeat (first|exact Sub.refl _|assumption|refine Sub.trans_set ?_ (by assumption))) (?_) ?_
    ·simp+decide only[Qw,qi,Slots.get,if_true,and_true,qi,qg Xh QD,qW,qc,List.getD_cons_zero,List.getD_cons_succ,Nat.zero_add,Nat.reduceAdd,qh,allLive,Bool.and_true,qc,List.getD_cons_zero,List.getD_cons_succ,Nat.zero_add,Nat.reduceAdd,qh,allLive,Bool.and_true]
    simp+decide only[Slots.get,if_true,YM,qi,qg Xh QD,qW,qc,List.getD_cons_zero,List.getD_cons_succ,Nat.zero_add,Nat.reduceAdd,qh,allLive,Bool.and_true,ne_eq,qc,List.getD_cons_zero,List.getD_cons_succ,Nat.zero_add,Nat.reduceAdd,qh,allLive,Bool.and_true,QS];rw[take3 (by simpa using hb2) (List.eq_nil_of_length_eq_zero (by omega))];exact⟨rfl,B,M,cb,mb,rfl,hi,Sub.refl _,fun _ _ h=>h⟩
   ·try simp only[decide_eq_false_iff_not]at hb3
    have hm:r.more=true:=by simpa using hb2
    have hne:x.cards≠[]:=fun e=>hb3 (by rw[e];rfl);refine awp_rseq [0,3,4,63] (by rfl) fun K hK=>?_;simp+decide only[qa,ev,qJ,qG,putD,Slots.put,Slots.get,Slots.keep,if_true,if_false,true_and,↓qA,ql,fa120_3,↓qF,Qb,qy ag3,↓qC,qo,qD,cond_false,qz,Zd,↓qj,qf,↓Xc,agP,Qu,qI,qH,QO,Yl,qw,Qd,cv_cv,implies_true,↓ZZ,qK,Qj,qbr,qbs,↓Xn,qcG,Zv,Zw,↓Zb,XI,Wy,qcN,agL_ld3,qy ag4,fa120_2,qy ag9,↓ag_index,pop_index,qcB Tryz.underlying9,cv_indexl,cp_indexl,↓Xd,Zf,Zg,qbh,↓ag_pick,Qt,Qg,XW,cp_nest1,Xk,ZR,cv_pick,cp_pick,↓QP,↓qd,qb,QU,ne_eq,not_false_eq_true,ne_0q1_0q0.symm,QV,List.getD_cons_zero,List.getD_cons_succ,Nat.zero_add,qB,qh,qE,hrx,Xe,Int.toNat_zero];repeat (with_reducible refine And.intro ?_ ?_;· first|trivial|omega|(intro hg;simp only[Bool.and_eq_true,Bool.or_eq_true,Bool.not_eq_true',Bool.and_eq_false_iff,Bool.or_eq_false_iff,Bool.not_eq_false',decide_eq_true_eq,decide_eq_false_iff_not,Zt]at hg;omega))
    apply hK;clear hK K;refine qL (b:=_) rfl (fun hb4=>?_) (fun hb4=>?_)
    ·try simp only[decide_eq_true_eq,decide_eq_false_iff_not,Bool.not_eq_true',Bool.and_eq_true,Bool.or_eq_true]at hb4
     refine awp_rseq [4] (by rfl) fun K hK=>?_;simp+decide only[ev,putD,Slots.put,Slots.get,if_true,if_false,true_and,↓qA,ql,fa120_0,↓qF,Qb,qy ag3,fa120_3,QU,ne_eq,not_false_eq_true,ne_0q1_0q0.symm,QV,List.getD_cons_zero,List.getD_cons_succ,Nat.zero_add,qh];refine qM (V:=QS ⟨4,r.line,r.col⟩) (by rfl) (by rfl) (c_fault w0 _ 4 r.line r.col) ?_;refine qm (by rfl) (by rfl) (by repeat (first|exact AHeap.set_same _ _ _|assumption|refine(AHeap.set_ne _ _ (by first|assumption|exact Ne.symm (by assumption))).trans ?_)) QD (by rfl) (by rfl) (by first|exact Nat.le_refl _|decide|(simp;done)|(simp;omega)) (Nat.zero_le _) (by rfl) ?_;simp only[AHeap.set_set,AVal.cells];simp+decide only[qa,ev,putD,Slots.put,Slots.get,Slots.keep,if_true,if_false,setAt,List.set_cons_zero,List.set_cons_succ,Nat.zero_add,Nat.reduceAdd,QS];apply hK;clear hK K;refine qN ?_;try simp only[Qf,Qr]
     refine qU (rdH kx B cb mb x) (by repeat (first|exact Sub.refl _|assumption|refine Sub.trans_set ?_ (by assumption))) (?_) ?_
     ·simp+decide only[Qw,qi,Slots.get,if_true,and_true,qi,qg Xh QD,qW,qc,List.getD_cons_zero,List.getD_cons_succ,Nat.zero_add,Nat.reduceAdd,qh,allLive,Bool.and_true,qc,List.getD_cons_zero,List.getD_cons_succ,Nat.zero_add,Nat.reduceAdd,qh,allLive,Bool.and_true]
     simp+decide only[Slots.get,if_true,YM,qi,qg Xh QD,qW,qc,List.getD_cons_zero,List.getD_cons_succ,Nat.zero_add,Nat.reduceAdd,qh,allLive,Bool.and_true,ne_eq,qc,List.getD_cons_zero,List.getD_cons_succ,Nat.zero_add,Nat.reduceAdd,qh,allLive,Bool.and_true,QS];rw[take4 hm hne (hb4.imp id (fun e=>⟨e.1,fun q=>e.2 (by rw[q];rfl)⟩))];exact⟨rfl,B,M,cb,mb,rfl,hi,Sub.refl _,fun _ _ h=>h⟩
    ·try simp only[decide_eq_true_eq,decide_eq_false_iff_not,Bool.not_eq_false',Bool.and_eq_false_iff,Bool.or_eq_false_iff]at hb4
     have hnq:¬(r.col<12\/(x.odd=true/\r.text.getD 0 0≠34)):=by
      rintro(e|⟨e1,e2⟩)
      ·exact hb4.1 e
      ·rcases hb4.2 with e|e
       ·rw[e1]at e;cases e
       ·exact e2 ((XP _ 34).mp e)
     refine awp_rseq [0,3,4,84] (by rfl) fun K hK=>?_;simp+decide only[qa,ev,putD,Slots.put,Slots.get,Slots.keep,if_true,if_false,true_and,↓qj,qf,↓Qh,qK,Qj,↓qA,ql,qcG,↓qF,Qb,qy ag4,↓qd,qb,List.getD_cons_zero,List.getD_cons_succ,Nat.zero_add,qB,hrx,Xe];apply hK;clear hK K;refine qL (b:=_) rfl (fun hb5=>?_) (fun hb5=>?_)
     ·skip
      rw[hheap];obtain⟨B₁,hB₁⟩:∃B₁,B₁=(B.set k0q0 ⟨[.int .i64 r.line, .bool r.more, .str r.text, .int .i64 r.col],0⟩).set k0q1 ⟨[.int .i64 0, .int .i64 0, .int .i64 0],0⟩:=⟨_,rfl⟩
      rw[<-hB₁]at b2|-
      have e0:B₁ k0q0=some ⟨[.int .i64 r.line, .bool r.more, .str r.text, .int .i64 r.col],0⟩:=by rw[hB₁,AHeap.set_ne _ _ ne_0q1_0q0.symm,AHeap.set_same]
      have e1:B₁ k0q1=some ⟨[.int .i64 0, .int .i64 0, .int .i64 0],0⟩:=by rw[hB₁,AHeap.set_same]
      have s0:=fun o=>Qp w0 (b2.other e0) o;have sx:=fun o=>Qp w0 b2.at o;have hcut:(r.text.drop (1:Int).toNat).take ((r.text.length:Int).toNat-(1:Int).toNat)=r.text.drop 1:=by
       rw[Int.toNat_natCast,show Int.toNat 1=1 from rfl,List.take_of_length_le (by simp)]
      refine qam 9 mixed (by kernel_rfl) (by rfl) (by rfl) ?_;simp+decide only[ev,qJ,qG,putD,Slots.put,Slots.get,if_true,if_false,true_and,↓qj,qf,↓qA,ql,fa120_0,↓qF,Qb,qy ag3,fa120_3,↓qC,qo,qD,cond_false,qz,Xf,fa120_2,qy ag9,ne_eq,List.getD_cons_zero,List.getD_cons_succ,Nat.zero_add,qh,qE,QS,s0];try simp(disch:=omega)only[wrap_i64]
      try simp+decide only[ev,qJ,qG,putD,Slots.put,Slots.get,if_true,if_false,true_and,↓UJ,ZK,evO,qcA Tryz.underlying9,qaJ,bndA_none,UH,hcut]
      repeat (with_reducible refine And.intro ?_ ?_;· first|trivial|omega|(intro hg;simp only[Bool.and_eq_true,Bool.or_eq_true,Bool.not_eq_true',Bool.and_eq_false_iff,Bool.or_eq_false_iff,Bool.not_eq_false',decide_eq_true_eq,decide_eq_false_iff_not,Zt]at hg;omega))
      refine QI (by rfl) (by rfl) (c_addR w0 h kx _ _ cb mb _ b2 hne r.line (r.col+1) (r.text.drop 1) (by intro c hc;have:=hb c hc;omega) (by omega) (by simp;omega)) fun x12q9 h12q9 hx12q9=>?_;obtain⟨-,cb2,mb2,rfl,i2⟩:=hx12q9;have hz:=i2.other e1;have hsB:Sub B B₁:=fun j c hj=>by rw[hB₁];exact Sub.trans_set (Sub.trans_set (Sub.refl _) a4) (by rwa [AHeap.set_ne _ _ ne_0q1_0q0]at b4) j c hj
      have hsM:∀j,B j≠none->M j=none->M j=none:=fun _ _ h=>h;have hfin:=take5 (x:=x) (r:=r) hm hne hnq hb5;simp+decide only[qa,putD,Slots.put,if_false];change Awp _ _ _ _ _ _ _;refine awp_rseq [4] (by rfl) fun K hK=>?_;simp+decide only[ev,qJ,qG,putD,Slots.put,Slots.get,if_false,true_and,↓Qn,↓qV,ZI,evP,List.map_nil];refine qm (v:= .agg [.int .i64 0, .int .i64 0, .int .i64 0]) (by rfl) (by rfl) hz QD (by rfl) (by rfl) (by simp[]) (Nat.zero_le _) (by rfl) ?_;simp only[setAt,AVal.cells,List.set_cons_zero,List.set_cons_succ,Nat.zero_add,Nat.reduceAdd];rw[Yj hz];simp+decide only[qa,putD,Slots.keep,if_true,if_false];apply hK;clear hK K;refine qN ?_;refine QN (?_) ?_
      ·simp+decide only[Qw,qi,Slots.get,if_true,and_true,qi,qg Xh QD,qc,List.getD_cons_zero,List.getD_cons_succ,Nat.zero_add,Nat.reduceAdd,qh,allLive,Bool.and_true,qc,List.getD_cons_zero,List.getD_cons_succ,Nat.zero_add,Nat.reduceAdd,qh,allLive,Bool.and_true,Qp w0 hz]
      simp+decide only[Slots.get,if_true,YM,qi,qg Xh QD,qc,List.getD_cons_zero,List.getD_cons_succ,Nat.zero_add,Nat.reduceAdd,qh,allLive,Bool.and_true,qc,List.getD_cons_zero,List.getD_cons_succ,Nat.zero_add,Nat.reduceAdd,qh,allLive,Bool.and_true,Qp w0 hz];refine⟨_,Sub.refl _,?_⟩;rw[hfin];exact⟨rfl,_,_,_,_,rfl,i2,hsB,hsM⟩
     ·skip
      rw[hheap];obtain⟨B₁,hB₁⟩:∃B₁,B₁=(B.set k0q0 ⟨[.int .i64 r.line, .bool r.more, .str r.text, .int .i64 r.col],0⟩).set k0q1 ⟨[.int .i64 0, .int .i64 0, .int .i64 0],0⟩:=⟨_,rfl⟩
      rw[<-hB₁]at b2|-
      have e0:B₁ k0q0=some ⟨[.int .i64 r.line, .bool r.more, .str r.text, .int .i64 r.col],0⟩:=by rw[hB₁,AHeap.set_ne _ _ ne_0q1_0q0.symm,AHeap.set_same]
      have e1:B₁ k0q1=some ⟨[.int .i64 0, .int .i64 0, .int .i64 0],0⟩:=by rw[hB₁,AHeap.set_same]
      have s0:=fun o=>Qp w0 (b2.other e0) o;have sx:=fun o=>Qp w0 b2.at o;refine XK [4] (by rfl) ?_;simp+decide only[ev,putD,Slots.put,Slots.get,if_true,if_false,true_and,↓qj,qf,↓qA,ql,fa120_0,↓qF,Qb,qy ag3,fa120_3,fa120_2,qy ag9,ne_eq,List.getD_cons_zero,List.getD_cons_succ,Nat.zero_add,qh,qE,QS,s0];refine QI (by rfl) (by rfl) (c_addR w0 h kx _ _ cb mb _ b2 hne r.line r.col r.text (by intro c hc;have:=hb c hc;omega) (by omega) ht) fun x1q7 h1q7 hx1q7=>?_;obtain⟨-,cb2,mb2,rfl,i2⟩:=hx1q7;have hz:=i2.other e1;have hsB:Sub B B₁:=fun j c hj=>by rw[hB₁];exact Sub.trans_set (Sub.trans_set (Sub.refl _) a4) (by rwa [AHeap.set_ne _ _ ne_0q1_0q0]at b4) j c hj
      have hsM:∀j,B j≠none->M j=none->M j=none:=fun _ _ h=>h;have hfin:=take6 (x:=x) (r:=r) hm hne hnq hb5;simp+decide only[qa,putD,Slots.put,Slots.keep,if_true,if_false];change Awp _ _ _ _ _ _ _;refine awp_rseq [4] (by rfl) fun K hK=>?_;simp+decide only[ev,qJ,qG,putD,Slots.put,Slots.get,if_false,true_and,↓Qn,↓qV,ZI,evP,List.map_nil];refine qm (v:= .agg [.int .i64 0, .int .i64 0, .int .i64 0]) (by rfl) (by rfl) hz QD (by rfl) (by rfl) (by simp[]) (Nat.zero_le _) (by rfl) ?_;simp only[setAt,AVal.cells,List.set_cons_zero,List.set_cons_succ,Nat.zero_add,Nat.reduceAdd];rw[Yj hz];simp+decide only[qa,putD,Slots.keep,if_true,if_false];apply hK;clear hK K;refine qN ?_;refine QN (?_) ?_
      ·simp+decide only[Qw,qi,Slots.get,if_true,and_true,qi,qg Xh QD,qc,List.getD_cons_zero,List.getD_cons_succ,Nat.zero_add,Nat.reduceAdd,qh,allLive,Bool.and_true,qc,List.getD_cons_zero,List.getD_cons_succ,Nat.zero_add,Nat.reduceAdd,qh,allLive,Bool.and_true,Qp w0 hz]
      simp+decide only[Slots.get,if_true,YM,qi,qg Xh QD,qc,List.getD_cons_zero,List.getD_cons_succ,Nat.zero_add,Nat.reduceAdd,qh,allLive,Bool.and_true,qc,List.getD_cons_zero,List.getD_cons_succ,Nat.zero_add,Nat.reduceAdd,qh,allLive,Bool.and_true,Qp w0 hz];refine⟨_,Sub.refl _,?_⟩;rw[hfin];exact⟨rfl,_,_,_,_,rfl,i2,hsB,hsM⟩
end Go.Proofs.YtlhhaagmakhilaaGreatDoor
namespace Go.Proofs.YtlhhaagmakhilaaGreatDoor
open Go.AM
open Go.Proofs
open Go.Col
set_option maxRecDepth 100000
theorem c_clipM(w0:World)(h:AHeap)(v:AVal)(xs:List (List AVal))(hv:IsL w0 h 3 v xs):ACall Tryz.prog w0 63 [v] h (fun r h'=>r=Ye v/\h'=h):=by
 have hlen:=hv.len Tryz.underlying124;have h3:=hv.slice3 Tryz.underlying124 sz127 .i64 .i64 none rfl;refine qR (n:=9) (rs:=[.tmp 2]) Tryz.func63 rfl rfl rfl rfl (Nat.le_of_ble_eq_true rfl) ?_;simp only[Qc];refine awp_rseq [0] (by rfl) fun K hK=>?_;simp+decide only[qa,ev,qJ,qG,putD,Slots.put,Slots.keep,if_true,if_false,true_and,↓qd,qb];apply hK;clear hK K;refine awp_rseq [2] (by rfl) fun K hK=>?_;simp+decide only[qa,ev,putD,Slots.put,Slots.get,Slots.keep,if_true,if_false,true_and,↓qj,qf,↓XA,QK,↓UJ,ZK,evO,↓qd,qb,hlen,h3];apply hK;clear hK K;refine qN ?_;refine qU _ (Sub.refl _) (qY (Qe)) ?_;simp+decide only[Slots.get,if_true,and_true,Qv];all_goals first|rfl|exact⟨rfl,rfl⟩|(simp+decide only[if_true,if_false, *];done)|(trace_state;fail)
theorem c_clipC(w0:World)(h:AHeap)(v:AVal)(xs:List (List AVal))(hv:IsL w0 h 3 v xs):ACall Tryz.prog w0 64 [v] h (fun r h'=>r=Ye v/\h'=h):=by
 have hlen:=hv.len Tryz.underlying101;have h3:=hv.slice3 Tryz.underlying101 qbV .i64 .i64 none rfl;refine qR (n:=9) (rs:=[.tmp 2]) Tryz.func64 rfl rfl rfl rfl (Nat.le_of_ble_eq_true rfl) ?_;simp only[Qc];refine awp_rseq [0] (by rfl) fun K hK=>?_;simp+decide only[qa,ev,qJ,qG,putD,Slots.put,Slots.keep,if_true,if_false,true_and,↓qd,qb];apply hK;clear hK K;refine awp_rseq [2] (by rfl) fun K hK=>?_;simp+decide only[qa,ev,putD,Slots.put,Slots.get,Slots.keep,if_true,if_false,true_and,↓qj,qf,↓XA,QK,↓UJ,ZK,evO,↓qd,qb,hlen,h3];apply hK;clear hK K;refine qN ?_;refine qU _ (Sub.refl _) (qY (Qe)) ?_;simp+decide only[Slots.get,if_true,and_true,Qv];all_goals first|rfl|exact⟨rfl,rfl⟩|(simp+decide only[if_true,if_false, *];done)|(trace_state;fail)
structure RdSm(N:Nat)(x:Rd):Prop where
 many:x.cards.length<=N
 small:∀c∈x.cards,c.text.length<=80*N/\c.marks.length<=N
theorem RdSm.next{N:Nat}{x:Rd}(h:RdSm N x):RdSm (N+1) x:=⟨by have:=h.many;omega,fun c hc=>by have:=h.small c hc;omega⟩
theorem addC_small{c:CardC}{N:Nat}(h:c.text.length<=80*N/\c.marks.length<=N)(line col:Int)(t:Str)(ht:t.length<=80):(addC c line col t).text.length<=80*(N+1)/\(addC c line col t).marks.length<=N+1:=by
 have h1:=trimR_le t;unfold addC;simp only[List.length_append];constructor
 ·split<;>omega
 ·split<;>(try split)<;>(try simp only[List.length_append,List.length_cons,List.length_nil])<;>omega
theorem addE_small{N:Nat}{x:Rd}(h:RdSm N x)(line col:Int)(t:Str)(ht:t.length<=80):RdSm (N+1) (addE x line col t):=by
 rcases List.eq_nil_or_concat x.cards with e|⟨l,c,e⟩
 ·have:addE x line col t=x:=by unfold addE;rw[e];rfl
  rw[this];exact h.next
 ·rw[List.concat_eq_append]at e
  rw[addE_last e];have hm:=h.many;rw[e]at hm;simp only[List.length_append,List.length_cons,List.length_nil]at hm;refine⟨by simp;omega,fun d hd=>?_⟩;rw[List.mem_append]at hd;rcases hd with hd|hd
  ·have:=h.small d (by rw[e];simp[hd])
   omega
  ·rw[List.mem_singleton.1 hd]
   exact addC_small (h.small c (by rw[e];simp)) line col t ht
theorem qcZ{N:Nat}{x:Rd}(h:RdSm N x){r:RowC}(ht:r.text.length<=80):RdSm (N+1) (takeE x r).1:=by
 unfold takeE;split
 ·exact h.next
 split
 ·have hp:RdSm N x:=h
  have h':RdSm (N+1) ⟨x.cards++[⟨decide (r.col<12),[],[]⟩],x.line,x.col,x.odd⟩:=by
   refine⟨by have:=h.many;simp;omega,fun c hc=>?_⟩;rw[List.mem_append]at hc;rcases hc with hc|hc
   ·exact h.next.small c hc
   ·rw[List.mem_singleton.1 hc]
    simp
  refine⟨?_,?_⟩
  ·have:=h.many
   rw[addE_last (x:=⟨x.cards++[⟨decide (r.col<12),[],[]⟩],x.line,x.col,x.odd⟩) rfl];simp;omega
  ·intro c hc
   rw[addE_last (x:=⟨x.cards++[⟨decide (r.col<12),[],[]⟩],x.line,x.col,x.odd⟩) rfl]at hc;simp only[List.mem_append,List.mem_singleton]at hc;rcases hc with hc|rfl
   ·exact h.next.small c hc
   ·exact addC_small ⟨by simp,by simp⟩ _ _ _ ht
 split
 ·exact h.next
 split
 ·exact h.next
 split
 ·exact addE_small h _ _ _ (by simp;omega)
 ·exact addE_small h _ _ _ ht
theorem lineE_small{s:Str}{line:Int}{dbg:Bool}:(WR s line dbg).1.text.length<=65/\((WR s line dbg).2.1=true->(WR s line dbg).1.text≠[]/\0<=(WR s line dbg).1.col/\(WR s line dbg).1.col<=73):=by
 by_cases h80:80<s.length
 ·have:WR s line dbg=(noRow,false,⟨5,line,81⟩):=by unfold WR;rw[if_pos h80]
  rw[this];simp[noRow]
 ·cases hb:qbJ s with
  |some i=>
   have:WR s line dbg=(noRow,false,⟨4,line,(i:Int)+1⟩):=by unfold WR;rw[if_neg h80,hb]
   rw[this];simp[noRow]
  |none=>
   rw[lineE_none h80 hb];have h1:(rowE s line).text.length<=65:=Nat.le_trans (trimL_le _) (by simp;omega);have h2:(rowE s line).col=73-(rowE s line).text.length:=rfl;split
   ·exact⟨h1,by simp⟩
   split
   ·refine⟨h1,fun h=>?_⟩
    simp only[Bool.and_eq_true,Bool.not_eq_true',decide_eq_false_iff_not]at h;exact⟨h.2,by simp only;omega,by simp only;omega⟩
   split
   ·refine⟨h1,fun h=>?_⟩
    simp only[Bool.not_eq_true',decide_eq_false_iff_not]at h;exact⟨h,by simp only;omega,by simp only;omega⟩
   ·exact⟨h1,by simp⟩
theorem qdc:∀s:Str,(XF s).length<=s.length+1
 |[]=>by simp[XF]
 |b::s=>by
  have:=qdc s;unfold XF;split
  ·simp;omega
  ·split<;>simp_all<;>omega
theorem qcm(s:Str):(Yg s).length<=s.length:=by
 unfold Yg;split<;>simp
def IsCards(w0:World)(h:AHeap)(v:AVal)(cs:List CardC):Prop:=∃ps:List (CardC×AVal),ps.map (·.1)=cs/\IsL w0 h 3 v (ps.map XZ)/\∀p∈ps,IsL w0 h 3 p.2 (p.1.marks.map WO)
theorem IsCards.mono{w0:World}{h h':AHeap}{v:AVal}{cs:List CardC}(hc:IsCards w0 h v cs)(hs:Sub h h'):IsCards w0 h' v cs:=by
 obtain⟨ps,h1,h2,h3⟩:=hc;exact⟨ps,h1,h2.mono hs,fun p hp=>(h3 p hp).mono hs⟩
end Go.Proofs.YtlhhaagmakhilaaGreatDoor
