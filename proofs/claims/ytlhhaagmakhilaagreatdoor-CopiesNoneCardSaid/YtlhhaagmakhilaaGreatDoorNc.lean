/-
  Texts of this proof, joined: CoD, TkF, TkG, TkH, TkI, TkJ, LbA, LbB, TkK, TkL, CoE, TkM, TkN, CoF, CoG, CoH, CoI.
  Conditions: none.
-/
import Derived.Test.YtlhhaagmakhilaaGreatDoorNb
import Derived.Lib.SlicesS
import Derived.Lib.IndexLaws
import Derived.Shelf.Strings.SlTrimAscii
set_option linter.unusedSimpArgs false
set_option linter.unnecessarySimpa false
set_option linter.unusedVariables false
namespace Go.Proofs.YtlhhaagmakhilaaGreatDoor
open Go.AM
open Go.Proofs
open Go.Col
set_option maxRecDepth 100000
def rowA(r:RowC):AVal:= .agg [.int .i64 r.line, .bool r.more, .str r.text, .int .i64 r.col]
theorem quotes_le(s:Str):quotes s<=s.length:=List.countP_le_length
theorem c_open(wz:World)(h:AHeap)(s:Str)(hl:s.length<=4611686018427387904):ACall Tryz.prog wz 101 [.str s] h (fun v h'=>v= .bool (qcp s)/\h'=h):=by
 have hq:=quotes_le s;refine qU (n:=7) (rs:=[.tmp 2]) Tryz.func101 rfl rfl rfl rfl (Nat.le_of_ble_eq_true rfl) ?_;simp only[Qe];refine awp_rseq [0] (by rfl) fun K hK=>?_;simp+decide only[qa,ev,qH,qF,putD,Slots.put,Slots.keep,if_true,if_false,true_and,↓qd,qb];apply hK;clear hK K;refine awp_rseq [2] (by rfl) fun K hK=>?_;simp+decide only[ev,putD,Slots.put,Slots.get,if_true,if_false,true_and,↓qh,qc];refine qN (V:= .int .i64 (quotes s)) (by rfl) (by rfl) (c_count wz _ s 34) ?_;simp+decide only[qa,ev,qH,qF,putD,Slots.put,Slots.get,Slots.keep,if_true,if_false,true_and,↓qA,ql,qB,cond_false,qo,qdZ,XR,↓qd,qb];apply hK;clear hK K;refine qO ?_;refine Qa _ (Sub.refl _) (qZ (Qd)) ?_;simp+decide only[Slots.get,if_true,and_true,Qr];unfold qcp;congr 1;rw[Int.tmod_eq_emod_of_nonneg (by omega)];apply decide_eq_decide.2;omega
theorem dropWhile_le(p:UInt8->Bool)(s:Str):(s.dropWhile p).length<=s.length:=(List.dropWhile_sublist p).length_le
theorem trimR_le(s:Str):(trimR s).length<=s.length:=by
 unfold trimR;rw[List.length_reverse];exact Nat.le_trans (dropWhile_le _ _) (by rw[List.length_reverse];exact Nat.le_refl _)
theorem c_add(wz:World)(H:AHeap)(kx kc:Nat)(D:List AVal)(m:Nat)(mb:Option Buf)(c:CardC)(xl xc:Int)(xo:Bool)(line col:Int)(t:Str)
 (hkx:H kx=some ⟨[.slice (.own kc) 0 (m+1) (.grow 3), .int .i64 xl, .int .i64 xc, .bool xo],0⟩) (hkc:H kc=some ⟨D++[.bool c.left, .str c.text,QA 3 mb],0⟩) (hD:D.length=m*3)
 (hok:bufOk H 3 mb) (hmb:Yu mb=(c.marks.map Un).flatten) (hl:c.text.length+t.length<=1099511627776) (hml:c.marks.length<=1099511627776) (hmm:m<=1099511627776):
 ACall Tryz.prog wz 80 [.ptr (.own kx) 0, .int .i64 line, .int .i64 col, .str t] (QG H mb)
  (fun v h'=>v= .tuple []/\∃mb',h'=QG ((H.set kx ⟨[.slice (.own kc) 0 (m+1) (.grow 3), .int .i64 line, .int .i64 col, .bool (qcp (c.text++t))],0⟩).set kc ⟨D++[.bool c.left, .str (qfi c line col t).text,QA 3 mb'],0⟩) mb'/\
    bufOk ((H.set kx ⟨[.slice (.own kc) 0 (m+1) (.grow 3), .int .i64 line, .int .i64 col, .bool (qcp (c.text++t))],0⟩).set kc ⟨D++[.bool c.left, .str (qfi c line col t).text,QA 3 mb'],0⟩) 3 mb'/\Yu mb'=((qfi c line col t).marks.map Un).flatten):=by
 have hne:kx≠kc:=fun e=>by
  subst e;rw[hkx]at hkc;have:=congrArg (fun o=>(o.map fun b=>b.cells.length).getD 0) hkc;simp[hD]at this;omega
 have rx:=qfk wz hok hkx;have rc:=qfk wz hok hkc;have hidx:((((m+1:Nat):Int))-1).toNat=m:=by omega
 have hlv:=QV 3 mb;refine qU (n:=72) (rs:=[]) Tryz.func80 rfl rfl rfl rfl (Nat.le_of_ble_eq_true rfl) ?_;simp only[Qe];refine Zn [0,1,2,3,8] mixed (by kernel_rfl) (by rfl) (by rfl) fun K hK=>?_;simp+decide only[ev,qH,qF,putD,Slots.put,Slots.get,if_true,if_false,true_and,↓qh,qc,↓Qk,qM,Qn,↓qC,qm,qbl,↓qG,qY,qy ag101,↓Xo,QD,ZI Tryz.underlying101,↓qA,ql,qB,cond_false,qo,UH,List.getD_cons_zero,Nat.zero_add,Nat.reduceAdd,WY,rx];try simp(disch:=omega)only[wrap_i64]
 try simp+decide only[qa,ev,putD,Slots.put,Slots.get,Slots.keep,if_true,if_false,true_and,↓QB,qY,Qb Tryz.underlying101 qcz,↓qd,qb,Nat.zero_add,hidx]
 repeat (with_reducible refine And.intro ?_ ?_;· first|trivial|omega|(intro hg;simp only[Bool.and_eq_true,Bool.or_eq_true,Bool.not_eq_true',Bool.and_eq_false_iff,Bool.or_eq_false_iff,Bool.not_eq_false',decide_eq_true_eq,decide_eq_false_iff_not,XV]at hg;omega))
 apply hK;clear hK K;refine awp_rseq [0,1,2,3,8] (by rfl) fun K hK=>?_;simp+decide only[ev,putD,Slots.put,Slots.get,if_true,if_false,true_and,↓qh,qc,↓Qk,qM,Qn,↓qC,qm,YZ,↓qG,qY,qy ag9,↓qA,ql,qR,cond_false,XZ,qdj,List.getD_cons_zero,List.getD_cons_succ,qE,rc,getD_app hD];repeat (with_reducible refine And.intro ?_ ?_;· first|trivial|omega|(intro hg;simp only[Bool.and_eq_true,Bool.or_eq_true,Bool.not_eq_true',Bool.and_eq_false_iff,Bool.or_eq_false_iff,Bool.not_eq_false',decide_eq_true_eq,decide_eq_false_iff_not,XV]at hg;omega))
 refine qN (V:= .bool (qcp (c.text++t))) (by rfl) (by rfl) (c_open wz _ _ (by simp;omega)) ?_;simp+decide only[ev,putD,Slots.put,Slots.get,if_true,if_false,true_and,↓Qk,qM,Qn,↓qC,qm,qdr,Nat.zero_add];refine qp (v:= .bool (qcp (c.text++t))) (by rfl) (by rfl) (ZR hok hkx) sz4 (by rfl) (by rfl) (by simp) (Nat.zero_le _) (by rfl) ?_;simp only[setAt,AVal.cells,List.set_cons_zero,List.set_cons_succ];rw[Wo hok hkx];simp+decide only[qa,putD,Slots.keep,if_true,if_false];have hok1:=ZP hok hkx ⟨[.slice (.own kc) 0 (m+1) (.grow 3), .int .i64 xl, .int .i64 xc, .bool (qcp (c.text++t))],0⟩;have hkx1:=AHeap.set_same H kx ⟨[.slice (.own kc) 0 (m+1) (.grow 3), .int .i64 xl, .int .i64 xc, .bool (qcp (c.text++t))],0⟩;have hkc1:=(AHeap.set_ne H ⟨[.slice (.own kc) 0 (m+1) (.grow 3), .int .i64 xl, .int .i64 xc, .bool (qcp (c.text++t))],0⟩ hne.symm).trans hkc;have rx1:=qfk wz hok1 hkx1;apply hK;clear hK K;refine qK ?_;refine awp_rseq [0,1,2,3,8,34] (by rfl) fun K hK=>?_;simp+decide only[qa,ev,putD,Slots.put,Slots.get,Slots.keep,if_true,if_false,true_and,↓qh,qc,↓Qk,qM,Qn,↓qC,qm,qdr,↓qG,qY,qy ag4,↓YA,XU,Yi,List.getD_cons_zero,List.getD_cons_succ,Nat.zero_add,qD,rx1];apply hK;clear hK K;refine Ue [0,1,2,3,8] (fun t':Str=>[(0, .ptr (.own kx) 0),(1, .int .i64 line),(2, .int .i64 col),(3, .str t'),(8, .ptr (.own kc) (m*3))]) (fun t':Str=>QG (H.set kx ⟨[.slice (.own kc) 0 (m+1) (.grow 3), .int .i64 xl, .int .i64 xc, .bool (qcp (c.text++t))],0⟩) mb) (fun t':Str=>t'=if qcp (c.text++t)=true then t else trimR t) ?_ ?_
 ·refine qJ (b:=_) rfl (fun hb1=>?_) (fun hb1=>?_)
  ·try simp only[Bool.not_eq_true']at hb1
   refine XA [0,1,2,3,8] (by rfl) ?_;simp+decide only[ev,putD,Slots.put,Slots.get,if_true,if_false,true_and,↓qh,qc];refine qN (V:= .str (trimR t)) (by rfl) (by rfl) (c_trimR wz _ t (by omega)) ?_;simp+decide only[qa,ev,putD,Slots.put,Slots.get,Slots.keep,if_true,if_false,true_and,↓qd,qb];try simp only[Qg]
   first|exact⟨trimR t,rfl,Sub.refl _,by rw[hb1];rfl⟩|exact⟨t,rfl,Sub.refl _,by rw[hb1];rfl⟩
  ·try simp only[Bool.not_eq_false']at hb1
   refine qP ?_;try simp only[Qg]
   first|exact⟨trimR t,rfl,Sub.refl _,by rw[hb1];rfl⟩|exact⟨t,rfl,Sub.refl _,by rw[hb1];rfl⟩
 ·intro t' ht'
  have htl:t'.length<=t.length:=by
   rw[ht'];have:=trimR_le t;split<;>omega
  have ha:qfi c line col t=⟨c.left,c.text++t',if t'=[]then c.marks else c.marks++[⟨c.text.length,line,col⟩]⟩:=by rw[ht'];rfl
  refine awp_rseq [0,3,8] (by rfl) fun K hK=>?_;simp+decide only[ev,qH,qF,putD,Slots.put,Slots.get,if_true,if_false,true_and,↓qh,qc,↓Qp,↓qW,qcS,evP,List.map_cons,List.map_nil,↓Qk,qM,Qn,↓qC,qm,fa116_1,Nat.zero_add];refine qp (v:= .agg [.int .i64 line, .int .i64 col]) (by rfl) (by rfl) (ZR hok1 hkx1) qbf (by rfl) (by rfl) (by simp[]) (Nat.zero_le _) (by rfl) ?_;simp only[setAt,AVal.cells,List.set_cons_zero,List.set_cons_succ,Nat.reduceAdd];rw[Wo hok1 hkx1,AHeap.set_set];simp+decide only[qa,putD,Slots.keep,if_true,if_false];obtain⟨H2,hH2⟩:∃H2,H2=H.set kx ⟨[.slice (.own kc) 0 (m+1) (.grow 3), .int .i64 line, .int .i64 col, .bool (qcp (c.text++t))],0⟩:=⟨_,rfl⟩
  have hok2:bufOk H2 3 mb:=by rw[hH2];exact ZP hok hkx _
  have hkx2:H2 kx=some ⟨[.slice (.own kc) 0 (m+1) (.grow 3), .int .i64 line, .int .i64 col, .bool (qcp (c.text++t))],0⟩:=by rw[hH2];exact AHeap.set_same _ _ _
  have hkc2:H2 kc=some ⟨D++[.bool c.left, .str c.text,QA 3 mb],0⟩:=by rw[hH2];exact(AHeap.set_ne _ _ hne.symm).trans hkc
  rw[<-hH2];have rx2:=qfk wz hok2 hkx2;have rc2:=qfk wz hok2 hkc2;apply hK;clear hK K;refine qK ?_;refine awp_rseq [0,3,8,44] (by rfl) fun K hK=>?_;simp+decide only[qa,ev,qH,qF,putD,Slots.put,Slots.get,Slots.keep,if_true,if_false,true_and,↓qh,qc,↓qA,ql,Ym,cond_false,XZ,qfz];apply hK;clear hK K;refine qJ (b:=_) rfl (fun hb2=>?_) (fun hb2=>?_)
  ·try simp only[decide_eq_false_iff_not,Bool.not_eq_true']at hb2
   refine awp_draw_F 16 [0] mixed (by kernel_rfl) (by rfl) ?_;simp only[List.take_succ_cons,List.take_zero,List.drop_succ_cons,List.drop_zero];simp+decide only[ev,qH,qF,putD,Slots.put,Slots.get,if_true,if_false,true_and,↓XK,qc,↓WH,qM,Qn,↓ZG,qm,qbk,↓Zv,XF,qy ag124,YZ,qy ag9,↓fp_len,QD,YK Tryz.underlying9,fa116_1,qg ag33 qbf,↓Us,↓qW,bld127_0_1,evP,List.map_cons,List.map_nil,qf,List.getD_cons_zero,List.getD_cons_succ,Nat.zero_add,Nat.reduceAdd,qi,qE,allLive,Bool.and_true,rx2,rc2,hlv,getD_app hD];refine qcK (by rfl) ?_;refine Qm (cs:=[.int .i64 c.text.length, .int .i64 line, .int .i64 col]) (by kernel_rfl) fun k6q15 hk6q15=>?_;try have hf_6q15:((QG H mb)) k6q15=none:=by first|assumption|(simp only[AHeap.set_none]at hk6q15;simp only[hk6q15])
   rw[qa];try simp only[Yr]
   refine Xu (es:=3) (zs:=c.marks.map Un) (xs:=[[.int .i64 c.text.length, .int .i64 line, .int .i64 col]]) (hZ:=H2) (b:=mb) (by rfl) (by rfl) Tryz.underlying124 Tryz.underlying124 (fun k e=>by cases e) sz127 by127 ze127 (by rfl) (by decide) (by rfl) hok2 hmb (by simp[Un]) (Sub.set hk6q15) (by rfl) (IsL.own (AHeap.set_same _ _ _) (by simp) (by rfl) (by rfl) (.exact 1) (Nat.le_refl _)) (by rfl) (by simp;omega) (by simp;omega) fun mb' h6 o1 o2 o3=>?_;have hlv':=QV 3 mb';simp+decide only[ev,putD,Slots.put,Slots.get,if_true,if_false,true_and,↓Qk,qM,Qn,↓qC,qm,qbk];refine qp (v:=QA 3 mb') (by rfl) (by rfl) (o3 _ _ (ZR o1 hkc2)) sz124 hlv' (by cases mb'<;>rfl) (by cases mb'<;>simp[hD,QA]) (Nat.zero_le _) (by cases mb'<;>rfl) ?_;simp only[];rw[show(QA 3 mb').cells=[QA 3 mb'] by cases mb'<;>rfl,qbs hD];simp only[setAt,List.set_cons_zero,List.set_cons_succ];simp+decide only[qa,putD];change Awp _ _ _ _ _ _ _;refine XA [] (by rfl) ?_;simp+decide only[ev,putD,Slots.put,Slots.get,if_true,if_false,true_and,↓qh,qc,↓Qk,qM,Qn,↓qC,qm,YZ,↓qG,qY,qy ag9,↓qA,ql,qR,cond_false,XZ,qdj,QP,List.getD_cons_zero,List.getD_cons_succ,qE,getD_app hD];repeat (with_reducible refine And.intro ?_ ?_;· first|trivial|omega|(intro hg;simp only[Bool.and_eq_true,Bool.or_eq_true,Bool.not_eq_true',Bool.and_eq_false_iff,Bool.or_eq_false_iff,Bool.not_eq_false',decide_eq_true_eq,decide_eq_false_iff_not,XV]at hg;omega))
   skip;first
   |refine qp (v:= .str (c.text++t')) (by rfl) (by rfl) (AHeap.set_same _ _ _) sz9 (by rfl) (by rfl) (by simp[hD]) (Nat.zero_le _) (by rfl) ?_
   |refine qp (v:= .str (c.text++t')) (by rfl) (by rfl) (ZR hok2 hkc2) sz9 (by rfl) (by rfl) (by simp[AVal.cells,hD]) (Nat.zero_le _) (by rfl) ?_
   simp only[AVal.cells];rw[qbs hD];simp only[setAt,List.set_cons_zero,List.set_cons_succ];simp+decide only[qa,putD,Slots.keep,if_false];refine qeH (Qd) ?_;simp+decide only[true_and,qeI];refine⟨QG (H2.set kc ⟨D++[.bool c.left, .str (c.text++t'),QA 3 mb'],0⟩) mb',?_,mb',?_,?_,?_⟩
   ·rw[AHeap.set_set,<-Wo o1 hkc2]
    exact Sub.set_both o3 _ _
   ·rw[hH2,ha]
   ·rw[ha,<-hH2]
    exact ZP o1 hkc2 _
   ·rw[ha,o2,if_neg hb2,List.map_append]
    rfl
  ·try simp only[decide_eq_true_eq,Bool.not_eq_false']at hb2
   refine qP ?_;change Awp _ _ _ _ _ _ _;refine XA [] (by rfl) ?_;simp+decide only[ev,putD,Slots.put,Slots.get,if_true,if_false,true_and,↓qh,qc,↓Qk,qM,Qn,↓qC,qm,YZ,↓qG,qY,qy ag9,↓qA,ql,qR,cond_false,XZ,qdj,List.getD_cons_zero,List.getD_cons_succ,qE,rc2,getD_app hD];repeat (with_reducible refine And.intro ?_ ?_;· first|trivial|omega|(intro hg;simp only[Bool.and_eq_true,Bool.or_eq_true,Bool.not_eq_true',Bool.and_eq_false_iff,Bool.or_eq_false_iff,Bool.not_eq_false',decide_eq_true_eq,decide_eq_false_iff_not,XV]at hg;omega))
   skip;first
   |refine qp (v:= .str (c.text++t')) (by rfl) (by rfl) (AHeap.set_same _ _ _) sz9 (by rfl) (by rfl) (by simp[AVal.cells,hD]) (Nat.zero_le _) (by rfl) ?_
   |refine qp (v:= .str (c.text++t')) (by rfl) (by rfl) (ZR hok2 hkc2) sz9 (by rfl) (by rfl) (by simp[hD]) (Nat.zero_le _) (by rfl) ?_
   simp only[AVal.cells];rw[qbs hD];simp only[setAt,List.set_cons_zero,List.set_cons_succ];simp+decide only[qa,putD,Slots.keep,if_false];refine qeH (Qd) ?_;simp+decide only[true_and,qeI];refine⟨QG (H2.set kc ⟨D++[.bool c.left, .str (c.text++t'),QA 3 mb],0⟩) mb,?_,mb,?_,?_,?_⟩
   ·rw[<-Wo hok2 hkc2]
    exact Sub.refl _
   ·rw[hH2,ha]
   ·rw[ha,<-hH2]
    exact ZP hok2 hkc2 _
   ·rw[ha,hmb,if_pos hb2]
theorem Zi(b c:UInt8):((b.toNat:Int)=(c.toNat:Int))=(b=c):=by
 apply propext;constructor
 ·intro h
  exact UInt8.toNat_inj.1 (by omega)
 ·rintro rfl;rfl
theorem padE_len{s:Str}(h:s.length<=80):72<=(qbK s).length/\(qbK s).length<=80:=by
 unfold qbK sp;rw[List.length_append,List.length_replicate];omega
theorem trimL_le(s:Str):(trimL s).length<=s.length:=dropWhile_le _ _
theorem badI_cases(s:Str):(qck s=none/\badI s= -1)\/∃i,qck s=some i/\badI s=(i:Int)/\i<s.length:=by
 unfold badI;cases h:qck s with
 |none=>exact .inl ⟨rfl,rfl⟩
 |some i=>exact .inr ⟨i,rfl,rfl,(List.findIdx?_eq_some_iff_findIdx_eq.1 h).1⟩
theorem lineE_none{s:Str}{line:Int}{dbg:Bool}(h80:¬80<s.length)(hb:qck s=none):Ur s line dbg=
 if (qbK s).getD 6 0=42\/(qbK s).getD 6 0=47 then(rowE s line,false,okF)
 else if (qbK s).getD 6 0=68\/(qbK s).getD 6 0=100 then(rowE s line,dbg && !decide ((rowE s line).text=[]),okF)
 else if (qbK s).getD 6 0=32\/(qbK s).getD 6 0=45 then(rowE s line,!decide ((rowE s line).text=[]),okF)
 else(rowE s line,false,⟨4,line,7⟩):=by
 unfold Ur;rw[if_neg h80,hb]
theorem c_read(wz:World)(h:AHeap)(s:Str)(line:Int)(dbg:Bool)(hl:s.length<=9223372036854775807)(l0:0<=line)(l1:line<=1099511627776):ACall Tryz.prog wz 61 [.str s, .int .i64 line, .bool dbg] h (fun v h'=>v= .tuple [rowA (Ur s line dbg).1, .bool (Ur s line dbg).2.1,Qz (Ur s line dbg).2.2]/\h'=h):=by
 have w6:(6:Int).toNat=6:=rfl;have w7:(7:Int).toNat=7:=rfl;have w72:(72:Int).toNat=72:=rfl;have w8:(8:Int)+((65:Nat):Int)=73:=rfl;refine qU (n:=79) (rs:=[.cell 6 120, .tmp 7, .cell 8 35]) Tryz.func61 rfl rfl rfl rfl (Nat.le_of_ble_eq_true rfl) ?_;simp only[Qe];refine awp_rseq [0,1,2,6,8] (by rfl) fun K hK=>?_;refine Qj ze120 (cs:=[.int .i64 0, .bool false, .str [], .int .i64 0]) (by rfl) fun k0q0 hk0q0=>?_;try have hf_0q0:h k0q0=none:=by first|assumption|(simp only[AHeap.set_none]at hk0q0;simp only[hk0q0])
 simp+decide only[ev,qH,qF,putD,Slots.put,if_false,true_and,↓qd,qb,Nat.zero_add,Nat.reduceAdd];refine Qj qbc (cs:=[.int .i64 0, .int .i64 0, .int .i64 0]) (by rfl) fun k0q2 hk0q2=>?_;have ne_0q2_0q0:k0q2≠k0q0:=by simp only[AHeap.set_none]at hk0q2;simp only[hk0q2,ne_eq,not_false_eq_true]
 try have hf_0q2:h k0q2=none:=by first|assumption|(simp only[AHeap.set_none]at hk0q2;simp only[hk0q2])
 simp+decide only[qa,putD,Slots.put,Slots.keep,if_true,if_false];apply hK;clear hK K;refine qK ?_;refine awp_rseq [0,1,2,6,8,16] (by rfl) fun K hK=>?_;simp+decide only[qa,ev,qH,qF,putD,Slots.put,Slots.get,Slots.keep,if_true,if_false,true_and,↓qh,qc,↓Xo,QD,YK Tryz.underlying9,↓qA,ql,qB,cond_false,qo,UV];apply hK;clear hK K;refine qJ (b:=_) rfl (fun hb1=>?_) (fun hb1=>?_)
 ·try simp only[decide_eq_true_eq]at hb1
  refine awp_rseq [6,7,8] (by rfl) fun K hK=>?_;simp+decide only[ev,qH,qF,putD,Slots.put,Slots.get,if_true,if_false,true_and,↓Qp,↓qW,bld120_,evP,List.map_nil,↓qh,qc];refine qN (V:=Qz ⟨5,line,81⟩) (by rfl) (by rfl) (c_fault wz _ 5 line 81) ?_;refine qp (by rfl) (by rfl) zqA Ya (by rfl) (by rfl) zqD (Nat.zero_le _) (by rfl) ?_;simp only[AVal.cells];simp+decide only[ev,qH,qF,putD,Slots.put,Slots.get,if_true,if_false,true_and,↓qd,qb,setAt,List.set_cons_zero,List.set_cons_succ,Nat.zero_add,Nat.reduceAdd,Qz];refine qp (by rfl) (by rfl) zqA QI (by rfl) (by rfl) zqD (Nat.zero_le _) (by rfl) ?_;simp only[AVal.cells];simp+decide only[qa,ev,putD,Slots.get,Slots.keep,if_true,if_false,setAt,List.set_cons_zero,List.set_cons_succ,Nat.zero_add,Nat.reduceAdd];apply hK;clear hK K;refine qO ?_;try simp only[Qi]
  refine Qa h zqC (?_) ?_
  ·simp+decide only[QE,qw,qj,Slots.get,if_true,if_false,and_true,qw,qj,qg WJ Ya,qg Xt QI,Qc,qf,List.getD_cons_zero,List.getD_cons_succ,Nat.zero_add,Nat.reduceAdd,qD,qi,qE,allLive,Bool.and_true,QO,ne_eq,not_false_eq_true,ne_0q2_0q0.symm,qf,List.getD_cons_zero,List.getD_cons_succ,Nat.zero_add,Nat.reduceAdd,qD,qi,qE,allLive,Bool.and_true]
  simp+decide only[Slots.get,if_true,if_false,and_true,QF,qw,qj,qg WJ Ya,qg Xt QI,Qc,qf,List.getD_cons_zero,List.getD_cons_succ,Nat.zero_add,Nat.reduceAdd,qD,qi,qE,allLive,Bool.and_true,QO,ne_eq,not_false_eq_true,ne_0q2_0q0.symm,qf,List.getD_cons_zero,List.getD_cons_succ,Nat.zero_add,Nat.reduceAdd,qD,qi,qE,allLive,Bool.and_true,Qz,rowA];unfold Ur;rw[if_pos (by omega)];rfl
 ·try simp only[decide_eq_false_iff_not]at hb1
  have h80:¬80<s.length:=by omega
  refine qP ?_;change Awp _ _ _ _ _ _ _;refine qK ?_;refine awp_rseq [0,1,2,6,8,9] (by rfl) fun K hK=>?_;simp+decide only[ev,putD,Slots.put,Slots.get,if_true,if_false,true_and,↓qh,qc];refine qN (V:= .int .i64 (badI s)) (by rfl) (by rfl) (c_bad wz _ s) ?_;simp+decide only[qa,ev,putD,Slots.put,Slots.get,Slots.keep,if_true,if_false,true_and,↓qd,qb];apply hK;clear hK K;refine awp_rseq [0,1,2,6,8,9,23] (by rfl) fun K hK=>?_;simp+decide only[qa,ev,qH,qF,putD,Slots.put,Slots.get,Slots.keep,if_true,if_false,true_and,↓qh,qc,↓qA,ql,qB,cond_false,qo,qaC];apply hK;clear hK K;refine qJ (b:=_) rfl (fun hb2=>?_) (fun hb2=>?_)
  ·try simp only[decide_eq_true_eq]at hb2
   obtain⟨i,hi1,hi2,hi3⟩:=(badI_cases s).resolve_left (fun e=>by omega);rw[hi2];refine awp_rseq [6,7,8] (by rfl) fun K hK=>?_;simp+decide only[ev,qH,qF,putD,Slots.put,Slots.get,if_true,if_false,true_and,↓Qp,↓qW,bld120_,evP,List.map_nil,↓qh,qc,↓qA,ql,qB,cond_false,qo,QY];try simp(disch:=omega)only[wrap_i64]
   refine qN (V:=Qz ⟨4,line,(i:Int)+1⟩) (by rfl) (by rfl) (c_fault wz _ 4 line ((i:Int)+1)) ?_;refine qp (by rfl) (by rfl) zqA Ya (by rfl) (by rfl) zqD (Nat.zero_le _) (by rfl) ?_;simp only[AVal.cells];simp+decide only[ev,qH,qF,putD,Slots.put,Slots.get,if_true,if_false,true_and,↓qd,qb,setAt,List.set_cons_zero,List.set_cons_succ,Nat.zero_add,Nat.reduceAdd,Qz];refine qp (by rfl) (by rfl) zqA QI (by rfl) (by rfl) zqD (Nat.zero_le _) (by rfl) ?_;simp only[AVal.cells];simp+decide only[qa,ev,putD,Slots.get,Slots.keep,if_true,if_false,setAt,List.set_cons_zero,List.set_cons_succ,Nat.zero_add,Nat.reduceAdd];apply hK;clear hK K;refine qO ?_;try simp only[Qi]
   refine Qa h zqC (?_) ?_
   ·simp+decide only[QE,qw,qj,Slots.get,if_true,if_false,and_true,qw,qj,qg WJ Ya,qg Xt QI,Qc,qf,List.getD_cons_zero,List.getD_cons_succ,Nat.zero_add,Nat.reduceAdd,qD,qi,qE,allLive,Bool.and_true,QO,ne_eq,not_false_eq_true,ne_0q2_0q0.symm,qf,List.getD_cons_zero,List.getD_cons_succ,Nat.zero_add,Nat.reduceAdd,qD,qi,qE,allLive,Bool.and_true]
   simp+decide only[Slots.get,if_true,if_false,and_true,QF,qw,qj,qg WJ Ya,qg Xt QI,Qc,qf,List.getD_cons_zero,List.getD_cons_succ,Nat.zero_add,Nat.reduceAdd,qD,qi,qE,allLive,Bool.and_true,QO,ne_eq,not_false_eq_true,ne_0q2_0q0.symm,qf,List.getD_cons_zero,List.getD_cons_succ,Nat.zero_add,Nat.reduceAdd,qD,qi,qE,allLive,Bool.and_true,Qz,rowA];unfold Ur;rw[if_neg h80,hi1];rfl
  ·try simp only[decide_eq_false_iff_not]at hb2
   have hbn:qck s=none:=by
    rcases badI_cases s with e|⟨i,e1,e2,e3⟩
    ·exact e.1
    ·omega
   obtain⟨p1,p2⟩:=padE_len (s:=s) (by omega);have hspl:(sp (72-s.length)).length=72-s.length:=by simp[sp]
   have hpe:s++sp (72-s.length)=qbK s:=rfl;have h65:(((qbK s).drop 7).take 65).length=65:=by simp;omega
   have htl:=trimL_le (((qbK s).drop 7).take 65);have hmr:decide ((((qbK s).getD 6 0).toNat:Int)=45)=((qbK s).getD 6 0==45):=by
    rw[Bool.eq_iff_iff,decide_eq_true_eq,beq_iff_eq];exact iff_of_eq (Zi _ 45)
   have hln:=lineE_none (line:=line) (dbg:=dbg) h80 hbn;refine qP ?_;change Awp _ _ _ _ _ _ _;refine awp_rseq [0,1,2,6,8] (by rfl) fun K hK=>?_;simp+decide only[ev,qH,qF,putD,Slots.put,Slots.get,if_true,if_false,true_and,↓qh,qc,↓Xo,QD,YK Tryz.underlying9,↓qA,ql,qR,cond_false,qo,UH,↓ap_max,pop_max,pMax_int,evs,List.map_cons,List.map_nil];try simp(disch:=omega)only[wrap_i64]
   rw[show max (0:Int) (72-(s.length:Int))=((72-s.length:Nat):Int) by omega];refine qN (V:= .str (sp (72-s.length))) (by rfl) (by rfl) (c_repeat wz _ 32 _ (by omega)) ?_;simp+decide only[qa,ev,putD,Slots.put,Slots.get,Slots.keep,if_true,if_false,true_and,↓qA,ql,qR,cond_false,XZ,qdj,↓qd,qb,hpe];repeat (with_reducible refine And.intro ?_ ?_;· first|trivial|omega|(intro hg;simp only[Bool.and_eq_true,Bool.or_eq_true,Bool.not_eq_true',Bool.and_eq_false_iff,Bool.or_eq_false_iff,Bool.not_eq_false',decide_eq_true_eq,decide_eq_false_iff_not,XV]at hg;omega))
   apply hK;clear hK K;refine awp_rseq [0,1,2,6,8,10] (by rfl) fun K hK=>?_;simp+decide only[qa,ev,qH,qF,putD,Slots.put,Slots.get,Slots.keep,if_true,if_false,true_and,↓qh,qc,↓ap_index,qcE,qbM Tryz.underlying9,↓qd,qb,w6];repeat (with_reducible refine And.intro ?_ ?_;· first|trivial|omega|(intro hg;simp only[Bool.and_eq_true,Bool.or_eq_true,Bool.not_eq_true',Bool.and_eq_false_iff,Bool.or_eq_false_iff,Bool.not_eq_false',decide_eq_true_eq,decide_eq_false_iff_not,XV]at hg;omega))
   apply hK;clear hK K;refine awp_rseq [1,2,6,8,10,11] (by rfl) fun K hK=>?_;simp+decide only[qa,ev,qH,qF,putD,Slots.put,Slots.get,Slots.keep,if_true,if_false,true_and,↓qh,qc,↓Ua,Zu,evO,qbL Tryz.underlying9,UN,WZ,↓qd,qb,w7,w72,Nat.reduceSub];repeat (with_reducible refine And.intro ?_ ?_;· first|trivial|omega|(intro hg;simp only[Bool.and_eq_true,Bool.or_eq_true,Bool.not_eq_true',Bool.and_eq_false_iff,Bool.or_eq_false_iff,Bool.not_eq_false',decide_eq_true_eq,decide_eq_false_iff_not,XV]at hg;omega))
   apply hK;clear hK K;refine awp_rseq [1,2,6,8,10,11,12] (by rfl) fun K hK=>?_;simp+decide only[ev,putD,Slots.put,Slots.get,if_true,if_false,true_and,↓qh,qc];refine qN (V:= .str (trimL (((qbK s).drop 7).take 65))) (by rfl) (by rfl) (c_trimL wz _ _) ?_;simp+decide only[qa,ev,putD,Slots.put,Slots.get,Slots.keep,if_true,if_false,true_and,↓qd,qb];apply hK;clear hK K;refine awp_rseq [1,2,6,8,10,12,13] (by rfl) fun K hK=>?_;simp+decide only[ev,qH,qF,putD,Slots.put,Slots.get,if_true,if_false,true_and,↓qh,qc,↓qA,ql,qB,cond_false,qo,XR,↓Xo,QD,YK Tryz.underlying9,qR,QY,UH,↓Qp,↓qW,bld120_0_1_2_3,evP,List.map_cons,List.map_nil,h65,w8,hmr];try simp(disch:=omega)only[wrap_i64]
   refine Qj ze120 (cs:=[.int .i64 0, .bool false, .str [], .int .i64 0]) (by rfl) fun k10q11 hk10q11=>?_;have ne_10q11_0q0:k10q11≠k0q0:=by simp only[AHeap.set_none]at hk10q11;simp only[hk10q11,ne_eq,not_false_eq_true]
   have ne_10q11_0q2:k10q11≠k0q2:=by simp only[AHeap.set_none]at hk10q11;simp only[hk10q11,ne_eq,not_false_eq_true]
   try have hf_10q11:h k10q11=none:=by first|assumption|(simp only[AHeap.set_none]at hk10q11;simp only[hk10q11])
   refine qp (by rfl) (by rfl) zqA Ya (by rfl) (by rfl) zqD (Nat.zero_le _) (by rfl) ?_;simp only[AHeap.set_set,AVal.cells];simp+decide only[qa,ev,putD,Slots.put,Slots.get,Slots.keep,if_true,if_false,setAt,List.set_cons_zero,List.set_cons_succ,Nat.zero_add,Nat.reduceAdd];apply hK;clear hK K;refine qK ?_;refine awp_rseq [1,2,6,8,12,13,53] (by rfl) fun K hK=>?_;simp+decide only[qa,ev,putD,Slots.put,Slots.get,Slots.keep,if_true,if_false,true_and,↓qh,qc];apply hK;clear hK K;refine Ql ?_;refine qK ?_;refine awp_rseq [1,2,6,8,12,13,53,54] (by rfl) fun K hK=>?_;simp+decide only[qa,ev,qH,qF,putD,Slots.put,Slots.get,Slots.keep,if_true,if_false,true_and,↓qA,ql,qB,cond_false,qo,XR,↓qd,qb];apply hK;clear hK K;refine qJ (b:=_) rfl (fun hb3=>?_) (fun hb3=>?_)
   ·try simp only[decide_eq_true_eq]at hb3
    refine qP ?_;change Awp _ _ _ _ _ _ _;refine qJ (b:=_) rfl (fun hb4=>?_) (fun hb4=>?_)
    ·try simp only[decide_eq_true_eq]at hb4
     refine awp_rseq [6,7,8] (by rfl) fun K hK=>?_;simp+decide only[ev,qH,qF,putD,Slots.put,Slots.get,if_true,if_false,true_and,↓qG,qY,qg WJ Ya,↓Qp,↓qW,ZJ,evP,List.map_nil,QP,qf,List.getD_cons_zero,List.getD_cons_succ,Nat.zero_add,Nat.reduceAdd,qD,qi,qE,allLive,Bool.and_true];refine qp (by rfl) (by rfl) zqA Ya (by rfl) (by rfl) zqD (Nat.zero_le _) (by rfl) ?_;simp only[AVal.cells];simp+decide only[ev,qH,qF,putD,Slots.put,Slots.get,if_true,if_false,true_and,↓qd,qb,setAt,List.set_cons_zero,List.set_cons_succ,Nat.zero_add,Nat.reduceAdd];refine qp (by rfl) (by rfl) zqA QI (by rfl) (by rfl) zqD (Nat.zero_le _) (by rfl) ?_;simp only[AVal.cells];simp+decide only[qa,ev,putD,Slots.get,Slots.keep,if_true,if_false,setAt,List.set_cons_zero,List.set_cons_succ,Nat.zero_add,Nat.reduceAdd];apply hK;clear hK K;refine qO ?_;try simp only[Qi,Qw]
     refine Qa h zqC (?_) ?_
     ·simp+decide only[QE,qw,qj,Slots.get,if_true,if_false,and_true,qw,qj,qg WJ Ya,qg Xt QI,Qc,qf,List.getD_cons_zero,List.getD_cons_succ,Nat.zero_add,Nat.reduceAdd,qD,qi,qE,allLive,Bool.and_true,QO,ne_eq,not_false_eq_true,ne_0q2_0q0.symm,qf,List.getD_cons_zero,List.getD_cons_succ,Nat.zero_add,Nat.reduceAdd,qD,qi,qE,allLive,Bool.and_true]
     simp+decide only[Slots.get,if_true,if_false,and_true,QF,qw,qj,qg WJ Ya,qg Xt QI,Qc,qf,List.getD_cons_zero,List.getD_cons_succ,Nat.zero_add,Nat.reduceAdd,qD,qi,qE,allLive,Bool.and_true,QO,ne_eq,not_false_eq_true,ne_0q2_0q0.symm,qf,List.getD_cons_zero,List.getD_cons_succ,Nat.zero_add,Nat.reduceAdd,qD,qi,qE,allLive,Bool.and_true,Qz,rowA];rw[hln,if_pos (.inl ((Zi _ 42).mp hb3))];rfl
    ·try simp only[decide_eq_false_iff_not]at hb4
     exact absurd hb3 hb4
   ·try simp only[decide_eq_false_iff_not]at hb3
    refine XA [1,2,6,8,12,13,53,54] (by rfl) ?_;simp+decide only[qa,ev,qH,qF,putD,Slots.put,Slots.get,Slots.keep,if_true,if_false,true_and,↓qA,ql,qB,cond_false,qo,XR,↓qd,qb,Qz,rowA];change Awp _ _ _ _ _ _ _;refine qJ (b:=_) rfl (fun hb9=>?_) (fun hb9=>?_)
    ·try simp only[decide_eq_true_eq]at hb9
     refine awp_rseq [6,7,8] (by rfl) fun K hK=>?_;simp+decide only[ev,qH,qF,putD,Slots.put,Slots.get,if_true,if_false,true_and,↓qG,qY,qg WJ Ya,↓Qp,↓qW,ZJ,evP,List.map_nil,QP,qf,List.getD_cons_zero,List.getD_cons_succ,Nat.zero_add,Nat.reduceAdd,qD,qi,qE,allLive,Bool.and_true];refine qp (by rfl) (by rfl) zqA Ya (by rfl) (by rfl) zqD (Nat.zero_le _) (by rfl) ?_;simp only[AVal.cells];simp+decide only[ev,qH,qF,putD,Slots.put,Slots.get,if_true,if_false,true_and,↓qd,qb,setAt,List.set_cons_zero,List.set_cons_succ,Nat.zero_add,Nat.reduceAdd];refine qp (by rfl) (by rfl) zqA QI (by rfl) (by rfl) zqD (Nat.zero_le _) (by rfl) ?_;simp only[AVal.cells];simp+decide only[qa,ev,putD,Slots.get,Slots.keep,if_true,if_false,setAt,List.set_cons_zero,List.set_cons_succ,Nat.zero_add,Nat.reduceAdd];apply hK;clear hK K;refine qO ?_;try simp only[Qi,Qw]
     refine Qa h zqC (?_) ?_
     ·simp+decide only[QE,qw,qj,Slots.get,if_true,if_false,and_true,qw,qj,qg WJ Ya,qg Xt QI,Qc,qf,List.getD_cons_zero,List.getD_cons_succ,Nat.zero_add,Nat.reduceAdd,qD,qi,qE,allLive,Bool.and_true,QO,ne_eq,not_false_eq_true,ne_0q2_0q0.symm,qf,List.getD_cons_zero,List.getD_cons_succ,Nat.zero_add,Nat.reduceAdd,qD,qi,qE,allLive,Bool.and_true]
     simp+decide only[Slots.get,if_true,if_false,and_true,QF,qw,qj,qg WJ Ya,qg Xt QI,Qc,qf,List.getD_cons_zero,List.getD_cons_succ,Nat.zero_add,Nat.reduceAdd,qD,qi,qE,allLive,Bool.and_true,QO,ne_eq,not_false_eq_true,ne_0q2_0q0.symm,qf,List.getD_cons_zero,List.getD_cons_succ,Nat.zero_add,Nat.reduceAdd,qD,qi,qE,allLive,Bool.and_true];rw[hln,if_pos (.inr ((Zi _ 47).mp hb9))];rfl
    ·try simp only[decide_eq_false_iff_not]at hb9
     have n1:¬((qbK s).getD 6 0=42\/(qbK s).getD 6 0=47):=by
      rintro(e|e)
      ·exact hb3 ((Zi _ 42).mpr e)
      ·exact hb9 ((Zi _ 47).mpr e)
     refine qK ?_;refine awp_rseq [1,2,6,8,12,13,53,59] (by rfl) fun K hK=>?_;simp+decide only[qa,ev,qH,qF,putD,Slots.put,Slots.get,Slots.keep,if_true,if_false,true_and,↓qA,ql,qB,cond_false,qo,XR,↓qd,qb];apply hK;clear hK K;refine qJ (b:=_) rfl (fun hb10=>?_) (fun hb10=>?_)
     ·try simp only[decide_eq_true_eq]at hb10
      refine qP ?_;change Awp _ _ _ _ _ _ _;refine qJ (b:=_) rfl (fun hb11=>?_) (fun hb11=>?_)
      ·try simp only[decide_eq_true_eq]at hb11
       refine awp_rseq [6,7,8] (by rfl) fun K hK=>?_;simp+decide only[ev,qH,qF,putD,Slots.put,Slots.get,if_true,if_false,true_and,↓qG,qY,qg WJ Ya,↓qh,qc,↓Xf,agP,Qs,qL,qI,qz,implies_true,Bool.and_true,↓Xb,ql,Ym,cond_false,Zc,Zd,XZ,qfz,↓QT,Qu,Qh,Xg,Xp,↓Qp,↓qW,ZJ,evP,List.map_nil,QP,qf,List.getD_cons_zero,List.getD_cons_succ,Nat.zero_add,Nat.reduceAdd,qD,qi,qE,allLive,Bool.and_true];refine qp (by rfl) (by rfl) zqA Ya (by rfl) (by rfl) zqD (Nat.zero_le _) (by rfl) ?_;simp only[AVal.cells];simp+decide only[ev,putD,Slots.put,Slots.get,if_true,if_false,true_and,↓qd,qb,setAt,List.set_cons_zero,List.set_cons_succ,Nat.zero_add,Nat.reduceAdd];refine qp (by rfl) (by rfl) zqA QI (by rfl) (by rfl) zqD (Nat.zero_le _) (by rfl) ?_;simp only[AVal.cells];simp+decide only[qa,ev,putD,Slots.get,Slots.keep,if_true,if_false,setAt,List.set_cons_zero,List.set_cons_succ,Nat.zero_add,Nat.reduceAdd];apply hK;clear hK K;refine qO ?_;try simp only[Qi,Qw]
       refine Qa h zqC (?_) ?_
       ·simp+decide only[QE,qw,qj,Slots.get,if_true,if_false,and_true,qw,qj,qg WJ Ya,qg Xt QI,Qc,qf,List.getD_cons_zero,List.getD_cons_succ,Nat.zero_add,Nat.reduceAdd,qD,qi,qE,allLive,Bool.and_true,QO,ne_eq,not_false_eq_true,ne_0q2_0q0.symm,qf,List.getD_cons_zero,List.getD_cons_succ,Nat.zero_add,Nat.reduceAdd,qD,qi,qE,allLive,Bool.and_true]
       simp+decide only[Slots.get,if_true,if_false,and_true,QF,qw,qj,qg WJ Ya,qg Xt QI,Qc,qf,List.getD_cons_zero,List.getD_cons_succ,Nat.zero_add,Nat.reduceAdd,qD,qi,qE,allLive,Bool.and_true,QO,ne_eq,not_false_eq_true,ne_0q2_0q0.symm,qf,List.getD_cons_zero,List.getD_cons_succ,Nat.zero_add,Nat.reduceAdd,qD,qi,qE,allLive,Bool.and_true];rw[hln,if_neg n1,if_pos (.inl ((Zi _ 68).mp hb10))];rfl
      ·try simp only[decide_eq_false_iff_not]at hb11
       exact absurd hb10 hb11
     ·try simp only[decide_eq_false_iff_not]at hb10
      refine XA [1,2,6,8,12,13,53,59] (by rfl) ?_;simp+decide only[qa,ev,qH,qF,putD,Slots.put,Slots.get,Slots.keep,if_true,if_false,true_and,↓qA,ql,qB,cond_false,qo,XR,↓qd,qb];change Awp _ _ _ _ _ _ _;refine qJ (b:=_) rfl (fun hb14=>?_) (fun hb14=>?_)
      ·try simp only[decide_eq_true_eq]at hb14
       refine awp_rseq [6,7,8] (by rfl) fun K hK=>?_;simp+decide only[ev,qH,qF,putD,Slots.put,Slots.get,if_true,if_false,true_and,↓qG,qY,qg WJ Ya,↓qh,qc,↓Xf,agP,Qs,qL,qI,qz,implies_true,Bool.and_true,↓Xb,ql,Ym,cond_false,Zc,Zd,XZ,qfz,↓QT,Qu,Qh,Xg,Xp,↓Qp,↓qW,ZJ,evP,List.map_nil,QP,qf,List.getD_cons_zero,List.getD_cons_succ,Nat.zero_add,Nat.reduceAdd,qD,qi,qE,allLive,Bool.and_true];refine qp (by rfl) (by rfl) zqA Ya (by rfl) (by rfl) zqD (Nat.zero_le _) (by rfl) ?_;simp only[AVal.cells];simp+decide only[ev,putD,Slots.put,Slots.get,if_true,if_false,true_and,↓qd,qb,setAt,List.set_cons_zero,List.set_cons_succ,Nat.zero_add,Nat.reduceAdd];refine qp (by rfl) (by rfl) zqA QI (by rfl) (by rfl) zqD (Nat.zero_le _) (by rfl) ?_;simp only[AVal.cells];simp+decide only[qa,ev,putD,Slots.get,Slots.keep,if_true,if_false,setAt,List.set_cons_zero,List.set_cons_succ,Nat.zero_add,Nat.reduceAdd];apply hK;clear hK K;refine qO ?_;try simp only[Qi,Qw]
       refine Qa h zqC (?_) ?_
       ·simp+decide only[QE,qw,qj,Slots.get,if_true,if_false,and_true,qw,qj,qg WJ Ya,qg Xt QI,Qc,qf,List.getD_cons_zero,List.getD_cons_succ,Nat.zero_add,Nat.reduceAdd,qD,qi,qE,allLive,Bool.and_true,QO,ne_eq,not_false_eq_true,ne_0q2_0q0.symm,qf,List.getD_cons_zero,List.getD_cons_succ,Nat.zero_add,Nat.reduceAdd,qD,qi,qE,allLive,Bool.and_true]
       simp+decide only[Slots.get,if_true,if_false,and_true,QF,qw,qj,qg WJ Ya,qg Xt QI,Qc,qf,List.getD_cons_zero,List.getD_cons_succ,Nat.zero_add,Nat.reduceAdd,qD,qi,qE,allLive,Bool.and_true,QO,ne_eq,not_false_eq_true,ne_0q2_0q0.symm,qf,List.getD_cons_zero,List.getD_cons_succ,Nat.zero_add,Nat.reduceAdd,qD,qi,qE,allLive,Bool.and_true];rw[hln,if_neg n1,if_pos (.inr ((Zi _ 100).mp hb14))];rfl
      ·try simp only[decide_eq_false_iff_not]at hb14
       have n2:¬((qbK s).getD 6 0=68\/(qbK s).getD 6 0=100):=by
        rintro(e|e)
        ·exact hb10 ((Zi _ 68).mpr e)
        ·exact hb14 ((Zi _ 100).mpr e)
       refine qK ?_;refine awp_rseq [1,6,8,12,13,53,69] (by rfl) fun K hK=>?_;simp+decide only[qa,ev,qH,qF,putD,Slots.put,Slots.get,Slots.keep,if_true,if_false,true_and,↓qA,ql,qB,cond_false,qo,XR,↓qd,qb];apply hK;clear hK K;refine qJ (b:=_) rfl (fun hb15=>?_) (fun hb15=>?_)
       ·try simp only[decide_eq_true_eq]at hb15
        refine qP ?_;change Awp _ _ _ _ _ _ _;refine qJ (b:=_) rfl (fun hb16=>?_) (fun hb16=>?_)
        ·try simp only[decide_eq_true_eq]at hb16
         refine awp_rseq [6,7,8] (by rfl) fun K hK=>?_;simp+decide only[ev,qH,qF,putD,Slots.put,Slots.get,if_true,if_false,true_and,↓qG,qY,qg WJ Ya,↓qh,qc,↓qA,ql,Ym,cond_false,XZ,qfz,↓Qp,↓qW,ZJ,evP,List.map_nil,QP,qf,List.getD_cons_zero,List.getD_cons_succ,Nat.zero_add,Nat.reduceAdd,qD,qi,qE,allLive,Bool.and_true];refine qp (by rfl) (by rfl) zqA Ya (by rfl) (by rfl) zqD (Nat.zero_le _) (by rfl) ?_;simp only[AVal.cells];simp+decide only[ev,putD,Slots.put,Slots.get,if_true,if_false,true_and,↓qd,qb,setAt,List.set_cons_zero,List.set_cons_succ,Nat.zero_add,Nat.reduceAdd];refine qp (by rfl) (by rfl) zqA QI (by rfl) (by rfl) zqD (Nat.zero_le _) (by rfl) ?_;simp only[AVal.cells];simp+decide only[qa,ev,putD,Slots.get,Slots.keep,if_true,if_false,setAt,List.set_cons_zero,List.set_cons_succ,Nat.zero_add,Nat.reduceAdd];apply hK;clear hK K;refine qO ?_;try simp only[Qi,Qw]
         refine Qa h zqC (?_) ?_
         ·simp+decide only[QE,qw,qj,Slots.get,if_true,if_false,and_true,qw,qj,qg WJ Ya,qg Xt QI,Qc,qf,List.getD_cons_zero,List.getD_cons_succ,Nat.zero_add,Nat.reduceAdd,qD,qi,qE,allLive,Bool.and_true,QO,ne_eq,not_false_eq_true,ne_0q2_0q0.symm,qf,List.getD_cons_zero,List.getD_cons_succ,Nat.zero_add,Nat.reduceAdd,qD,qi,qE,allLive,Bool.and_true]
         simp+decide only[Slots.get,if_true,if_false,and_true,QF,qw,qj,qg WJ Ya,qg Xt QI,Qc,qf,List.getD_cons_zero,List.getD_cons_succ,Nat.zero_add,Nat.reduceAdd,qD,qi,qE,allLive,Bool.and_true,QO,ne_eq,not_false_eq_true,ne_0q2_0q0.symm,qf,List.getD_cons_zero,List.getD_cons_succ,Nat.zero_add,Nat.reduceAdd,qD,qi,qE,allLive,Bool.and_true];rw[hln,if_neg n1,if_neg n2,if_pos (.inl ((Zi _ 32).mp hb15))];rfl
        ·try simp only[decide_eq_false_iff_not]at hb16
         exact absurd hb15 hb16
       ·try simp only[decide_eq_false_iff_not]at hb15
        refine XA [1,6,8,12,13,69] (by rfl) ?_;simp+decide only[qa,ev,qH,qF,putD,Slots.put,Slots.get,Slots.keep,if_true,if_false,true_and,↓qA,ql,qB,cond_false,qo,XR,↓qd,qb];change Awp _ _ _ _ _ _ _;refine qJ (b:=_) rfl (fun hb17=>?_) (fun hb17=>?_)
        ·try simp only[decide_eq_true_eq]at hb17
         refine awp_rseq [6,7,8] (by rfl) fun K hK=>?_;simp+decide only[ev,qH,qF,putD,Slots.put,Slots.get,if_true,if_false,true_and,↓qG,qY,qg WJ Ya,↓qh,qc,↓qA,ql,Ym,cond_false,XZ,qfz,↓Qp,↓qW,ZJ,evP,List.map_nil,QP,qf,List.getD_cons_zero,List.getD_cons_succ,Nat.zero_add,Nat.reduceAdd,qD,qi,qE,allLive,Bool.and_true];refine qp (by rfl) (by rfl) zqA Ya (by rfl) (by rfl) zqD (Nat.zero_le _) (by rfl) ?_;simp only[AVal.cells];simp+decide only[ev,putD,Slots.put,Slots.get,if_true,if_false,true_and,↓qd,qb,setAt,List.set_cons_zero,List.set_cons_succ,Nat.zero_add,Nat.reduceAdd];refine qp (by rfl) (by rfl) zqA QI (by rfl) (by rfl) zqD (Nat.zero_le _) (by rfl) ?_;simp only[AVal.cells];simp+decide only[qa,ev,putD,Slots.get,Slots.keep,if_true,if_false,setAt,List.set_cons_zero,List.set_cons_succ,Nat.zero_add,Nat.reduceAdd];apply hK;clear hK K;refine qO ?_;try simp only[Qi,Qw]
         refine Qa h zqC (?_) ?_
         ·simp+decide only[QE,qw,qj,Slots.get,if_true,if_false,and_true,qw,qj,qg WJ Ya,qg Xt QI,Qc,qf,List.getD_cons_zero,List.getD_cons_succ,Nat.zero_add,Nat.reduceAdd,qD,qi,qE,allLive,Bool.and_true,QO,ne_eq,not_false_eq_true,ne_0q2_0q0.symm,qf,List.getD_cons_zero,List.getD_cons_succ,Nat.zero_add,Nat.reduceAdd,qD,qi,qE,allLive,Bool.and_true]
         simp+decide only[Slots.get,if_true,if_false,and_true,QF,qw,qj,qg WJ Ya,qg Xt QI,Qc,qf,List.getD_cons_zero,List.getD_cons_succ,Nat.zero_add,Nat.reduceAdd,qD,qi,qE,allLive,Bool.and_true,QO,ne_eq,not_false_eq_true,ne_0q2_0q0.symm,qf,List.getD_cons_zero,List.getD_cons_succ,Nat.zero_add,Nat.reduceAdd,qD,qi,qE,allLive,Bool.and_true];rw[hln,if_neg n1,if_neg n2,if_pos (.inr ((Zi _ 45).mp hb17))];rfl
        ·try simp only[decide_eq_false_iff_not]at hb17
         refine qP ?_;change Awp _ _ _ _ _ _ _;refine YM 3 [] [6,7,8] mixed (by kernel_rfl) (by rfl) fun K hK=>?_;simp only[List.take_succ_cons,List.take_zero,List.drop_succ_cons,List.drop_zero];simp+decide only[ev,putD,Slots.put,Slots.get,if_true,if_false,true_and,↓Zv,XF,qg WJ Ya,↓XK,qc,QP,qf,List.getD_cons_zero,List.getD_cons_succ,Nat.zero_add,Nat.reduceAdd,qD,qi,qE,allLive,Bool.and_true];refine Xk (V:=Qz ⟨4,line,7⟩) (by rfl) (by rfl) (by first|trivial|(simp+decide only[AVal.okIn,Xw,and_true,true_and,Qz,Un,Wl,qft,rowA,AHeap.set_same,Option.isSome_some];done)|(simp[AVal.okIn,Xw,AHeap.set];done)) (fun g hg=>c_fault wz _ 4 line 7) ?_;try simp only[Yr]
         refine qp (by rfl) (by rfl) zqA Ya (by rfl) (by rfl) zqD (Nat.zero_le _) (by rfl) ?_;simp only[AVal.cells];simp+decide only[ev,qH,qF,putD,Slots.put,Slots.get,if_true,if_false,true_and,↓qd,qb,setAt,List.set_cons_zero,List.set_cons_succ,Nat.zero_add,Nat.reduceAdd,Qz];refine qp (by rfl) (by rfl) zqA QI (by rfl) (by rfl) zqD (Nat.zero_le _) (by rfl) ?_;simp only[AVal.cells];simp+decide only[qa,ev,putD,Slots.get,Slots.keep,if_true,if_false,setAt,List.set_cons_zero,List.set_cons_succ,Nat.zero_add,Nat.reduceAdd];apply hK;clear hK K;refine qO ?_;refine Qa h zqC (?_) ?_
         ·simp+decide only[QE,qw,qj,Slots.get,if_true,if_false,and_true,qw,qj,qg WJ Ya,qg Xt QI,Qc,qf,List.getD_cons_zero,List.getD_cons_succ,Nat.zero_add,Nat.reduceAdd,qD,qi,qE,allLive,Bool.and_true,QO,ne_eq,not_false_eq_true,ne_0q2_0q0.symm,qf,List.getD_cons_zero,List.getD_cons_succ,Nat.zero_add,Nat.reduceAdd,qD,qi,qE,allLive,Bool.and_true]
         simp+decide only[Slots.get,if_true,if_false,and_true,QF,qw,qj,qg WJ Ya,qg Xt QI,Qc,qf,List.getD_cons_zero,List.getD_cons_succ,Nat.zero_add,Nat.reduceAdd,qD,qi,qE,allLive,Bool.and_true,QO,ne_eq,not_false_eq_true,ne_0q2_0q0.symm,qf,List.getD_cons_zero,List.getD_cons_succ,Nat.zero_add,Nat.reduceAdd,qD,qi,qE,allLive,Bool.and_true];rw[hln,if_neg n1,if_neg n2,if_neg]
         ·rfl
         ·rintro(e|e)
          ·exact hb15 ((Zi _ 32).mpr e)
          ·exact hb17 ((Zi _ 45).mpr e)
end Go.Proofs.YtlhhaagmakhilaaGreatDoor
namespace Go.Proofs.YtlhhaagmakhilaaGreatDoor
open Go.AM
open Go.Proofs
open Go.Col
open Go.Tok
open Go.RowKit (Below)
set_option maxRecDepth 100000
def QK(t:TokC):List AVal:=[.int .u8 t.kind.toNat, .str t.text, .int .i64 t.line, .int .i64 t.col, .bool t.left]
def nxA(t:Nx):AVal:= .agg [.int .u8 t.kind.toNat, .str t.text, .int .i64 0, .int .i64 0, .bool false]
def nxR(t:Nx):AVal:= .tuple [nxA t, .int .i64 t.n, .int .i64 t.e]
theorem Uw(wz:World)(h:AHeap)(kx:Nat)(lf:Bool)(s:Str)(mv tv:AVal)(i:Nat)(n:Int)(hk:h kx=some ⟨[.bool lf, .str s,mv, .int .i64 i,tv],0⟩)(i1:i<=4611686018427387904)(n0: -1<=n)(n1:n<=2305843009213693952):
 ACall Tryz.prog wz 105 [.ptr (.own kx) 0, .int .i64 n] h (fun v h'=>v= .int .u8 (Qo s (i+n)).toNat/\h'=h):=by
 have rx:=fun o=>Qy wz hk o;refine qU (n:=39) (rs:=[.tmp 4]) Tryz.func105 rfl rfl rfl rfl (Nat.le_of_ble_eq_true rfl) ?_;simp only[Qe];refine awp_rseq [0,1] (by rfl) fun K hK=>?_;simp+decide only[qa,ev,qH,qF,putD,Slots.put,Slots.keep,if_true,if_false,true_and,↓qd,qb,Nat.zero_add];apply hK;clear hK K;refine qK ?_;refine Zn [0,1,26] mixed (by kernel_rfl) (by rfl) (by rfl) fun K hK=>?_;simp+decide only[qa,ev,qH,qF,putD,Slots.put,Slots.get,Slots.keep,if_true,if_false,true_and,↓qh,qc,↓Qk,qM,Qn,↓qC,qm,Wu,↓qG,qY,qy ag3,↓qA,ql,qR,cond_false,qo,QY,qB,XP,↓Xf,agP,Qs,qL,qI,Qf,implies_true,↓ZY,qaY,qaZ,↓XC,Zl,Zm,↓Zr,Za,WS,qdy,↓Xb,Zc,qbm,Zd,qbo,Ug,YZ,qy ag9,↓qbZ,QD,YK Tryz.underlying9,qfH,qfI,qaC,↓QT,Qu,Qh,Zh,ZK,List.getD_cons_zero,List.getD_cons_succ,Nat.zero_add,qi,qE,rx];try simp(disch:=omega)only[wrap_i64]
 apply hK;clear hK K;refine qJ (b:=_) rfl (fun hb1=>?_) (fun hb1=>?_)
 ·try simp only[decide_eq_true_eq,Bool.or_eq_true]at hb1
  skip;refine awp_rseq [4] (by rfl) fun K hK=>?_;simp+decide only[qa,ev,qH,qF,putD,Slots.put,Slots.keep,if_true,if_false,true_and,↓qd,qb];apply hK;clear hK K;refine qO ?_;try simp only[Qi]
  refine Qa h zqC (qZ (Qd)) ?_;simp+decide only[Slots.get,if_true,and_true,Qr];rw[peekE_ge (by omega)];rfl
 ·try simp only[decide_eq_false_iff_not,Bool.or_eq_false_iff]at hb1
  have hi:0<=(i:Int)+n/\(i:Int)+n<s.length:=by omega
  refine qP ?_;change Awp _ _ _ _ _ _ _;refine Zn [4] mixed (by kernel_rfl) (by rfl) (by rfl) fun K hK=>?_;simp+decide only[ev,putD,Slots.put,Slots.get,if_true,if_false,true_and,↓qh,qc,↓Qk,qM,Qn,↓qC,qm,Ug,YZ,↓qG,qY,qy ag9,Wu,qy ag3,↓qA,ql,qR,cond_false,qo,QY,List.getD_cons_zero,List.getD_cons_succ,Nat.zero_add,qi,qE,rx];try simp(disch:=omega)only[wrap_i64]
  try simp+decide only[qa,ev,putD,Slots.put,Slots.get,Slots.keep,if_true,if_false,true_and,↓ap_index,qcE,qbM Tryz.underlying9,↓qd,qb]
  repeat (with_reducible refine And.intro ?_ ?_;· first|trivial|omega|(intro hg;simp only[Bool.and_eq_true,Bool.or_eq_true,Bool.not_eq_true',Bool.and_eq_false_iff,Bool.or_eq_false_iff,Bool.not_eq_false',decide_eq_true_eq,decide_eq_false_iff_not,XV]at hg;omega))
  apply hK;clear hK K;refine qO ?_;refine Qa h zqC (qZ (Qd)) ?_;simp+decide only[Slots.get,if_true,and_true,Qr];unfold Qo;rw[if_neg (by omega)]
theorem runE_next{s:Str}{i n:Nat}{p:UInt8->Bool}(hn:n<=WF s i p):n<WF s i p↔i+n<s.length/\p (s.getD (i+n) 0)=true:=by
 constructor
 ·intro h
  have h1:=runE_all (s:=s) (p:=p) (i:=i) h n (Nat.lt_succ_self n);refine⟨?_,h1⟩;by_cases hi:i<=s.length
  ·have:=qdd s i p hi
   omega
  ·have:WF s i p=0:=by rw[qcA,if_neg (by omega)]
   omega
 ·rintro⟨h1,h2⟩
  by_cases e:n=WF s i p
  ·have:=runE_stop (s:=s) (p:=p) (f:=s.length) (i:=i) (by omega) (by omega)
   rw[<-e,h2]at this;cases this
  ·omega
abbrev IsFn(wz:World)(f:FuncId)(p:UInt8->Bool):Prop:=∀(g:AHeap) (b:UInt8),ACall Tryz.prog wz f [.int .u8 b.toNat] g (fun v h'=>v= .bool (p b)/\h'=g)
theorem c_run(wz:World)(h:AHeap)(kx:Nat)(lf:Bool)(s:Str)(mv tv:AVal)(i k:Nat)(f:FuncId)(p:UInt8->Bool)(hf:IsFn wz f p)(hk:h kx=some ⟨[.bool lf, .str s,mv, .int .i64 i,tv],0⟩)(i1:i<=1099511627776)(k1:k<=1099511627776)(hs:s.length<=1099511627776):
 ACall Tryz.prog wz 132 [.ptr (.own kx) 0, .int .i64 k, .func f []] h (fun v h'=>v= .int .i64 (WF s (i+k) p)/\h'=h):=by
 have rx:=fun o=>Qy wz hk o;have hrl:=runE_len s (i+k) p;refine qU (n:=35) (rs:=[.tmp 6]) Tryz.func132 rfl rfl rfl rfl (Nat.le_of_ble_eq_true rfl) ?_;simp only[Qe];refine awp_rseq [0,1,2] (by rfl) fun K hK=>?_;simp+decide only[qa,ev,qH,qF,putD,Slots.put,Slots.keep,if_true,if_false,true_and,↓qd,qb,Nat.zero_add,Nat.reduceAdd];apply hK;clear hK K;refine awp_rseq [0,1,2,7] (by rfl) fun K hK=>?_;simp+decide only[qa,ev,qH,qF,putD,Slots.put,Slots.keep,if_true,if_false,true_and,↓qd,qb];apply hK;clear hK K;refine qK ?_;refine Ql ?_;refine Xv [0,1,2,7] (fun n:Nat=>[(0, .ptr (.own kx) 0),(1, .int .i64 k),(2, .func f []),(7, .int .i64 n)]) (fun n:Nat=>h) (fun n:Nat=>n<=WF s (i+k) p) (fun n:Nat=>WF s (i+k) p-n) 0 rfl (Sub.refl _) (Nat.zero_le _) ?_;intro n hn;have hnx:=runE_next hn;have hpk:∀q:(i:Int)+k+n<s.length,Qo s (i+((k:Int)+n))=s.getD (i+k+n) 0:=fun q=>by
  rw[show(i:Int)+((k:Int)+n)=((i+k+n:Nat):Int) by omega,YJ (by omega)]
 refine qK ?_;refine YM 24 [] [0,1,2,7,31] mixed (by kernel_rfl) (by rfl) fun K hK=>?_;simp only[List.take_succ_cons,List.drop_succ_cons,List.take_nil,List.drop_nil];simp+decide only[qa,ev,putD,Slots.put,Slots.get,if_true,if_false,true_and,↓XK,qc,↓WH,qM,Qn,↓ZG,qm,Wu,↓Zv,XF,qy ag3,↓fp_binOp,ql,qR,cond_false,qo,QY,Ug,YZ,qy ag9,↓fp_len,QD,YK Tryz.underlying9,XP,↓fg_move,fgP,fgQ_some,qL,qI,qz,implies_true,↓fg_binOp,Zc,qbm,Zd,qbo,List.getD_cons_zero,List.getD_cons_succ,Nat.zero_add,qi,qE,rx];try simp(disch:=omega)only[wrap_i64]
 refine qfG (V:= .int .u8 (Qo s (i+((k:Int)+n))).toNat) (f:=_) (cap:=_) (xs:=_) (by first|rfl|(simp+decide only[gv,qL,Slots.get,if_true,if_false,QZ,qI])) (fun hg=>⟨rfl,?_⟩) (by first|trivial|(simp+decide only[AVal.okIn,Xw,and_true,true_and,Qz,Un,Wl,qft,nxA,nxR,AHeap.set_same,Option.isSome_some];done)|(simp[AVal.okIn,Xw,AHeap.set];done)) (fun hg g hsub=>Uw wz _ kx lf s mv tv i ((k:Int)+n) (by first|exact hk|exact hsub _ _ hk) (by omega) (by omega) (by omega)) ?_
 ·try simp+decide only[gv,qL,Slots.get,if_true,if_false,qz]at hg
  simp+decide only[evs,ev,Slots.get,if_true,if_false,hg,Qv,List.append_nil,List.map_cons,List.map_nil]
 simp+decide only[putD,Slots.put,Slots.get,if_true,if_false,gv,qL,qz];refine qfG (V:= .bool (p (Qo s (i+((k:Int)+n))))) (f:=_) (cap:=_) (xs:=_) (by first|rfl|(simp+decide only[gv,qL,Slots.get,if_true,if_false,QZ,qI])) (fun hg=>⟨by(try simp+decide only[gv,qL,Slots.get,if_true,if_false,qz]at hg);simp+decide only[ev,Slots.get,if_true,if_false,hg,Qv];try rfl,?_⟩) (by first|trivial|(simp+decide only[AVal.okIn,Xw,and_true,true_and,Qz,Un,Wl,qft,nxA,nxR,AHeap.set_same,Option.isSome_some];done)|(simp[AVal.okIn,Xw,AHeap.set];done)) (fun hg g hsub=>hf _ _) ?_
 ·try simp+decide only[gv,qL,Slots.get,if_true,if_false,qz]at hg
  simp+decide only[evs,ev,Slots.get,if_true,if_false,hg,Qv,List.append_nil,List.map_cons,List.map_nil]
 simp+decide only[Yr,ev,qH,qF,putD,Slots.put,Slots.get,Slots.keep,if_true,if_false,true_and,gv,qL,qz,↓fp_pick,Qu,Qh,Xg,Xp];apply hK;clear hK K;refine qJ (b:=_) rfl (fun hb1=>?_) (fun hb1=>?_)
 ·try simp only[decide_eq_true_eq,Bool.and_eq_true]at hb1
  have h1:n<WF s (i+k) p:=hnx.2 ⟨by omega,by rw[<-hpk hb1.1];exact hb1.2⟩;refine qP ?_;change Awp _ _ _ _ _ _ _;refine Ql ?_;refine XA [0,1,2,7] (by rfl) ?_;simp+decide only[qa,ev,qH,qF,putD,Slots.put,Slots.get,Slots.keep,if_true,if_false,true_and,↓qh,qc,↓qA,ql,qB,cond_false,qo,QY,↓qd,qb];try simp(disch:=omega)only[wrap_i64]
  try simp only[Qg,YO]
  exact⟨n+1,rfl,Sub.refl _,h1,by omega⟩
 ·try simp only[decide_eq_false_iff_not,Bool.and_eq_false_iff]at hb1
  refine Xy ?_;change Awp _ _ _ _ _ _ _;refine awp_rseq [6] (by rfl) fun K hK=>?_;simp+decide only[qa,ev,putD,Slots.put,Slots.get,Slots.keep,if_true,if_false,true_and,↓qh,qc,↓qd,qb];apply hK;clear hK K;refine qO ?_;refine Qa h zqC (qZ (Qd)) ?_;simp+decide only[Slots.get,if_true,and_true,Qr];rw[show n=WF s (i+k) p by
   by_cases e:n<WF s (i+k) p
   ·have:=hnx.1 e
    have h2:(i:Int)+k+n<s.length:=by omega
    rcases hb1 with q|q
    ·omega
    ·rw[hpk h2,this.2]at q
     cases q
   ·omega]
theorem c_sep(wz:World)(h:AHeap)(b:UInt8):ACall Tryz.prog wz 106 [.int .u8 b.toNat] h (fun v h'=>v= .bool (sepB b)/\h'=h):=by
 refine qU (n:=9) (rs:=[.tmp 2]) Tryz.func106 rfl rfl rfl rfl (Nat.le_of_ble_eq_true rfl) ?_;simp only[Qe];refine awp_rseq [0] (by rfl) fun K hK=>?_;simp+decide only[qa,ev,qH,qF,putD,Slots.put,Slots.keep,if_true,if_false,true_and,↓qd,qb];apply hK;clear hK K;refine awp_rseq [2] (by rfl) fun K hK=>?_;simp+decide only[qa,ev,qH,qF,putD,Slots.put,Slots.get,Slots.keep,if_true,if_false,true_and,↓qh,qc,↓qA,ql,qB,cond_false,qo,XR,↓Xf,agP,Qs,qL,qI,Qf,implies_true,↓Xb,Zc,Zd,↓QT,Qu,Qh,Zh,ZK,↓qd,qb];apply hK;clear hK K;refine qO ?_;refine Qa _ (Sub.refl _) (qZ (Qd)) ?_;simp+decide only[Slots.get,if_true,and_true,Qr];have e1:decide ((b.toNat:Int)=44)=decide (b=44):=decide_eq_decide.2 (iff_of_eq (Zi b 44));have e2:decide ((b.toNat:Int)=59)=decide (b=59):=decide_eq_decide.2 (iff_of_eq (Zi b 59));unfold sepB;rw[e1,e2]
theorem c_contains(wz:World)(h:AHeap)(v:AVal)(l:List Str)(x:Str)(hv:IsStrs wz h v l)(hn:l.length<=140737488355328):
 ACall Tryz.prog wz 53 [v, .str x] h (fun r h'=>r= .bool (l.contains x)/\h'=h):=by
 intro fi vals w hr hvs;simp only[VRs,VR]at hvs;obtain⟨u,vs',rfl,hu,u2,vs2,rfl,rfl,rfl⟩:=hvs;have fin:∀{R:Ending->World->Prop},Calls Tryz.prog 53 #[u, .string ⟨⟨x⟩⟩] w R->(∀e w',R e w'->e= .returned (.bool (l.contains x))/\w'=w)->
  Lands Tryz.prog 53 [u, .string ⟨⟨x⟩⟩].toArray w fun v w'=>∃Ps y h',fi.le Ps/\HRel wz Ps h' w'/\VR Ps y v/\y= .bool (l.contains x)/\h'=h:=fun hc hq=>
  .inl ⟨_,Tryz.func53,rfl,rfl,hc.mono fun e w' hR=>⟨_,(hq e w' hR).1,fi, .bool (l.contains x),h,fi.le_refl,hr.later (by rw[(hq e w' hR).2];exact Below.refl _ _),rfl,rfl,rfl⟩⟩
 obtain⟨xs,hxs⟩:∃xs,xs=l.map fun s=>[AVal.str s]:=⟨_,rfl⟩
 unfold IsStrs at hv;rw[<-hxs]at hv;cases hv with
 |nil=>
  have e0:l=[]:=List.map_eq_nil_iff.1 hxs.symm;subst e0;simp only[VR]at hu;subst hu;exact fin (Tryz.slices_Contains_string_empty none 0 ⟨⟨x⟩⟩ w) fun e w' ⟨e1,e2⟩=>⟨e1,e2⟩
 |mk lc o n c xs hn' hw hc hlv hcap=>
  subst hxs;rw[List.length_map]at hn';subst hn';obtain⟨a,cp,rfl,ha⟩:=Yh hu;by_cases h0:l.length=0
  ·have e0:l=[]:=List.eq_nil_of_length_eq_zero h0
   subst e0;exact fin (Tryz.slices_Contains_string_empty (some a) cp ⟨⟨x⟩⟩ w) fun e w' ⟨e1,e2⟩=>⟨e1,e2⟩
  ·have ha':=ha h0
   obtain⟨us,u1,u2,u3⟩:=qdu hr lc (l.length*1) o a ha' (by rw[hc];exact hlv);rw[hc,qeP]at u2;have hus:=VRs_strs u2;have has:=locAddr_spot ha';have hcell:∀j,j<(l.map fun x=>(⟨⟨x⟩⟩:ByteArray)).length->w.cell? ⟨a.block,a.off+j,none⟩=some (.string ((l.map fun x=>(⟨⟨x⟩⟩:ByteArray)).getD j ByteArray.empty)):=fun j hj=>by
    rw[List.length_map]at hj;have:=u3 j (.string ⟨⟨l[j]⟩⟩) (by rw[hus];simp[hj]);rw[has]at this;rw[show(l.map fun x=>(⟨⟨x⟩⟩:ByteArray)).getD j ByteArray.empty=⟨⟨l[j]⟩⟩ by simp[List.getD,hj]];by_cases hj0:j=0
    ·subst hj0
     simpa[Addr.add]using this
    ·simpa[Addr.add,hj0]using this
   have hj:=Tryz.slices_Contains_string a.block a.off l.length cp (l.map fun x=>(⟨⟨x⟩⟩:ByteArray)) ⟨⟨x⟩⟩ w (by rw[List.length_map];exact Nat.le_refl _) (by omega) hcell;rw[<-has]at hj;refine fin hj fun e w' ⟨e1,e2⟩=>⟨?_,e2⟩
   rw[e1,List.take_of_length_le (by rw[List.length_map];exact Nat.le_refl _)];congr 2;rw[Bool.eq_iff_iff,Lib.containsS_iff,List.mem_map,List.contains_iff_mem];constructor
   ·rintro⟨y,hy,e⟩
    have:y=x:=congrArg (fun z:ByteArray=>z.data.toList) e
    rwa [this]at hy
   ·intro hy
    exact⟨x,hy,rfl⟩
def Zy:TokC:=⟨0,[],0,0,false⟩
theorem wordE_lo{l:List TokC}{n:Nat}{ws:List Str}(hn:0<n)(h:l.length<n):qbA l n ws=false:=by
 unfold qbA;rw[List.getElem?_eq_none (by rw[List.length_reverse];omega)]
theorem wordE_hi{l:List TokC}{n:Nat}{ws:List Str}(hn:0<n)(h:n<=l.length):qbA l n ws=(decide ((l.getD (l.length-n) Zy).kind=1) && ws.contains (l.getD (l.length-n) Zy).text):=by
 unfold qbA;rw[List.getElem?_reverse (by omega),show l.length-1-(n-1)=l.length-n by omega,List.getElem?_eq_getElem (by omega)];simp[List.getD,show l.length-n<l.length by omega]
theorem c_wordLo(wz:World)(h:AHeap)(kx:Nat)(lf:Bool)(s:Str)(mv tv:AVal)(i:Int)(l:List TokC)(n:Nat)(v:AVal)(hv:v.live=true)(hk:h kx=some ⟨[.bool lf, .str s,mv, .int .i64 i,tv],0⟩)(ht:IsL wz h 5 tv (l.map QK))(hn:l.length<n)(hn':n<=1000000):
 ACall Tryz.prog wz 129 [.ptr (.own kx) 0, .int .i64 n,v] h (fun r h'=>r= .bool false/\h'=h):=by
 have rx:=fun o=>Qy wz hk o;have hlv:=ht.live;have hlen:=ht.len Tryz.underlying26;rw[List.length_map]at hlen;have hneg:¬(0<=(l.length:Int)-n):=by omega
 refine qU (n:=40) (rs:=[.tmp 6]) Tryz.func129 rfl rfl rfl rfl (Nat.le_of_ble_eq_true rfl) ?_;simp only[Qe];refine awp_rseq [0,1,2] (by rfl) fun K hK=>?_;simp+decide only[qa,ev,qH,qF,putD,Slots.put,Slots.keep,if_true,if_false,true_and,↓qd,qb,Nat.zero_add,Nat.reduceAdd];apply hK;clear hK K;refine awp_rseq [0,2,7] (by rfl) fun K hK=>?_;simp+decide only[qa,ev,putD,Slots.put,Slots.get,Slots.keep,if_true,if_false,true_and,↓qh,qc,↓Qk,qM,Qn,↓qC,qm,qdp,↓qG,qY,qy UJ,↓Xo,QD,↓qA,ql,qR,cond_false,qo,UH,↓qd,qb,List.getD_cons_zero,List.getD_cons_succ,Nat.zero_add,rx,hlv,hlen];try simp(disch:=omega)only[wrap_i64]
 apply hK;clear hK K;refine awp_rseq [6] (by kernel_rfl) fun K hK=>?_;simp+decide only[ev,qH,qF,putD,Slots.put,Slots.get,if_true,if_false,true_and,↓qh,qc,↓qA,ql,qB,cond_false,qo,qaC,↓Xf,agP,Qs,qL,qI,qz,implies_true,decide_false,ZC,false_implies,qdW,agL_deadF,↓ZY,qM,↓XC,qm,↓Zr,Za,↓Yg,↓Xb,↓QT,Qu,Qh,hneg]
 (refine UT (by rfl) (by rfl) ?_)
 simp+decide only[qa,ev,qH,qF,putD,Slots.put,Slots.get,Slots.keep,if_true,if_false,true_and,↓QT,Qu,Qh,↓qd,qb];apply hK;clear hK K;refine qO ?_;refine Qa h zqC (qZ (Qd)) ?_;simp+decide only[Slots.get,if_true,and_true,Qr];all_goals first|rfl|exact⟨rfl,rfl⟩|(simp+decide only[if_true,if_false, *];done)|(trace_state;fail)
end Go.Proofs.YtlhhaagmakhilaaGreatDoor
namespace Go.Proofs.YtlhhaagmakhilaaGreatDoor
open Go.AM
open Go.Proofs
open Go.Col
open Go.Tok
open Go.RowKit (Below)
set_option maxRecDepth 100000
theorem qcj(wz:World)(h:AHeap)(kx:Nat)(lf:Bool)(s:Str)(mv tv:AVal)(i:Nat)(hk:h kx=some ⟨[.bool lf, .str s,mv, .int .i64 i,tv],0⟩)(i1:i<=4611686018427387904):
 ACall Tryz.prog wz 105 [.ptr (.own kx) 0, .int .i64 0] h (fun v h'=>v= .int .u8 (Qo s i).toNat/\h'=h):=by
 have:=Uw wz h kx lf s mv tv i 0 hk i1 (by omega) (by omega)
 rwa [Int.add_zero]at this
theorem c_run0(wz:World)(h:AHeap)(kx:Nat)(lf:Bool)(s:Str)(mv tv:AVal)(i:Nat)(f:FuncId)(p:UInt8->Bool)(hf:IsFn wz f p)(hk:h kx=some ⟨[.bool lf, .str s,mv, .int .i64 i,tv],0⟩)(i1:i<=1099511627776)(hs:s.length<=1099511627776):
 ACall Tryz.prog wz 132 [.ptr (.own kx) 0, .int .i64 0, .func f []] h (fun v h'=>v= .int .i64 (WF s i p)/\h'=h):=by
 have:=c_run wz h kx lf s mv tv i 0 f p hf hk i1 (by omega) hs
 rwa [Nat.add_zero]at this
theorem c_wordHi(wz:World)(h:AHeap)(kx:Nat)(lf:Bool)(s:Str)(mv tv:AVal)(i:Int)(l:List TokC)(n:Nat)(v:AVal)(ws:List Str)(hv:IsStrs wz h v ws)(hws:ws.length<=1000)(hk:h kx=some ⟨[.bool lf, .str s,mv, .int .i64 i,tv],0⟩)(ht:IsL wz h 5 tv (l.map QK))(hn0:0<n)(hn:n<=l.length)(hl:l.length<=1099511627776):
 ACall Tryz.prog wz 129 [.ptr (.own kx) 0, .int .i64 n,v] h (fun r h'=>r= .bool (qbA l n ws)/\h'=h):=by
 have rx:=fun o=>Qy wz hk o;have hvl:=hv.live;obtain⟨lc,o,c,e⟩:=ht.open (fun e=>by rw[List.map_eq_nil_iff]at e;subst e;simp at hn;omega);rw[List.length_map]at e;subst e;have hi:l.length-n<l.length:=by omega
 have he:=ht.elem (i:=l.length-n) (by rw[List.length_map];exact hi);rw[getD_map Zy hi]at he;simp only[qf,QK,List.cons.injEq,and_true]at he;obtain⟨e0,e1,e2,e3,e4⟩:=he;have hpos:(0<=(l.length:Int)-n):=by omega
 have hix:((l.length:Int)-n).toNat=l.length-n:=by omega
 rw[wordE_hi hn0 hn];obtain⟨t,htt⟩:∃t,t=l.getD (l.length-n) Zy:=⟨_,rfl⟩
 rw[<-htt]at e0 e1|-
 have ek:decide ((t.kind.toNat:Int)=1)=decide (t.kind=1):=decide_eq_decide.2 (iff_of_eq (Zi t.kind 1));refine qU (n:=40) (rs:=[.tmp 6]) Tryz.func129 rfl rfl rfl rfl (Nat.le_of_ble_eq_true rfl) ?_;simp only[Qe];refine awp_rseq [0,1,2] (by rfl) fun K hK=>?_;simp+decide only[qa,ev,qH,qF,putD,Slots.put,Slots.keep,if_true,if_false,true_and,↓qd,qb,Nat.zero_add,Nat.reduceAdd];apply hK;clear hK K;refine awp_rseq [0,2,7] (by rfl) fun K hK=>?_;simp+decide only[qa,ev,putD,Slots.put,Slots.get,Slots.keep,if_true,if_false,true_and,↓qh,qc,↓Qk,qM,Qn,↓qC,qm,qdp,↓qG,qY,qy UJ,↓Xo,QD,ZI Tryz.underlying26,↓qA,ql,qR,cond_false,qo,UH,↓qd,qb,List.getD_cons_zero,List.getD_cons_succ,Nat.zero_add,WY,rx];try simp(disch:=omega)only[wrap_i64]
 apply hK;clear hK K;refine awp_rseq [6] (by kernel_rfl) fun K hK=>?_;simp+decide only[ev,qH,qF,putD,Slots.put,Slots.get,if_true,if_false,true_and,↓qh,qc,↓qA,ql,qB,cond_false,qo,qaC,↓Xf,agP,Qs,qL,qI,qz,implies_true,decide_true,Qv,forall_const,Bool.true_and,↓ZY,qM,Qn,qaY,qaZ,↓XC,qm,qdp,Zl,Zm,↓Zr,Za,WS,qfb,qy UJ,↓Yg,agL_il1,agL_ir1,Qb Tryz.underlying26 Xa,fa54_0,qy ag52,↓Xb,XR,↓QT,Qu,Qh,Xp,UI,qy ag9,List.getD_cons_zero,List.getD_cons_succ,Nat.zero_add,qi,qE,WY,rx,hpos,hix,Nat.add_zero,e0,e1,ek];repeat (with_reducible refine And.intro ?_ ?_;· first|trivial|omega|(intro hg;simp only[Bool.and_eq_true,Bool.or_eq_true,Bool.not_eq_true',Bool.and_eq_false_iff,Bool.or_eq_false_iff,Bool.not_eq_false',decide_eq_true_eq,decide_eq_false_iff_not,XV]at hg;omega))
 (refine Zb (V:= .bool (ws.contains t.text)) (f:=_) (cap:=_) (xs:=_) (by first|rfl|(simp+decide only[gv,qL,Slots.get,if_true,if_false,QZ,qI])) (fun hg=>⟨rfl,?_⟩) (fun hg=>c_contains wz _ v ws t.text hv (by omega)) ?_;· (simp+decide only[gv,qL,Slots.get,if_true,if_false,qz]at hg;simp+decide only[evs,ev,Slots.get,if_true,if_false,hg,Qv,List.append_nil,List.map_cons,List.map_nil]<;>try rfl))
 simp+decide only[qa,ev,qH,qF,putD,Slots.put,Slots.get,Slots.keep,if_true,if_false,true_and,gv,qL,qz,↓QT,Qu,Qh,Xg,Xp,↓qd,qb];apply hK;clear hK K;refine qO ?_;refine Qa h zqC (qZ (Qd)) ?_;simp+decide only[Slots.get,if_true,and_true,Qr];skip
theorem c_word(wz:World)(h:AHeap)(kx:Nat)(lf:Bool)(s:Str)(mv tv:AVal)(i:Int)(l:List TokC)(n:Nat)(v:AVal)(ws:List Str)(hv:IsStrs wz h v ws)(hws:ws.length<=1000)(hk:h kx=some ⟨[.bool lf, .str s,mv, .int .i64 i,tv],0⟩)(ht:IsL wz h 5 tv (l.map QK))(hn0:0<n)(hn1:n<=1000)(hl:l.length<=1099511627776):
 ACall Tryz.prog wz 129 [.ptr (.own kx) 0, .int .i64 n,v] h (fun r h'=>r= .bool (qbA l n ws)/\h'=h):=by
 by_cases hn:n<=l.length
 ·exact c_wordHi wz h kx lf s mv tv i l n v ws hv hws hk ht hn0 hn hl
 ·rw[wordE_lo hn0 (by omega)]
  exact c_wordLo wz h kx lf s mv tv i l n v hv.live hk ht (by omega) (by omega)
theorem strsOwn{wz:World}{h:AHeap}{k:Nat}{l:List Str}(hk:h k=some ⟨l.map AVal.str,0⟩):IsStrs wz h (.slice (.own k) 0 l.length (.exact l.length)) l:=by
 have:=IsL.own (wz:=wz) (es:=1) (xs:=l.map fun s=>[AVal.str s]) hk (by simp) (by rw[qeP]) (by rw[ZW];intro x hx;obtain⟨y,_,rfl⟩:=List.mem_map.1 hx;rfl) (.exact l.length) (by simp);rw[List.length_map]at this;exact this
theorem c_pictures1(wz:World)(h:AHeap)(kx:Nat)(lf:Bool)(s:Str)(mv tv:AVal)(i:Int)(l:List TokC)(hk:h kx=some ⟨[.bool lf, .str s,mv, .int .i64 i,tv],0⟩)(ht:IsL wz h 5 tv (l.map QK))(hl:l.length<=1099511627776)(hq:qbA l 1 [IS]=true):
 ACall Tryz.prog wz 104 [.ptr (.own kx) 0] h (fun r h'=>r= .tuple [.bool (ZM l).1, .bool (ZM l).2]/\h'=h):=by
 refine qU (n:=15) (rs:=[.tmp 2, .tmp 3]) Tryz.func104 rfl rfl rfl rfl (Nat.le_of_ble_eq_true rfl) ?_;simp only[Qe];refine awp_rseq [0] (by rfl) fun K hK=>?_;simp+decide only[qa,ev,qH,qF,putD,Slots.put,Slots.keep,if_true,if_false,true_and,↓qd,qb];apply hK;clear hK K;refine qK ?_;refine awp_rseq [0,6] (by rfl) fun K hK=>?_;simp+decide only[ev,putD,Slots.put,Slots.get,if_true,if_false,true_and,↓qh,qc];refine Qm (cs:=[.str PIC, .str Wv]) (by kernel_rfl) fun k1q1 hk1q1=>?_;try have hf_1q1:h k1q1=none:=by first|assumption|(simp only[AHeap.set_none]at hk1q1;simp only[hk1q1])
 refine qN (V:= .bool (qbA l 1 [PIC,Wv])) (by rfl) (by rfl) (c_word wz _ kx lf s mv tv i l 1 _ [PIC,Wv] (strsOwn (l:=[PIC,Wv]) (AHeap.set_same _ _ _)) (by decide) ((Sub.set hk1q1) _ _ hk) (ht.mono (Sub.set hk1q1)) (by decide) (by decide) hl) ?_;simp+decide only[qa,putD,Slots.put,Slots.keep,if_true,if_false];apply hK;clear hK K;refine qJ (b:=_) rfl (fun hb1=>?_) (fun hb1=>?_)
 ·skip
  refine awp_rseq [2,3] (by rfl) fun K hK=>?_;simp+decide only[qa,ev,qH,qF,putD,Slots.put,Slots.keep,if_true,if_false,true_and,↓qd,qb];apply hK;clear hK K;refine qO ?_;try simp only[Qi]
  refine Qa h zqC (qZ (qZ (Qd))) ?_;simp+decide only[Slots.get,if_true,if_false,and_true,Wy];unfold ZM;rw[if_pos hb1]
 ·skip
  have hs1:Sub h (h.set k1q1 ⟨[.str PIC, .str Wv],0⟩):=Sub.set hk1q1;refine qP ?_;change Awp _ _ _ _ _ _ _;refine awp_rseq [2,3] (by rfl) fun K hK=>?_;simp+decide only[ev,putD,Slots.put,Slots.get,if_true,if_false,true_and,↓qh,qc];refine Qm (cs:=[.str IS]) (by kernel_rfl) fun k3q1 hk3q1=>?_;have ne_3q1_1q1:k3q1≠k1q1:=by simp only[AHeap.set_none]at hk3q1;simp only[hk3q1,ne_eq,not_false_eq_true]
  try have hf_3q1:h k3q1=none:=by first|assumption|(simp only[AHeap.set_none]at hk3q1;simp only[hk3q1])
  refine qN (V:= .bool true) (by rfl) (by rfl) (by rw[<-hq];exact c_word wz _ kx lf s mv tv i l 1 _ [IS] (strsOwn (l:=[IS]) (AHeap.set_same _ _ _)) (by decide) ((hs1.trans (Sub.set hk3q1)) _ _ hk) (ht.mono (hs1.trans (Sub.set hk3q1))) (by decide) (by decide) hl) ?_;simp+decide only[ev,putD,Slots.put,Slots.get,if_true,if_false,true_and,↓qh,qc,↓Xf,agP,Qs,qL,qI,qz,implies_true,Qv,Qv];refine Yv (by rfl) ?_;refine Qm (cs:=[.str PIC, .str Wv]) (by kernel_rfl) fun k3q5 hk3q5=>?_;have ne_3q5_1q1:k3q5≠k1q1:=by simp only[AHeap.set_none]at hk3q5;simp only[hk3q5,ne_eq,not_false_eq_true]
  have ne_3q5_3q1:k3q5≠k3q1:=by simp only[AHeap.set_none]at hk3q5;simp only[hk3q5,ne_eq,not_false_eq_true]
  try have hf_3q5:h k3q5=none:=by first|assumption|(simp only[AHeap.set_none]at hk3q5;simp only[hk3q5])
  refine Yv (by rfl) ?_;refine qN (V:= .bool (qbA l 2 [PIC,Wv])) (by rfl) (by rfl) (c_word wz _ kx lf s mv tv i l 2 _ [PIC,Wv] (strsOwn (l:=[PIC,Wv]) (AHeap.set_same _ _ _)) (by decide) (((hs1.trans (Sub.set hk3q1)).trans (Sub.set hk3q5)) _ _ hk) (ht.mono ((hs1.trans (Sub.set hk3q1)).trans (Sub.set hk3q5))) (by decide) (by decide) hl) ?_;simp+decide only[qa,ev,qH,qF,putD,Slots.put,Slots.get,Slots.keep,if_true,if_false,true_and,↓QT,Qu,Qh,↓qd,qb,YI,cond_true];apply hK;clear hK K;refine qO ?_;refine Qa h zqC (qZ (qZ (Qd))) ?_;simp+decide only[Slots.get,if_true,if_false,and_true,Wy];unfold ZM;rw[if_neg (by rw[hb1];decide),hq];rfl
theorem c_pictures0(wz:World)(h:AHeap)(kx:Nat)(lf:Bool)(s:Str)(mv tv:AVal)(i:Int)(l:List TokC)(hk:h kx=some ⟨[.bool lf, .str s,mv, .int .i64 i,tv],0⟩)(ht:IsL wz h 5 tv (l.map QK))(hl:l.length<=1099511627776)(hq:qbA l 1 [IS]=false):
 ACall Tryz.prog wz 104 [.ptr (.own kx) 0] h (fun r h'=>r= .tuple [.bool (ZM l).1, .bool (ZM l).2]/\h'=h):=by
 refine qU (n:=15) (rs:=[.tmp 2, .tmp 3]) Tryz.func104 rfl rfl rfl rfl (Nat.le_of_ble_eq_true rfl) ?_;simp only[Qe];refine awp_rseq [0] (by rfl) fun K hK=>?_;simp+decide only[qa,ev,qH,qF,putD,Slots.put,Slots.keep,if_true,if_false,true_and,↓qd,qb];apply hK;clear hK K;refine qK ?_;refine awp_rseq [0,6] (by rfl) fun K hK=>?_;simp+decide only[ev,putD,Slots.put,Slots.get,if_true,if_false,true_and,↓qh,qc];refine Qm (cs:=[.str PIC, .str Wv]) (by kernel_rfl) fun k1q1 hk1q1=>?_;try have hf_1q1:h k1q1=none:=by first|assumption|(simp only[AHeap.set_none]at hk1q1;simp only[hk1q1])
 refine qN (V:= .bool (qbA l 1 [PIC,Wv])) (by rfl) (by rfl) (c_word wz _ kx lf s mv tv i l 1 _ [PIC,Wv] (strsOwn (l:=[PIC,Wv]) (AHeap.set_same _ _ _)) (by decide) ((Sub.set hk1q1) _ _ hk) (ht.mono (Sub.set hk1q1)) (by decide) (by decide) hl) ?_;simp+decide only[qa,putD,Slots.put,Slots.keep,if_true,if_false];apply hK;clear hK K;refine qJ (b:=_) rfl (fun hb1=>?_) (fun hb1=>?_)
 ·skip
  refine awp_rseq [2,3] (by rfl) fun K hK=>?_;simp+decide only[qa,ev,qH,qF,putD,Slots.put,Slots.keep,if_true,if_false,true_and,↓qd,qb];apply hK;clear hK K;refine qO ?_;try simp only[Qi]
  refine Qa h zqC (qZ (qZ (Qd))) ?_;simp+decide only[Slots.get,if_true,if_false,and_true,Wy];unfold ZM;rw[if_pos hb1]
 ·skip
  have hs1:Sub h (h.set k1q1 ⟨[.str PIC, .str Wv],0⟩):=Sub.set hk1q1;refine qP ?_;change Awp _ _ _ _ _ _ _;refine awp_rseq [2,3] (by rfl) fun K hK=>?_;simp+decide only[ev,putD,Slots.put,Slots.get,if_true,if_false,true_and,↓qh,qc];refine Qm (cs:=[.str IS]) (by kernel_rfl) fun k3q1 hk3q1=>?_;have ne_3q1_1q1:k3q1≠k1q1:=by simp only[AHeap.set_none]at hk3q1;simp only[hk3q1,ne_eq,not_false_eq_true]
  try have hf_3q1:h k3q1=none:=by first|assumption|(simp only[AHeap.set_none]at hk3q1;simp only[hk3q1])
  refine qN (V:= .bool false) (by rfl) (by rfl) (by rw[<-hq];exact c_word wz _ kx lf s mv tv i l 1 _ [IS] (strsOwn (l:=[IS]) (AHeap.set_same _ _ _)) (by decide) ((hs1.trans (Sub.set hk3q1)) _ _ hk) (ht.mono (hs1.trans (Sub.set hk3q1))) (by decide) (by decide) hl) ?_;simp+decide only[ev,putD,Slots.put,Slots.get,if_true,if_false,true_and,↓qh,qc,↓Xf,agP,Qs,qL,qI,qz,implies_true,ZC];refine UT (by rfl) (by rfl) ?_;try simp+decide only[putD,Slots.put,if_false]
  (refine UT (by rfl) (by rfl) ?_)
  simp+decide only[qa,ev,qH,qF,putD,Slots.put,Slots.get,Slots.keep,if_true,if_false,true_and,↓QT,Qu,Qh,↓qd,qb];apply hK;clear hK K;refine qO ?_;refine Qa h zqC (qZ (qZ (Qd))) ?_;simp+decide only[Slots.get,if_true,if_false,and_true,Wy];unfold ZM;rw[if_neg (by rw[hb1];decide),hq];rfl
theorem c_pictures(wz:World)(h:AHeap)(kx:Nat)(lf:Bool)(s:Str)(mv tv:AVal)(i:Int)(l:List TokC)(hk:h kx=some ⟨[.bool lf, .str s,mv, .int .i64 i,tv],0⟩)(ht:IsL wz h 5 tv (l.map QK))(hl:l.length<=1099511627776):
 ACall Tryz.prog wz 104 [.ptr (.own kx) 0] h (fun r h'=>r= .tuple [.bool (ZM l).1, .bool (ZM l).2]/\h'=h):=by
 cases hq:qbA l 1 [IS]with
 |true=>exact c_pictures1 wz h kx lf s mv tv i l hk ht hl hq
 |false=>exact c_pictures0 wz h kx lf s mv tv i l hk ht hl hq
theorem qeW(wz:World)(h:AHeap)(kx:Nat)(lf:Bool)(s:Str)(mv tv:AVal)(i n:Nat)(kd:UInt8)(eb_x:h kx=some ⟨[.bool lf, .str s,mv, .int .i64 i,tv],0⟩)(hn:i+n<=s.length)(hs:s.length<=1099511627776):
 ACall Tryz.prog wz 109 [.ptr (.own kx) 0, .int .u8 kd.toNat, .int .i64 n] h (fun r h'=>r=nxR (takeE s i kd n)/\h'=h):=by
 have hs_h:Sub h h:=Sub.refl h;have hin:((i:Int)+n).toNat=i+n:=by omega
 have hid:i+n-i=n:=by omega
 refine qU (n:=28) (rs:=[.cell 6 54, .tmp 7, .tmp 8]) Tryz.func109 rfl rfl rfl rfl (Nat.le_of_ble_eq_true rfl) ?_;simp only[Qe];refine awp_rseq [0,1,2,6] (by rfl) fun K hK=>?_;refine Qj qam (cs:=[.int .u8 0, .str [], .int .i64 0, .int .i64 0, .bool false]) (by rfl) fun k0q0 hk0q0=>?_;have hn_0q0:h k0q0=none:=by first|assumption|(simp only[AHeap.set_none]at hk0q0;simp only[hk0q0])
 have hf_0q0:h k0q0=none:=Sub.none hs_h hn_0q0;have ne_0q0_x:k0q0≠kx:=AHeap.ne_some hn_0q0 eb_x;simp+decide only[qa,ev,qH,qF,putD,Slots.put,Slots.keep,if_true,if_false,true_and,↓qd,qb,Nat.zero_add,Nat.reduceAdd];apply hK;clear hK K;refine YM 19 [18] [6,7,8] mixed (by kernel_rfl) (by rfl) fun K hK=>?_;simp only[List.take_succ_cons,List.take_zero,List.drop_succ_cons,List.drop_zero];simp+decide only[Yr,ev,qH,qF,putD,Slots.put,Slots.get,if_true,if_false,true_and,↓XK,qc,↓WH,qM,Qn,↓ZG,qm,Ug,YZ,↓Zv,XF,qy ag9,Wu,qy ag3,↓fp_binOp,ql,qR,cond_false,qo,QY,↓fp_slice,Zu,evO,qbL Tryz.underlying9,UN,WZ,↓Us,↓qW,UD,evP,List.map_cons,List.map_nil,QO,ne_eq,not_false_eq_true,ne_0q0_x.symm,Qy wz eb_x,List.getD_cons_zero,List.getD_cons_succ,Nat.zero_add,qi,qE,Int.toNat_natCast];try simp(disch:=omega)only[wrap_i64]
 repeat (with_reducible refine And.intro ?_ ?_;· first|trivial|omega|(intro hg;simp only[Bool.and_eq_true,Bool.or_eq_true,Bool.not_eq_true',Bool.and_eq_false_iff,Bool.or_eq_false_iff,Bool.not_eq_false',decide_eq_true_eq,decide_eq_false_iff_not,XV]at hg;omega))
 refine qp (by rfl) (by rfl) zqA Xa (by rfl) (by rfl) zqD (Nat.zero_le _) (by rfl) ?_;simp only[AHeap.set_set,AVal.cells];simp+decide only[qa,ev,qH,qF,putD,Slots.put,Slots.get,Slots.keep,if_true,if_false,true_and,↓qd,qb,setAt,List.set_cons_zero,List.set_cons_succ,Nat.zero_add,Nat.reduceAdd,hin,hid];apply hK;clear hK K;refine qO ?_;refine Qa h zqC (?_) ?_
 ·simp+decide only[QE,qw,qj,Slots.get,if_true,if_false,and_true,qw,qj,qg Zf Xa,Qc,qf,List.getD_cons_zero,List.getD_cons_succ,Nat.zero_add,Nat.reduceAdd,qD,qi,qE,allLive,Bool.and_true,qf,List.getD_cons_zero,List.getD_cons_succ,Nat.zero_add,Nat.reduceAdd,qD,qi,qE,allLive,Bool.and_true]
 simp+decide only[Slots.get,if_true,if_false,and_true,QF,qw,qj,qg Zf Xa,Qc,qf,List.getD_cons_zero,List.getD_cons_succ,Nat.zero_add,Nat.reduceAdd,qD,qi,qE,allLive,Bool.and_true,qf,List.getD_cons_zero,List.getD_cons_succ,Nat.zero_add,Nat.reduceAdd,qD,qi,qE,allLive,Bool.and_true,nxA,nxR];all_goals first|rfl|exact⟨rfl,rfl⟩|(simp+decide only[if_true,if_false, *];done)|(trace_state;fail)
theorem c_skip(wz:World)(h:AHeap)(kx:Nat)(lf:Bool)(s:Str)(mv tv:AVal)(i:Nat)(l:List TokC)(hk:h kx=some ⟨[.bool lf, .str s,mv, .int .i64 i,tv],0⟩)(ht:IsL wz h 5 tv (l.map QK))(htx:∀c,IsL wz (h.set kx c) 5 tv (l.map QK))(hl:l.length<=1099511627776)(hs:s.length<=1099511627776)(hi:i<=s.length):
 ACall Tryz.prog wz 82 [.ptr (.own kx) 0] h (fun r h'=>r= .bool (decide (ZO s (ZM l).1 i<s.length))/\h'=h.set kx ⟨[.bool lf, .str s,mv, .int .i64 (ZO s (ZM l).1 i),tv],0⟩):=by
 obtain⟨j,hj⟩:∃j,j=ZO s (ZM l).1 i:=⟨_,rfl⟩
 have hjl:=skipE_le s (ZM l).1 i hi;rw[<-hj]at hjl|-
 refine qU (n:=56) (rs:=[.tmp 2]) Tryz.func82 rfl rfl rfl rfl (Nat.le_of_ble_eq_true rfl) ?_;simp only[Qe];refine awp_rseq [0] (by rfl) fun K hK=>?_;simp+decide only[qa,ev,qH,qF,putD,Slots.put,Slots.keep,if_true,if_false,true_and,↓qd,qb];apply hK;clear hK K;refine awp_scope ?_;refine awp_rseq [0,3] (by rfl) fun K hK=>?_;simp+decide only[ev,putD,Slots.put,Slots.get,if_true,if_false,true_and,↓qh,qc];refine qN (V:= .tuple [.bool (ZM l).1, .bool (ZM l).2]) (by rfl) (by rfl) (c_pictures wz _ kx lf s mv tv i l hk ht hl) ?_;simp+decide only[qa,ev,putD,Slots.put,Slots.get,Slots.keep,if_true,if_false,true_and,↓qh,qc,↓QW,QH,QS,List.length_cons,List.length_nil,List.getD_cons_zero,List.getD_cons_succ,↓qd,qb,List.getD_cons_zero,List.getD_cons_succ,Nat.zero_add,Nat.reduceAdd];apply hK;clear hK K;refine qK ?_;refine awp_label ?_;change Awp _ _ _ _ _ _ _;refine qK ?_;refine Ql ?_;refine Xv [0,3] (fun m:Nat=>[(0, .ptr (.own kx) 0),(3, .bool (ZM l).1)]) (fun m:Nat=>h.set kx ⟨[.bool lf, .str s,mv, .int .i64 m,tv],0⟩) (fun m:Nat=>m<=s.length/\ZO s (ZM l).1 m=j) (fun m:Nat=>s.length-m) i (by rfl) (by rw[YC hk];exact Sub.refl _) ⟨hi,hj.symm⟩ ?_;rintro m ⟨hm1,hm2⟩;have hkm:=AHeap.set_same h kx ⟨[.bool lf, .str s,mv, .int .i64 m,tv],0⟩;have rx:=fun o=>Qy wz hkm o;refine qK ?_;refine Zn [0,3,20] mixed (by kernel_rfl) (by rfl) (by rfl) fun K hK=>?_;simp+decide only[qa,ev,putD,Slots.put,Slots.get,Slots.keep,if_true,if_false,true_and,↓qh,qc,↓Qk,qM,Qn,↓qC,qm,Wu,↓qG,qY,qy ag3,Ug,YZ,qy ag9,↓Xo,QD,YK Tryz.underlying9,↓qA,ql,qR,cond_false,qo,XP,List.getD_cons_zero,List.getD_cons_succ,Nat.zero_add,qi,qE,rx];apply hK;clear hK K;refine qJ (b:=_) rfl (fun hb1=>?_) (fun hb1=>?_)
 ·try simp only[decide_eq_true_eq]at hb1
  have hml:m<s.length:=by omega
  refine qP ?_;change Awp _ _ _ _ _ _ _;refine Ql ?_;refine qK ?_;refine Ql ?_;refine awp_rseq [0,3,21] (by rfl) fun K hK=>?_;simp+decide only[ev,putD,Slots.put,Slots.get,if_true,if_false,true_and,↓qh,qc];refine qN (V:= .int .u8 (Qo s m).toNat) (by rfl) (by rfl) (qcj wz _ kx lf s mv tv m hkm (by omega)) ?_;simp+decide only[qa,ev,qH,qF,putD,Slots.put,Slots.get,Slots.keep,if_true,if_false,true_and,↓qA,ql,qB,cond_false,qo,XR,↓qd,qb];apply hK;clear hK K;refine qJ (b:=_) rfl (fun hb2=>?_) (fun hb2=>?_)
  ·try simp only[decide_eq_true_eq]at hb2
   refine qP ?_;change Awp _ _ _ _ _ _ _;refine XA [0,3] (by rfl) ?_;simp+decide only[ev,qH,qF,putD,Slots.put,Slots.get,if_true,if_false,true_and,↓qh,qc,↓Qk,qM,Qn,↓qC,qm,Wu,↓qG,qY,qy ag3,↓qA,ql,qB,cond_false,qo,QY,List.getD_cons_zero,List.getD_cons_succ,Nat.zero_add,qi,rx];try simp(disch:=omega)only[wrap_i64]
   refine qp (by rfl) (by rfl) zqA sz3 (by rfl) (by rfl) zqD (Nat.zero_le _) (by rfl) ?_;simp only[AHeap.set_set,AVal.cells];simp+decide only[qa,ev,putD,Slots.get,Slots.keep,if_true,if_false,setAt,List.set_cons_zero,List.set_cons_succ];try simp only[Qg,YO]
   refine⟨m+1,rfl,Sub.refl _,⟨by omega,?_⟩,by omega⟩;rw[<-hm2,qay s (ZM l).1 m,if_neg (by omega),if_pos];unfold skp;first
   |exact .inl ((Zi _ 32).mp hb2)
   |exact .inr ⟨hb3.1.1,hb3.1.2,(Zi _ 32).mp hb3.2⟩
  ·try simp only[decide_eq_false_iff_not]at hb2
   refine awp_rseq [0,3,25] (by rfl) fun K hK=>?_;simp+decide only[ev,putD,Slots.put,Slots.get,if_true,if_false,true_and,↓qh,qc,↓YA,XU,Yi,↓Xf,agP,Qs,qL,qI,qz,implies_true]
   (refine Zb (V:= .int .u8 (Qo s m).toNat) (f:=_) (cap:=_) (xs:=_) (by first|rfl|(simp+decide only[gv,qL,Slots.get,if_true,if_false,QZ,qI])) (fun hg=>⟨rfl,?_⟩) (fun hg=>qcj wz _ kx lf s mv tv m hkm (by omega)) ?_;· (simp+decide only[gv,qL,Slots.get,if_true,if_false,qz]at hg;simp+decide only[evs,ev,Slots.get,if_true,if_false,hg,Qv,List.append_nil,List.map_cons,List.map_nil,qH,qF]<;>try rfl))
   try simp+decide only[putD,Slots.put,Slots.get,if_true,if_false,gv,qL,qz]
   (refine Zb (V:= .bool (sepB (Qo s m))) (f:=_) (cap:=_) (xs:=_) (by first|rfl|(simp+decide only[gv,qL,Slots.get,if_true,if_false,QZ,qI])) (fun hg=>⟨rfl,?_⟩) (fun hg=>c_sep wz _ _) ?_;· (simp+decide only[gv,qL,Slots.get,if_true,if_false,qz]at hg;simp+decide only[evs,ev,Slots.get,if_true,if_false,hg,Qv,List.append_nil,List.map_cons,List.map_nil]<;>try rfl))
   simp+decide only[ev,qH,qF,putD,Slots.put,Slots.get,if_true,if_false,true_and,gv,qL,qz,↓QT,Qu,Qh,Xg,Xp,↓qh,qc,↓Xf,agP,Qs,qI,implies_true]
   (refine Zb (V:= .int .u8 (Qo s (m+1)).toNat) (f:=_) (cap:=_) (xs:=_) (by first|rfl|(simp+decide only[gv,qL,Slots.get,if_true,if_false,QZ,qI])) (fun hg=>⟨rfl,?_⟩) (fun hg=>Uw wz _ kx lf s mv tv m 1 hkm (by omega) (by omega) (by omega)) ?_;· (simp+decide only[gv,qL,Slots.get,if_true,if_false,qz]at hg;simp+decide only[evs,ev,Slots.get,if_true,if_false,hg,Qv,List.append_nil,List.map_cons,List.map_nil,qH,qF]<;>try rfl))
   simp+decide only[qa,ev,qH,qF,putD,Slots.put,Slots.get,Slots.keep,if_true,if_false,true_and,gv,qL,qz,↓Xb,ql,agP,Qs,qI,implies_true,qB,cond_false,Zc,Zd,qo,XR,↓QT,Qu,Qh,Xg,Xp,↓qd,qb];apply hK;clear hK K;refine qJ (b:=_) rfl (fun hb3=>?_) (fun hb3=>?_)
   ·try simp only[decide_eq_true_eq,Bool.not_eq_true',Bool.and_eq_true]at hb3
    refine qP ?_;change Awp _ _ _ _ _ _ _;refine XA [0,3] (by rfl) ?_;simp+decide only[ev,qH,qF,putD,Slots.put,Slots.get,if_true,if_false,true_and,↓qh,qc,↓Qk,qM,Qn,↓qC,qm,Wu,↓qG,qY,qy ag3,↓qA,ql,qB,cond_false,qo,QY,List.getD_cons_zero,List.getD_cons_succ,Nat.zero_add,qi,rx];try simp(disch:=omega)only[wrap_i64]
    refine qp (by rfl) (by rfl) zqA sz3 (by rfl) (by rfl) zqD (Nat.zero_le _) (by rfl) ?_;simp only[AHeap.set_set,AVal.cells];simp+decide only[qa,ev,putD,Slots.get,Slots.keep,if_true,if_false,setAt,List.set_cons_zero,List.set_cons_succ];try simp only[Qg,YO]
    refine⟨m+1,rfl,Sub.refl _,⟨by omega,?_⟩,by omega⟩;rw[<-hm2,qay s (ZM l).1 m,if_neg (by omega),if_pos];unfold skp;first
    |exact .inl ((Zi _ 32).mp hb2)
    |exact .inr ⟨hb3.1.1,hb3.1.2,(Zi _ 32).mp hb3.2⟩
   ·try simp only[decide_eq_false_iff_not,Bool.not_eq_false',Bool.and_eq_false_iff]at hb3
    refine Xy ?_;change Awp _ _ _ _ _ _ _;refine Zn [2] mixed (by kernel_rfl) (by rfl) (by rfl) fun K hK=>?_;simp+decide only[qa,ev,putD,Slots.put,Slots.get,Slots.keep,if_true,if_false,true_and,↓qh,qc,↓Qk,qM,Qn,↓qC,qm,Wu,↓qG,qY,qy ag3,Ug,YZ,qy ag9,↓Xo,QD,YK Tryz.underlying9,↓qA,ql,qR,cond_false,qo,XP,↓qd,qb,List.getD_cons_zero,List.getD_cons_succ,Nat.zero_add,qi,qE,rx];apply hK;clear hK K;refine qO ?_;try simp only[YY]
    refine QR (qZ (Qd)) ?_;simp+decide only[Slots.get,if_true,Qr];have hns:¬skp s (ZM l).1 m:=by
     unfold skp;rintro(q|⟨q1,q2,q3⟩)
     ·exact hb2 ((Zi _ 32).mpr q)
     ·rcases hb3 with(q|q)|q
      ·rw[q1]at q;cases q
      ·rw[q2]at q;cases q
      ·exact q ((Zi _ 32).mpr q3)
    have e:m=j:=by
     rw[<-hm2,qay,if_neg (by omega),if_neg hns]
    rw[e];exact⟨_,Sub.refl _,by simp,rfl⟩
 ·try simp only[decide_eq_false_iff_not]at hb1
  refine Xy ?_;change Awp _ _ _ _ _ _ _;refine Zn [2] mixed (by kernel_rfl) (by rfl) (by rfl) fun K hK=>?_;simp+decide only[qa,ev,putD,Slots.put,Slots.get,Slots.keep,if_true,if_false,true_and,↓qh,qc,↓Qk,qM,Qn,↓qC,qm,Wu,↓qG,qY,qy ag3,Ug,YZ,qy ag9,↓Xo,QD,YK Tryz.underlying9,↓qA,ql,qR,cond_false,qo,XP,↓qd,qb,List.getD_cons_zero,List.getD_cons_succ,Nat.zero_add,qi,qE,rx];apply hK;clear hK K;refine qO ?_;try simp only[YY]
  refine QR (qZ (Qd)) ?_;simp+decide only[Slots.get,if_true,Qr];have e:m=j:=by
   rw[<-hm2,qay,if_pos (by omega)]
  rw[e];exact⟨_,Sub.refl _,by simp,rfl⟩
end Go.Proofs.YtlhhaagmakhilaaGreatDoor
namespace Go.Proofs.YtlhhaagmakhilaaGreatDoor
open Go.AM
open Go.Proofs
open Go.Col
open Go.Tok
open Go.RowKit (Below)
set_option maxRecDepth 100000
def tok0:List AVal:=[.int .u8 0, .str [], .int .i64 0, .int .i64 0, .bool false]
theorem qbR:∀(s:Str) (c:UInt8),decide (0<=Lib.indexByte s c)=s.contains c
 |[],c=>rfl
 |b::s,c=>by
  have ih:=qbR s c;rw[List.contains_cons,<-ih,Lib.indexByte];by_cases h:b=c
  ·subst h
   simp
  ·have h1:(b==c)=false:=by simp[h]
   have h2:(c==b)=false:=by simp[Ne.symm h]
   rw[h1,h2,if_neg (by decide),Bool.false_or];apply decide_eq_decide.2;by_cases e:Lib.indexByte s c= -1
   ·rw[e,if_pos (by decide)]
   ·rw[if_neg (by simpa using e)]
    have: -1<=Lib.indexByte s c:=by
     clear ih h h1 h2 e b;induction s with
     |nil=>show(-1:Int)<= -1;decide
     |cons b s ih=>
      rw[Lib.indexByte];split
      ·decide
      ·split
       ·decide
       ·omega
    omega
theorem c_hasQ(wz:World)(h:AHeap)(s:Str)(c:UInt8):ACall Tryz.prog wz 134 [.str s, .str [c]] h (fun v h'=>v= .bool (s.contains c)/\h'=h):=by
 refine ZT (vals:=[.string ⟨⟨s⟩⟩, .string ⟨⟨[c]⟩⟩]) (val:= .bool (s.contains c)) Tryz.func134 rfl rfl (fun fi vs hv=>qew hv) (fun fi=>rfl) fun w=>?_;refine(Tryz.strings_Contains_one ⟨⟨s⟩⟩ c w).mono fun e w' ⟨e1,e2⟩=>⟨?_,?_⟩
 ·rw[e1]
  show Ending.returned (.bool (decide (0<=Lib.indexByte s c)))=_
  rw[qbR]
 ·subst e2;exact Go.RowKit.Below.refl _ _
theorem c_pref(wz:World)(h:AHeap)(s g:Str):ACall Tryz.prog wz 95 [.str s, .str g] h (fun v h'=>v= .bool (g.isPrefixOf s)/\h'=h):=by
 refine ZT (vals:=[.string ⟨⟨s⟩⟩, .string ⟨⟨g⟩⟩]) (val:= .bool (g.isPrefixOf s)) Tryz.func95 rfl rfl (fun fi vs hv=>qew hv) (fun fi=>rfl) fun w=>?_;refine(Tryz.strings_HasPrefix ⟨⟨s⟩⟩ ⟨⟨g⟩⟩ w).mono fun e w' ⟨e1,e2⟩=>⟨e1,?_⟩
 subst e2;exact Go.RowKit.Below.refl _ _
theorem f_digit(wz:World):IsFn wz 136 Yn:=fun g b=>c_digitT wz g b
theorem f_wordy(wz:World):IsFn wz 111 ZH:=fun g b=>c_wordy wz g b
theorem f_ends(wz:World):IsFn wz 131 qau:=by
 intro h b;refine qU (n:=9) (rs:=[.tmp 2]) Tryz.func131 rfl rfl rfl rfl (Nat.le_of_ble_eq_true rfl) ?_;simp only[Qe];refine awp_rseq [0] (by rfl) fun K hK=>?_;simp+decide only[qa,ev,qH,qF,putD,Slots.put,Slots.keep,if_true,if_false,true_and,↓qd,qb];apply hK;clear hK K;refine awp_rseq [2] (by rfl) fun K hK=>?_;simp+decide only[ev,qH,qF,putD,Slots.put,Slots.get,if_true,if_false,true_and,↓qh,qc,↓qA,ql,qB,cond_false,qo,XR,↓Xf,agP,Qs,qL,qI,Qf,implies_true]
 (refine Zb (V:= .bool (sepB b)) (f:=_) (cap:=_) (xs:=_) (by first|rfl|(simp+decide only[gv,qL,Slots.get,if_true,if_false,QZ,qI])) (fun hg=>⟨rfl,?_⟩) (fun hg=>c_sep wz _ b) ?_;· (simp+decide only[gv,qL,Slots.get,if_true,if_false,Qf]at hg;simp+decide only[evs,ev,Slots.get,if_true,if_false,hg,Qv,List.append_nil,List.map_cons,List.map_nil]<;>try rfl))
 simp+decide only[qa,ev,qH,qF,putD,Slots.put,Slots.get,Slots.keep,if_true,if_false,true_and,gv,qL,Qf,↓QT,Qu,Qh,Zh,ZK,↓qd,qb];apply hK;clear hK K;refine qO ?_;refine Qa _ (Sub.refl _) (qZ (Qd)) ?_;simp+decide only[Slots.get,if_true,and_true,Qr];have e1:decide ((b.toNat:Int)=46)=decide (b=46):=decide_eq_decide.2 (iff_of_eq (Zi b 46));unfold qau;rw[e1]
theorem f_nsp(wz:World):IsFn wz 133 (fun b=> !decide (b=32)):=by
 intro h b;refine qU (n:=5) (rs:=[.tmp 2]) Tryz.func133 rfl rfl rfl rfl (Nat.le_of_ble_eq_true rfl) ?_;simp only[Qe];refine awp_rseq [0] (by rfl) fun K hK=>?_;simp+decide only[qa,ev,qH,qF,putD,Slots.put,Slots.keep,if_true,if_false,true_and,↓qd,qb];apply hK;clear hK K;refine awp_rseq [2] (by rfl) fun K hK=>?_;simp+decide only[qa,ev,qH,qF,putD,Slots.put,Slots.get,Slots.keep,if_true,if_false,true_and,↓qh,qc,↓qA,ql,qB,cond_false,qo,qag,↓qd,qb];apply hK;clear hK K;refine qO ?_;refine Qa _ (Sub.refl _) (qZ (Qd)) ?_;simp+decide only[Slots.get,if_true,and_true,Qr];have e1:decide ((b.toNat:Int)=32)=decide (b=32):=decide_eq_decide.2 (iff_of_eq (Zi b 32));rw[<-e1]
theorem pictureE_no{s:Str}{i:Nat}{is:Bool}(hc:¬(is=true/\YG [Qo s i,Qo s (i+1)]=IS/\ZH (Qo s (i+2))=false))(n0:Nat)(hn:n0=WF s i (fun b=> !decide (b=32)))(m:Nat)(hm:(m:Int)=if qau (Qo s ((i:Int)+n0-1))=true then(n0:Int)-1 else n0):
 YR s i is=if m=0\/qau (Qo s ((i:Int)+m-1))=true then .err 4 else if (YG ((s.drop i).take m)).contains 34=true then .err 4 else⟨4,YG ((s.drop i).take m),m,0⟩:=by
 unfold YR;rw[if_neg hc];simp only;rw[<-hn,<-hm,Int.toNat_natCast];by_cases h0:m=0
 ·rw[if_pos (.inl (by omega)),if_pos (.inl h0)]
 ·by_cases h1:qau (Qo s ((i:Int)+m-1))=true
  ·rw[if_pos (.inr h1),if_pos (.inr h1)]
  ·have f1:¬((m:Int)=0\/qau (Qo s ((i:Int)+m-1))=true):=fun q=>q.elim (fun q=>h0 (by omega)) h1
   have f2:¬(m=0\/qau (Qo s ((i:Int)+m-1))=true):=fun q=>q.elim h0 h1;rw[if_neg f1,if_neg f2]
theorem pictureEnd(wz:World)(h B:AHeap)(hs_B:Sub h B)(kx k0q0:Nat)(lf:Bool)(s:Str)(mv tv:AVal)(i:Nat)(is:Bool)(eb_x:B kx=some ⟨[.bool lf, .str s,mv, .int .i64 i,tv],0⟩)(eb_0q0:B k0q0=some ⟨tok0,0⟩)(hf_0q0:h k0q0=none)(ne_0q0_x:k0q0≠kx)(h32:Qo s i≠32)(hs:s.length<=1099511627776)
 (hc:¬(is=true/\YG [Qo s i,Qo s (i+1)]=IS/\ZH (Qo s (i+2))=false)):
 Awp Tryz.prog wz 68 (WP 2 (qcu Tryz.f107)) (qcB Tryz.prog wz [.cell 4 54, .tmp 5, .tmp 6] ((fun r h'=>r=nxR (YR s i is)/\h'=h))) [(0, .ptr (.own kx) 0),(4, .ptr (.own k0q0) 0)] (B):=by
 have hi:=qbJ h32;have hp:=run_pos32 h32;have hrl:=qdd s i (fun b=> !decide (b=32)) (by omega);obtain⟨n0,hn0⟩:∃n0,n0=WF s i (fun b=> !decide (b=32)):=⟨_,rfl⟩
 rw[<-hn0]at hp hrl;unfold tok0 at eb_0q0;change Awp _ _ _ (Code.seq _ _) _ _ _;refine awp_rseq [0,4,7] (by rfl) fun K hK=>?_;simp+decide only[qa,ev,putD,Slots.put,Slots.keep,if_true,if_false,true_and,↓qd,qb];apply hK;clear hK K;refine awp_rseq [0,4,7,8] (by rfl) fun K hK=>?_;simp+decide only[ev,putD,Slots.put,Slots.get,if_true,if_false,true_and,↓qh,qc];refine qN (V:= .int .i64 n0) (by rfl) (by rfl) (by rw[hn0];exact c_run0 wz B kx lf s mv tv i _ _ (f_nsp wz) eb_x (by omega) hs) ?_;simp+decide only[qa,ev,putD,Slots.put,Slots.get,Slots.keep,if_true,if_false,true_and,↓qd,qb];apply hK;clear hK K;refine qK ?_;refine awp_rseq [0,4,7,8,36] (by rfl) fun K hK=>?_;simp+decide only[ev,qH,qF,putD,Slots.put,Slots.get,if_true,if_false,true_and,↓qh,qc,↓qA,ql,qB,cond_false,qo,UH];try simp(disch:=omega)only[wrap_i64]
 refine qN (V:= .int .u8 (Qo s ((i:Int)+n0-1)).toNat) (by rfl) (by rfl) (by have:=Uw wz B kx lf s mv tv i ((n0:Int)-1) eb_x (by omega) (by omega) (by omega);rwa [<-Int.add_sub_assoc]at this) ?_;refine qN (V:= .bool (qau (Qo s ((i:Int)+n0-1)))) (by rfl) (by rfl) (f_ends wz _ _) ?_;simp+decide only[qa,putD,Slots.put,Slots.keep,if_true,if_false];apply hK;clear hK K;refine Ue [0,4,7,8] (fun m:Nat=>[(0, .ptr (.own kx) 0),(4, .ptr (.own k0q0) 0),(7, .func 131 []),(8, .int .i64 m)]) (fun m:Nat=>B) (fun m:Nat=>(m:Int)=if qau (Qo s ((i:Int)+n0-1))=true then(n0:Int)-1 else n0) ?_ ?_
 ·refine qJ (b:=_) rfl (fun hb1=>?_) (fun hb1=>?_)
  ·skip
   refine XA [0,4,7,8] (by rfl) ?_;simp+decide only[qa,ev,qH,qF,putD,Slots.put,Slots.get,Slots.keep,if_true,if_false,true_and,↓qh,qc,↓qA,ql,qB,cond_false,qo,UH,↓qd,qb,nxA,nxR];try simp(disch:=omega)only[wrap_i64]
   try simp only[Qg]
   first
   |exact⟨n0-1,by rw[show((n0-1:Nat):Int)=(n0:Int)-1 by omega];rfl,Sub.refl _,by rw[if_pos hb1];omega⟩
   |exact⟨n0,rfl,Sub.refl _,by rw[if_neg (by rw[hb1];decide)]⟩
  ·skip
   refine qP ?_;try simp only[Qg]
   first
   |exact⟨n0-1,by rw[show((n0-1:Nat):Int)=(n0:Int)-1 by omega];rfl,Sub.refl _,by rw[if_pos hb1];omega⟩
   |exact⟨n0,rfl,Sub.refl _,by rw[if_neg (by rw[hb1];decide)]⟩
 ·intro m hm
  have hm1:m<=n0:=by
   have:(m:Int)<=n0:=by rw[hm];split<;>omega
   omega
  have hpe:=pictureE_no hc n0 hn0 m hm;rw[hpe];refine qK ?_;refine awp_rseq [0,4,8,48] (by rfl) fun K hK=>?_;simp+decide only[ev,qH,qF,putD,Slots.put,Slots.get,if_true,if_false,true_and,↓qh,qc,↓qA,ql,qB,cond_false,qo,XR,↓Xf,agP,Qs,qL,qI,Qf,implies_true,↓Xb,Zc,Zd,UH];try simp(disch:=omega)only[wrap_i64]
  (refine Zb (V:= .int .u8 (Qo s ((i:Int)+m-1)).toNat) (f:=_) (cap:=_) (xs:=_) (by first|rfl|(simp+decide only[gv,qL,Slots.get,if_true,if_false,QZ,qI])) (fun hg=>⟨rfl,?_⟩) (fun hg=>by have:=Uw wz B kx lf s mv tv i ((m:Int)-1) eb_x (by omega) (by omega) (by omega);rwa [<-Int.add_sub_assoc]at this) ?_;· (simp+decide only[gv,qL,Slots.get,if_true,if_false,Qf]at hg;simp+decide only[evs,ev,Slots.get,if_true,if_false,hg,Qv,List.append_nil,List.map_cons,List.map_nil]<;>try rfl))
  try simp+decide only[putD,Slots.put,Slots.get,if_true,if_false,gv,qL,Qf]
  (refine Zb (V:= .bool (qau (Qo s ((i:Int)+m-1)))) (f:=_) (cap:=_) (xs:=_) (by first|rfl|(simp+decide only[gv,qL,Slots.get,if_true,if_false,QZ,qI])) (fun hg=>⟨by(try simp+decide only[gv,qL,Slots.get,if_true,if_false,Qf]at hg);simp+decide only[ev,Slots.get,if_true,if_false,hg,Qv];try rfl,?_⟩) (fun hg=>f_ends wz _ _) ?_;· (simp+decide only[gv,qL,Slots.get,if_true,if_false,Qf]at hg;simp+decide only[evs,ev,Slots.get,if_true,if_false,hg,Qv,List.append_nil,List.map_cons,List.map_nil]<;>try rfl))
  simp+decide only[qa,ev,qH,qF,putD,Slots.put,Slots.get,Slots.keep,if_true,if_false,true_and,gv,qL,Qf,↓QT,Qu,Qh,Zh,ZK];apply hK;clear hK K;refine qJ (b:=_) rfl (fun hb2=>?_) (fun hb2=>?_)
  ·try simp only[decide_eq_true_eq,Bool.or_eq_true]at hb2
   have hb2':m=0\/qau (Qo s ((i:Int)+m-1))=true:=hb2.imp (fun q=>by omega) id;rw[if_pos hb2'];refine awp_rseq [4,5,6] (by rfl) fun K hK=>?_;simp+decide only[ev,qH,qF,putD,Slots.put,Slots.get,if_false,true_and,↓Qp,↓qW,qba,evP,List.map_nil];refine qp (by rfl) (by rfl) zqA Xa (by rfl) (by rfl) zqD (Nat.zero_le _) (by rfl) ?_;simp only[AVal.cells];simp+decide only[qa,ev,qH,qF,putD,Slots.put,Slots.get,Slots.keep,if_true,if_false,true_and,↓qd,qb,setAt,List.set_cons_zero,List.set_cons_succ,Nat.zero_add,Nat.reduceAdd];apply hK;clear hK K;refine qO ?_;try simp only[Qi]
   refine Qa h zqC (?_) ?_
   ·simp+decide only[QE,qw,qj,Slots.get,if_true,if_false,and_true,qw,qj,qg Zf Xa,Qc,qf,List.getD_cons_zero,List.getD_cons_succ,Nat.zero_add,Nat.reduceAdd,qD,qi,qE,allLive,Bool.and_true,qf,List.getD_cons_zero,List.getD_cons_succ,Nat.zero_add,Nat.reduceAdd,qD,qi,qE,allLive,Bool.and_true]
   simp+decide only[Slots.get,if_true,if_false,and_true,QF,qw,qj,qg Zf Xa,Qc,qf,List.getD_cons_zero,List.getD_cons_succ,Nat.zero_add,Nat.reduceAdd,qD,qi,qE,allLive,Bool.and_true,qf,List.getD_cons_zero,List.getD_cons_succ,Nat.zero_add,Nat.reduceAdd,qD,qi,qE,allLive,Bool.and_true,nxA,nxR];all_goals first|rfl|exact⟨rfl,rfl⟩|(simp+decide only[if_true,if_false, *];done)|(trace_state;fail)
  ·try simp only[decide_eq_false_iff_not,Bool.or_eq_false_iff]at hb2
   have hb2':¬(m=0\/qau (Qo s ((i:Int)+m-1))=true):=fun q=>q.elim (fun q=>hb2.1 (by omega)) (fun q=>by rw[hb2.2]at q;cases q);rw[if_neg hb2'];refine qP ?_;change Awp _ _ _ _ _ _ _;refine awp_rseq [4,8,9,10] (by rfl) fun K hK=>?_;simp+decide only[ev,putD,Slots.put,Slots.get,if_true,if_false,true_and,↓qh,qc];refine qN (V:=nxR (takeE s i 4 m)) (by rfl) (by rfl) (qeW wz B kx lf s mv tv i m 4 eb_x (by omega) hs) ?_;simp+decide only[ev,putD,Slots.put,Slots.get,if_true,if_false,true_and,↓qh,qc,↓QW,QH,QS,List.length_cons,List.length_nil,List.getD_cons_zero,List.getD_cons_succ,List.getD_cons_zero,List.getD_cons_succ,Nat.zero_add,Nat.reduceAdd,nxA,nxR];refine Qj qam (cs:=[.int .u8 0, .str [], .int .i64 0, .int .i64 0, .bool false]) (by rfl) fun k9q7 hk9q7=>?_;have hn_9q7:B k9q7=none:=by first|assumption|(simp only[AHeap.set_none]at hk9q7;simp only[hk9q7])
   have hf_9q7:h k9q7=none:=Sub.none hs_B hn_9q7;have ne_9q7_x:k9q7≠kx:=AHeap.ne_some hn_9q7 eb_x;have ne_9q7_0q0:k9q7≠k0q0:=AHeap.ne_some hn_9q7 eb_0q0;refine qp (by rfl) (by rfl) zqA Xa (by rfl) (by rfl) zqD (Nat.zero_le _) (by rfl) ?_;simp only[AHeap.set_set,AVal.cells];simp+decide only[qa,ev,putD,Slots.put,Slots.get,Slots.keep,if_true,if_false,true_and,↓qd,qb,setAt,List.set_cons_zero,List.set_cons_succ,Nat.zero_add,Nat.reduceAdd];apply hK;clear hK K;refine awp_rseq [4,8,9,10] (by rfl) fun K hK=>?_;simp+decide only[ev,putD,Slots.put,Slots.get,if_true,if_false,true_and,↓qC,qm,UI,↓qG,qY,qy ag9,QP,List.getD_cons_zero,List.getD_cons_succ,Nat.zero_add,qE];refine qN (V:= .str (YG ((s.drop i).take m))) (by rfl) (by rfl) (by rw[<-fold_eq];exact c_fold wz _ ((s.drop i).take m) (by rw[List.length_take];omega)) ?_;simp+decide only[ev,putD,Slots.put,Slots.get,if_true,if_false,true_and,↓qC,qm,UI,Nat.zero_add];refine qp (by rfl) (by rfl) zqA sz9 (by rfl) (by rfl) zqD (Nat.zero_le _) (by rfl) ?_;simp only[AHeap.set_set,AVal.cells];simp+decide only[qa,ev,putD,Slots.get,Slots.keep,if_true,if_false,setAt,List.set_cons_zero,List.set_cons_succ];apply hK;clear hK K;refine qK ?_;refine awp_rseq [4,8,9,10,63] (by rfl) fun K hK=>?_;simp+decide only[ev,putD,Slots.put,Slots.get,if_true,if_false,true_and,↓qC,qm,UI,↓qG,qY,qy ag9,QP,List.getD_cons_zero,List.getD_cons_succ,Nat.zero_add,qE];refine qN (V:= .bool ((YG ((s.drop i).take m)).contains 34)) (by rfl) (by rfl) (c_hasQ wz _ _ 34) ?_;simp+decide only[qa,putD,Slots.put,Slots.keep,if_true,if_false];apply hK;clear hK K;refine qJ (b:=_) rfl (fun hb3=>?_) (fun hb3=>?_)
   ·skip
    refine awp_rseq [4,5,6] (by rfl) fun K hK=>?_;simp+decide only[ev,qH,qF,putD,Slots.put,Slots.get,if_false,true_and,↓Qp,↓qW,qba,evP,List.map_nil];refine qp (by rfl) (by rfl) zqA Xa (by rfl) (by rfl) zqD (Nat.zero_le _) (by rfl) ?_;simp only[AVal.cells];simp+decide only[qa,ev,qH,qF,putD,Slots.put,Slots.get,Slots.keep,if_true,if_false,true_and,↓qd,qb,setAt,List.set_cons_zero,List.set_cons_succ,Nat.zero_add,Nat.reduceAdd];apply hK;clear hK K;refine qO ?_;try simp only[Qi]
    refine Qa h zqC (?_) ?_
    ·simp+decide only[QE,qw,qj,Slots.get,if_true,if_false,and_true,qw,qj,qg Zf Xa,Qc,qf,List.getD_cons_zero,List.getD_cons_succ,Nat.zero_add,Nat.reduceAdd,qD,qi,qE,allLive,Bool.and_true,qf,List.getD_cons_zero,List.getD_cons_succ,Nat.zero_add,Nat.reduceAdd,qD,qi,qE,allLive,Bool.and_true]
    simp+decide only[Slots.get,if_true,if_false,and_true,QF,qw,qj,qg Zf Xa,Qc,qf,List.getD_cons_zero,List.getD_cons_succ,Nat.zero_add,Nat.reduceAdd,qD,qi,qE,allLive,Bool.and_true,qf,List.getD_cons_zero,List.getD_cons_succ,Nat.zero_add,Nat.reduceAdd,qD,qi,qE,allLive,Bool.and_true,nxA,nxR];rw[if_pos hb3];rfl
   ·skip
    refine qP ?_;change Awp _ _ _ _ _ _ _;refine awp_rseq [4,5,6] (by rfl) fun K hK=>?_;simp+decide only[ev,putD,Slots.put,Slots.get,if_true,if_false,true_and,↓qG,qY,qg Zf Xa,↓qh,qc,QP,qf,List.getD_cons_zero,List.getD_cons_succ,Nat.zero_add,Nat.reduceAdd,qD,qi,qE,allLive,Bool.and_true];refine qp (by rfl) (by rfl) zqA Xa (by rfl) (by rfl) zqD (Nat.zero_le _) (by rfl) ?_;simp only[AVal.cells];simp+decide only[qa,ev,putD,Slots.put,Slots.get,Slots.keep,if_true,if_false,true_and,↓qd,qb,setAt,List.set_cons_zero,List.set_cons_succ,Nat.zero_add,Nat.reduceAdd];apply hK;clear hK K;refine qO ?_;refine Qa h zqC (?_) ?_
    ·simp+decide only[QE,qw,qj,Slots.get,if_true,if_false,and_true,qw,qj,qg Zf Xa,Qc,qf,List.getD_cons_zero,List.getD_cons_succ,Nat.zero_add,Nat.reduceAdd,qD,qi,qE,allLive,Bool.and_true,qf,List.getD_cons_zero,List.getD_cons_succ,Nat.zero_add,Nat.reduceAdd,qD,qi,qE,allLive,Bool.and_true]
    simp+decide only[Slots.get,if_true,if_false,and_true,QF,qw,qj,qg Zf Xa,Qc,qf,List.getD_cons_zero,List.getD_cons_succ,Nat.zero_add,Nat.reduceAdd,qD,qi,qE,allLive,Bool.and_true,qf,List.getD_cons_zero,List.getD_cons_succ,Nat.zero_add,Nat.reduceAdd,qD,qi,qE,allLive,Bool.and_true,nxA,nxR];rw[if_neg (by rw[hb3];decide)];rfl
end Go.Proofs.YtlhhaagmakhilaaGreatDoor
namespace Go.Proofs.YtlhhaagmakhilaaGreatDoor
open Go.AM
open Go.Proofs
open Go.Col
open Go.Tok
open Go.RowKit (Below)
set_option maxRecDepth 100000
theorem c_pictureF(wz:World)(h:AHeap)(kx:Nat)(lf:Bool)(s:Str)(mv tv:AVal)(i:Nat)(eb_x:h kx=some ⟨[.bool lf, .str s,mv, .int .i64 i,tv],0⟩)(h32:Qo s i≠32)(hs:s.length<=1099511627776):
 ACall Tryz.prog wz 107 [.ptr (.own kx) 0, .bool false] h (fun r h'=>r=nxR (YR s i false)/\h'=h):=by
 have hs_h:Sub h h:=Sub.refl h;refine qU (n:=68) (rs:=[.cell 4 54, .tmp 5, .tmp 6]) Tryz.func107 rfl rfl rfl rfl (Nat.le_of_ble_eq_true rfl) ?_;simp only[Qe];refine awp_rseq [0,1,4] (by rfl) fun K hK=>?_;refine Qj qam (cs:=[.int .u8 0, .str [], .int .i64 0, .int .i64 0, .bool false]) (by rfl) fun k0q0 hk0q0=>?_;have hn_0q0:h k0q0=none:=by first|assumption|(simp only[AHeap.set_none]at hk0q0;simp only[hk0q0])
 have hf_0q0:h k0q0=none:=Sub.none hs_h hn_0q0;have ne_0q0_x:k0q0≠kx:=AHeap.ne_some hn_0q0 eb_x;simp+decide only[qa,ev,qH,qF,putD,Slots.put,Slots.keep,if_true,if_false,true_and,↓qd,qb,Nat.zero_add];apply hK;clear hK K;refine qK ?_;refine awp_rseq [0,4,27] (by rfl) fun K hK=>?_;simp+decide only[ev,putD,Slots.put,Slots.get,if_true,if_false,true_and,↓qh,qc,↓Xf,agP,Qs,qL,qI,qz,implies_true,ZC];refine UT (by rfl) (by rfl) ?_;simp+decide only[ev,putD,Slots.put,Slots.get,if_true,if_false,true_and,qL,qz,↓Xf,qc,agP,Qs,qI,implies_true,ZC];refine UT (by rfl) (by rfl) ?_;try simp+decide only[putD,Slots.put,if_false]
 refine UT (by rfl) (by rfl) ?_;try simp+decide only[putD,Slots.put,if_false]
 refine UT (by rfl) (by rfl) ?_;try simp+decide only[putD,Slots.put,if_false]
 refine UT (by rfl) (by rfl) ?_;simp+decide only[ev,qH,qF,putD,Slots.put,Slots.get,if_true,if_false,true_and,qL,qz,↓Xb,ql,agP,Qs,qI,implies_true,ZC,false_implies,qdW,Ym,cond_false,↓QT,Qu,Qh,↓qh,qc,↓Xf]
 (refine UT (by rfl) (by rfl) ?_)
 try simp+decide only[putD,Slots.put,if_false]
 (refine UT (by rfl) (by rfl) ?_)
 simp+decide only[qa,ev,qH,qF,putD,Slots.put,Slots.get,Slots.keep,if_true,if_false,true_and,qL,qz,↓qcm,XU,agP,Qs,qI,ZC,false_implies,qdW,↓QT,Qu,Qh];apply hK;clear hK K;refine qJ (b:=_) rfl (fun hb1=>?_) (fun hb1=>?_)
 ·exact absurd hb1 (by decide)
 ·try simp only at hb1
  refine qP ?_;change Awp _ _ _ _ _ _ _;refine Awp.keep [0,4] ?_;exact pictureEnd wz h _ (Sub.set hk0q0) kx k0q0 lf s mv tv i false (zqA) (zqA) hk0q0 ne_0q0_x h32 hs (by rintro⟨q,_⟩;cases q)
theorem c_pictureT(wz:World)(h:AHeap)(kx:Nat)(lf:Bool)(s:Str)(mv tv:AVal)(i:Nat)(eb_x:h kx=some ⟨[.bool lf, .str s,mv, .int .i64 i,tv],0⟩)(h32:Qo s i≠32)(hs:s.length<=1099511627776):
 ACall Tryz.prog wz 107 [.ptr (.own kx) 0, .bool true] h (fun r h'=>r=nxR (YR s i true)/\h'=h):=by
 have hs_h:Sub h h:=Sub.refl h;have hi:=qbJ h32;have hcv:=fun(h:AHeap) (k:Nat)=>(IsB.own (wz:=wz) (bs:=[Qo s i,Qo s (i+1)]) (f:=0) (n:=2) (AHeap.set_same h k ⟨byteCells [Qo s i,Qo s (i+1)],0⟩) rfl (c:= .exact 2) (Nat.le_refl 2)).conv Tryz.underlying22 Tryz.underlying9 Tryz.underlying5
 simp only[byteCells,List.map_cons,List.map_nil]at hcv;refine qU (n:=68) (rs:=[.cell 4 54, .tmp 5, .tmp 6]) Tryz.func107 rfl rfl rfl rfl (Nat.le_of_ble_eq_true rfl) ?_;simp only[Qe];refine awp_rseq [0,1,4] (by rfl) fun K hK=>?_;refine Qj qam (cs:=[.int .u8 0, .str [], .int .i64 0, .int .i64 0, .bool false]) (by rfl) fun k0q0 hk0q0=>?_;have hn_0q0:h k0q0=none:=by first|assumption|(simp only[AHeap.set_none]at hk0q0;simp only[hk0q0])
 have hf_0q0:h k0q0=none:=Sub.none hs_h hn_0q0;have ne_0q0_x:k0q0≠kx:=AHeap.ne_some hn_0q0 eb_x;simp+decide only[qa,ev,qH,qF,putD,Slots.put,Slots.keep,if_true,if_false,true_and,↓qd,qb,Nat.zero_add];apply hK;clear hK K;refine qK ?_;refine awp_rseq [0,4,27] (by rfl) fun K hK=>?_;simp+decide only[ev,putD,Slots.put,Slots.get,if_true,if_false,true_and,↓qh,qc,↓Xf,agP,Qs,qL,qI,qz,implies_true,Qv,Qv];refine Yv (by rfl) ?_;refine qN (V:= .int .u8 (Qo s i).toNat) (by rfl) (by rfl) (qcj wz _ kx lf s mv tv i (zqA) (by omega)) ?_;simp+decide only[ev,putD,Slots.put,Slots.get,if_true,if_false,true_and,↓Xf,qc,agP,Qs,qL,qI,qz,implies_true,Qv,Qv];refine Yv (by rfl) ?_;refine qN (V:= .int .u8 (Qo s (i+1)).toNat) (by rfl) (by rfl) (Uw wz _ kx lf s mv tv i 1 (zqA) (by omega) (by omega) (by omega)) ?_;refine Yv (by rfl) ?_;refine Qm (cs:=[.int .u8 (Qo s i).toNat, .int .u8 (Qo s (i+1)).toNat]) (by kernel_rfl) fun k1q6 hk1q6=>?_;have ne_1q6_0q0:k1q6≠k0q0:=by simp only[AHeap.set_none]at hk1q6;simp only[hk1q6,ne_eq,not_false_eq_true]
 have hn_1q6:h k1q6=none:=by first|assumption|(simp only[AHeap.set_none]at hk1q6;simp only[hk1q6])
 have hf_1q6:h k1q6=none:=Sub.none hs_h hn_1q6;have ne_1q6_x:k1q6≠kx:=AHeap.ne_some hn_1q6 eb_x;simp+decide only[ev,putD,Slots.put,Slots.get,if_true,if_false,true_and,↓ag_convert _ _ _ (es_str Tryz.underlying22 Tryz.underlying9),qcg,agP,Qs,qL,qI,qz,implies_true,Qv,Qv,hcv];refine Yv (by rfl) ?_;refine qN (V:= .str (YG [Qo s i,Qo s (i+1)])) (by rfl) (by rfl) (by rw[<-fold_eq];exact c_fold wz _ [Qo s i,Qo s (i+1)] (by simp)) ?_;simp+decide only[ev,qH,qF,putD,Slots.put,Slots.get,if_true,if_false,true_and,↓Xb,ql,agP,Qs,qL,qI,qz,implies_true,Qv,Ym,cond_false,XZ,qfA,↓QT,Qu,Qh,↓qh,qc,↓Xf,Qv,YI,cond_true,cond_false]
 (refine Zb (V:= .int .u8 (Qo s (i+2)).toNat) (f:=_) (cap:=_) (xs:=_) (by first|rfl|(simp+decide only[gv,qL,Slots.get,if_true,if_false,QZ,qI])) (fun hg=>⟨rfl,?_⟩) (fun hg=>Uw wz _ kx lf s mv tv i 2 (zqA) (by omega) (by omega) (by omega)) ?_;· (simp+decide only[gv,qL,Slots.get,if_true,if_false,qz]at hg;simp+decide only[evs,ev,Slots.get,if_true,if_false,hg,Qv,List.append_nil,List.map_cons,List.map_nil,qH,qF]<;>try rfl))
 try simp+decide only[putD,Slots.put,Slots.get,if_true,if_false,gv,qL,qz]
 (refine Zb (V:= .bool (ZH (Qo s (i+2)))) (f:=_) (cap:=_) (xs:=_) (by first|rfl|(simp+decide only[gv,qL,Slots.get,if_true,if_false,QZ,qI])) (fun hg=>⟨rfl,?_⟩) (fun hg=>c_wordy wz _ _) ?_;· (simp+decide only[gv,qL,Slots.get,if_true,if_false,qz]at hg;simp+decide only[evs,ev,Slots.get,if_true,if_false,hg,Qv,List.append_nil,List.map_cons,List.map_nil]<;>try rfl))
 simp+decide only[qa,ev,qH,qF,putD,Slots.put,Slots.get,Slots.keep,if_true,if_false,true_and,gv,qL,qz,↓qcm,XU,agP,Qs,qI,implies_true,Yi,cv_un,cp_un,↓QT,Qu,Qh,Xg,YI];apply hK;clear hK K;refine qJ (b:=_) rfl (fun hb1=>?_) (fun hb1=>?_)
 ·skip
  refine awp_rseq [4,5,6] (by rfl) fun K hK=>?_;simp+decide only[ev,qH,qF,putD,Slots.put,Slots.get,if_false,true_and,↓Qp,↓qW,UD,evP,List.map_cons,List.map_nil];refine qp (by rfl) (by rfl) zqA Xa (by rfl) (by rfl) zqD (Nat.zero_le _) (by rfl) ?_;simp only[AVal.cells];simp+decide only[qa,ev,qH,qF,putD,Slots.put,Slots.get,Slots.keep,if_true,if_false,true_and,↓qd,qb,setAt,List.set_cons_zero,List.set_cons_succ,Nat.zero_add,Nat.reduceAdd];apply hK;clear hK K;refine qO ?_;try simp only[Qi]
  refine Qa h zqC (?_) ?_
  ·simp+decide only[QE,qw,qj,Slots.get,if_true,if_false,and_true,qw,qj,qg Zf Xa,Qc,qf,List.getD_cons_zero,List.getD_cons_succ,Nat.zero_add,Nat.reduceAdd,qD,qi,qE,allLive,Bool.and_true,qf,List.getD_cons_zero,List.getD_cons_succ,Nat.zero_add,Nat.reduceAdd,qD,qi,qE,allLive,Bool.and_true]
  simp+decide only[Slots.get,if_true,if_false,and_true,QF,qw,qj,qg Zf Xa,Qc,qf,List.getD_cons_zero,List.getD_cons_succ,Nat.zero_add,Nat.reduceAdd,qD,qi,qE,allLive,Bool.and_true,Bool.and_true,qf,List.getD_cons_zero,List.getD_cons_succ,Nat.zero_add,Nat.reduceAdd,qD,qi,qE,allLive,Bool.and_true,nxA,nxR];have hq:YG [Qo s i,Qo s (i+1)]=IS/\ZH (Qo s (i+2))=false:=by
   by_cases hd:YG [Qo s i,Qo s (i+1)]=IS
   ·rw[decide_eq_true (show YG [Qo s i,Qo s (i+1)]=[73,83]from hd)]at hb1
    exact⟨hd,by simpa using hb1⟩
   ·rw[decide_eq_false (show ¬YG [Qo s i,Qo s (i+1)]=[73,83]from hd)]at hb1
    cases hb1
  unfold YR;rw[if_pos ⟨rfl,hq.1,hq.2⟩];rfl
 ·skip
  refine qP ?_;change Awp _ _ _ _ _ _ _;refine Awp.keep [0,4] ?_;exact pictureEnd wz h _ (zqB) kx k0q0 lf s mv tv i true (zqA) (zqA) hk0q0 ne_0q0_x h32 hs (fun q=>by rw[decide_eq_true (show YG [Qo s i,Qo s (i+1)]=[73,83]from q.2.1),q.2.2]at hb1;cases hb1)
theorem c_picture(wz:World)(h:AHeap)(kx:Nat)(lf:Bool)(s:Str)(mv tv:AVal)(i:Nat)(is:Bool)(eb_x:h kx=some ⟨[.bool lf, .str s,mv, .int .i64 i,tv],0⟩)(h32:Qo s i≠32)(hs:s.length<=1099511627776):
 ACall Tryz.prog wz 107 [.ptr (.own kx) 0, .bool is] h (fun r h'=>r=nxR (YR s i is)/\h'=h):=by
 cases is with
 |true=>exact c_pictureT wz h kx lf s mv tv i eb_x h32 hs
 |false=>exact c_pictureF wz h kx lf s mv tv i eb_x h32 hs
set_option maxHeartbeats 400000 in
theorem c_number(wz:World)(h:AHeap)(kx:Nat)(lf:Bool)(s:Str)(mv tv:AVal)(i:Nat)(eb_x:h kx=some ⟨[.bool lf, .str s,mv, .int .i64 i,tv],0⟩)(hi:i<s.length)(hs:s.length<=1099511627776):
 ACall Tryz.prog wz 110 [.ptr (.own kx) 0] h (fun r h'=>r=nxR (YW s i)/\h'=h):=by
 have hs_h:Sub h h:=Sub.refl h;have hsg:=Bool.toNat_le (Wt s i);have hn1:=n1_le hi;have hnl:=numLen_le hi;obtain⟨b0,h0⟩:∃b,b=Qo s i:=⟨_,rfl⟩
 obtain⟨bm,hm⟩:∃b,b=Qo s ((i:Int)+ -1):=⟨_,rfl⟩
 refine qU (n:=89) (rs:=[.cell 2 54, .tmp 3, .tmp 4]) Tryz.func110 rfl rfl rfl rfl (Nat.le_of_ble_eq_true rfl) ?_;simp only[Qe];refine awp_rseq [0,2] (by rfl) fun K hK=>?_;refine Qj qam (cs:=[.int .u8 0, .str [], .int .i64 0, .int .i64 0, .bool false]) (by rfl) fun k0q0 hk0q0=>?_;have hn_0q0:h k0q0=none:=by first|assumption|(simp only[AHeap.set_none]at hk0q0;simp only[hk0q0])
 have hf_0q0:h k0q0=none:=Sub.none hs_h hn_0q0;have ne_0q0_x:k0q0≠kx:=AHeap.ne_some hn_0q0 eb_x;simp+decide only[qa,ev,qH,qF,putD,Slots.put,Slots.keep,if_true,if_false,true_and,↓qd,qb];apply hK;clear hK K;refine awp_rseq [0,2,5] (by rfl) fun K hK=>?_;simp+decide only[qa,ev,qH,qF,putD,Slots.put,Slots.keep,if_true,if_false,true_and,↓qd,qb];apply hK;clear hK K;refine awp_rseq [0,2,5,6] (by rfl) fun K hK=>?_;simp+decide only[ev,putD,Slots.put,Slots.get,if_true,if_false,true_and,↓qh,qc];refine qN (V:= .int .u8 b0.toNat) (by rfl) (by rfl) (by rw[h0];exact qcj wz _ kx lf s mv tv i (zqA) (by omega)) ?_;simp+decide only[ev,qH,qF,putD,Slots.put,Slots.get,if_true,if_false,true_and,↓qA,ql,qB,cond_false,qo,XR,↓qh,qc,↓Xf,agP,Qs,qL,qI,Qf,implies_true]
 (refine Zb (V:= .int .u8 b0.toNat) (f:=_) (cap:=_) (xs:=_) (by first|rfl|(simp+decide only[gv,qL,Slots.get,if_true,if_false,QZ,qI])) (fun hg=>⟨rfl,?_⟩) (fun hg=>by rw[h0];exact qcj wz _ kx lf s mv tv i (zqA) (by omega)) ?_;· (simp+decide only[gv,qL,Slots.get,if_true,if_false,Qf]at hg;simp+decide only[evs,ev,Slots.get,if_true,if_false,hg,Qv,List.append_nil,List.map_cons,List.map_nil,qH,qF]<;>try rfl))
 simp+decide only[ev,qH,qF,putD,Slots.put,Slots.get,if_true,if_false,true_and,gv,qL,qz,Qf,↓Xb,ql,agP,Qs,qI,implies_true,qB,cond_false,Zc,Zd,qo,XR,↓QT,Qu,Qh,Zh,ZK,↓qh,qc,↓Xf]
 (refine Zb (V:= .int .u8 bm.toNat) (f:=_) (cap:=_) (xs:=_) (by first|rfl|(simp+decide only[gv,qL,Slots.get,if_true,if_false,QZ,qI])) (fun hg=>⟨rfl,?_⟩) (fun hg=>by rw[hm];exact Uw wz _ kx lf s mv tv i (-1) (zqA) (by omega) (by omega) (by omega)) ?_;· (simp+decide only[gv,qL,Slots.get,if_true,if_false,qz]at hg;simp+decide only[evs,ev,Slots.get,if_true,if_false,hg,Qv,List.append_nil,List.map_cons,List.map_nil,qH,qF]<;>try rfl))
 simp+decide only[ev,qH,qF,putD,Slots.put,Slots.get,if_true,if_false,true_and,gv,qL,qz,Qf,YF,↓Xb,ql,agP,Qs,qI,QZ,cv_cv,implies_true,qB,cond_false,Zc,Zd,qo,XR,↓Xf,qc]
 (refine Zb (V:= .int .u8 bm.toNat) (f:=_) (cap:=_) (xs:=_) (by first|rfl|(simp+decide only[gv,qL,Slots.get,if_true,if_false,QZ])) (fun hg=>⟨rfl,?_⟩) (fun hg=>by rw[hm];exact Uw wz _ kx lf s mv tv i (-1) (zqA) (by omega) (by omega) (by omega)) ?_;· (simp+decide only[gv,qL,Slots.get,if_true,if_false,Qf,YF]at hg;simp+decide only[evs,ev,Slots.get,if_true,if_false,hg,Qv,List.append_nil,List.map_cons,List.map_nil,qH,qF]<;>try rfl))
 simp+decide only[qa,ev,qH,qF,putD,Slots.put,Slots.get,Slots.keep,if_true,if_false,true_and,gv,qL,qz,Qf,YF,↓Xb,ql,agP,Qs,qI,QZ,implies_true,qB,cond_false,Zc,Zd,qo,XR,↓ag_pick,Qu,Qh,Xg,cp_nest2,Xp,ZK,cv_pick,cp_pick,↓QT,↓qd,qb];have hsv:((decide ((b0.toNat:Int)=43)||decide ((b0.toNat:Int)=45)) && (decide ((bm.toNat:Int)=32)||decide ((bm.toNat:Int)=40)))=Wt s i:=by
  have e43:decide ((b0.toNat:Int)=43)=decide (b0=43):=decide_eq_decide.2 (iff_of_eq (Zi _ 43));have e45:decide ((b0.toNat:Int)=45)=decide (b0=45):=decide_eq_decide.2 (iff_of_eq (Zi _ 45));have e32:decide ((bm.toNat:Int)=32)=decide (bm=32):=decide_eq_decide.2 (iff_of_eq (Zi _ 32));have e40:decide ((bm.toNat:Int)=40)=decide (bm=40):=decide_eq_decide.2 (iff_of_eq (Zi _ 40));rw[e43,e45,e32,e40];unfold Wt;rw[h0,hm,show(i:Int)+ -1=(i:Int)-1 by omega]
 rw[hsv];obtain⟨sg,hsg'⟩:∃sg,sg=Wt s i:=⟨_,rfl⟩
 rw[<-hsg'];apply hK;clear hK K;refine qK ?_;refine awp_rseq [0,2,5,6,27] (by rfl) fun K hK=>?_;simp+decide only[qa,ev,putD,Slots.put,Slots.get,Slots.keep,if_true,if_false,true_and,↓qh,qc];apply hK;clear hK K;refine Ue [0,2,5,6] (fun z:Unit=>[(0, .ptr (.own kx) 0),(2, .ptr (.own k0q0) 0),(5, .int .i64 sg.toNat),(6, .bool sg)]) (fun z:Unit=>h.set k0q0 ⟨[.int .u8 0, .str [], .int .i64 0, .int .i64 0, .bool false],0⟩) (fun z:Unit=>True) ?_ ?_
 ·refine qJ (b:=_) rfl (fun hb1=>?_) (fun hb1=>?_)
  ·skip
   refine XA [0,2,5,6] (by rfl) ?_;simp+decide only[qa,ev,qH,qF,putD,Slots.put,Slots.get,Slots.keep,if_true,if_false,true_and,and_true,↓qh,qc,↓qA,ql,qB,cond_false,qo,QY,↓qd,qb,nxA,nxR];try simp(disch:=omega)only[wrap_i64]
   try simp only[Qg]
   first
   |exact⟨(),by rw[hb1];rfl,Sub.refl _,trivial⟩
   |exact⟨(),by rw[hb1];rfl,Sub.refl _⟩
  ·skip
   refine qP ?_;try simp only[Qg]
   first
   |exact⟨(),by rw[hb1];rfl,Sub.refl _,trivial⟩
   |exact⟨(),by rw[hb1];rfl,Sub.refl _⟩
 ·intro _ _
  rw[hsg']at*
  have hd0:d0E s i<=s.length:=runE_len _ _ _;have hq1:((Wt s i).toNat:Int)+d0E s i=(n1E s i:Nat):=by unfold n1E;omega
  have hnum:YW s i=numF (ZH (Qo s ((i:Int)+(n1E s i:Nat)))) (ZH (Qo s ((i:Int)+(WO s i:Nat)))) (Wt s i) (d0E s i) (qbN s i) (takeE s i 2 (WO s i)):=rfl;have hml:dotE s i=true->qbO s i<=s.length:=fun _=>runE_len _ _ _;refine awp_rseq [0,2,5,6,7] (by rfl) fun K hK=>?_;simp+decide only[ev,putD,Slots.put,Slots.get,if_true,if_false,true_and,↓qh,qc];refine qN (V:= .int .i64 (d0E s i)) (by rfl) (by rfl) (c_run wz _ kx lf s mv tv i (Wt s i).toNat _ _ (f_digit wz) (zqA) (by omega) (by omega) hs) ?_;simp+decide only[qa,ev,putD,Slots.put,Slots.get,Slots.keep,if_true,if_false,true_and,↓qd,qb];apply hK;clear hK K;refine awp_rseq [0,2,5,6,7] (by rfl) fun K hK=>?_;simp+decide only[qa,ev,putD,Slots.put,Slots.get,Slots.keep,if_true,if_false,true_and,↓qh,qc,↓qA,ql,qR,cond_false,qo,QY,↓qd,qb];try simp(disch:=omega)only[wrap_i64]
  rw[hq1];apply hK;clear hK K;refine qK ?_;refine awp_rseq [0,2,5,6,7,43] (by rfl) fun K hK=>?_;simp+decide only[ev,qH,qF,putD,Slots.put,Slots.get,if_true,if_false,true_and,↓qh,qc,↓qA,ql,qB,cond_false,qo,UV,↓Xf,agP,Qs,qL,qI,qz,implies_true]
  (refine Zb (V:= .int .u8 (Qo s ((i:Int)+(n1E s i:Nat))).toNat) (f:=_) (cap:=_) (xs:=_) (by first|rfl|(simp+decide only[gv,qL,Slots.get,if_true,if_false,QZ,qI])) (fun hg=>⟨rfl,?_⟩) (fun hg=>Uw wz _ kx lf s mv tv i _ (zqA) (by omega) (by omega) (by omega)) ?_;· (simp+decide only[gv,qL,Slots.get,if_true,if_false,qz]at hg;simp+decide only[evs,ev,Slots.get,if_true,if_false,hg,Qv,List.append_nil,List.map_cons,List.map_nil]<;>try rfl))
  try simp+decide only[putD,Slots.put,Slots.get,if_true,if_false,gv,qL,qz]
  (refine Zb (V:= .bool (ZH (Qo s ((i:Int)+(n1E s i:Nat))))) (f:=_) (cap:=_) (xs:=_) (by first|rfl|(simp+decide only[gv,qL,Slots.get,if_true,if_false,QZ,qI])) (fun hg=>⟨rfl,?_⟩) (fun hg=>c_wordy wz _ _) ?_;· (simp+decide only[gv,qL,Slots.get,if_true,if_false,qz]at hg;simp+decide only[evs,ev,Slots.get,if_true,if_false,hg,Qv,List.append_nil,List.map_cons,List.map_nil]<;>try rfl))
  simp+decide only[qa,ev,qH,qF,putD,Slots.put,Slots.get,Slots.keep,if_true,if_false,true_and,gv,qL,qz,↓QT,Qu,Qh,Xg,Xp];apply hK;clear hK K;refine qJ (b:=_) rfl (fun hb2=>?_) (fun hb2=>?_)
  ·try simp only[decide_eq_true_eq,Bool.and_eq_true]at hb2
   have hb2':0<d0E s i/\ZH (Qo s ((i:Int)+(n1E s i:Nat)))=true:=⟨by omega,hb2.2⟩
   refine qK ?_;refine awp_rseq [2,44] (by rfl) fun K hK=>?_;simp+decide only[qa,ev,putD,Slots.put,Slots.get,Slots.keep,if_true,if_false,true_and,↓qh,qc];apply hK;clear hK K;refine qJ (b:=_) rfl (fun hb3=>?_) (fun hb3=>?_)
   ·skip
    refine awp_rseq [2,3,4] (by rfl) fun K hK=>?_;simp+decide only[ev,qH,qF,putD,Slots.put,Slots.get,if_false,true_and,↓Qp,↓qW,qba,evP,List.map_nil];refine qp (by rfl) (by rfl) zqA Xa (by rfl) (by rfl) zqD (Nat.zero_le _) (by rfl) ?_;simp only[AHeap.set_set,AVal.cells];simp+decide only[qa,ev,qH,qF,putD,Slots.put,Slots.get,Slots.keep,if_true,if_false,true_and,↓qd,qb,setAt,List.set_cons_zero,List.set_cons_succ,Nat.zero_add,Nat.reduceAdd];apply hK;clear hK K;refine qO ?_;try simp only[Qi]
    refine Qa h zqC (?_) ?_
    ·simp+decide only[QE,qw,qj,Slots.get,if_true,if_false,and_true,qw,qj,qg Zf Xa,Qc,qf,List.getD_cons_zero,List.getD_cons_succ,Nat.zero_add,Nat.reduceAdd,qD,qi,qE,allLive,Bool.and_true,qf,List.getD_cons_zero,List.getD_cons_succ,Nat.zero_add,Nat.reduceAdd,qD,qi,qE,allLive,Bool.and_true]
    simp+decide only[Slots.get,if_true,if_false,and_true,QF,qw,qj,qg Zf Xa,Qc,qf,List.getD_cons_zero,List.getD_cons_succ,Nat.zero_add,Nat.reduceAdd,qD,qi,qE,allLive,Bool.and_true,qf,List.getD_cons_zero,List.getD_cons_succ,Nat.zero_add,Nat.reduceAdd,qD,qi,qE,allLive,Bool.and_true,nxA,nxR];rw[hnum];unfold numF;rw[if_pos hb2',if_pos hb3];rfl
   ·skip
    refine qP ?_;change Awp _ _ _ _ _ _ _;refine awp_rseq [2,3,4] (by rfl) fun K hK=>?_;simp+decide only[ev,qH,qF,putD,Slots.put,Slots.get,if_false,true_and,↓Qp,↓qW,qba,evP,List.map_nil];refine qp (by rfl) (by rfl) zqA Xa (by rfl) (by rfl) zqD (Nat.zero_le _) (by rfl) ?_;simp only[AHeap.set_set,AVal.cells];simp+decide only[qa,ev,qH,qF,putD,Slots.put,Slots.get,Slots.keep,if_true,if_false,true_and,↓qd,qb,setAt,List.set_cons_zero,List.set_cons_succ,Nat.zero_add,Nat.reduceAdd];apply hK;clear hK K;refine qO ?_;try simp only[Qi]
    refine Qa h zqC (?_) ?_
    ·simp+decide only[QE,qw,qj,Slots.get,if_true,if_false,and_true,qw,qj,qg Zf Xa,Qc,qf,List.getD_cons_zero,List.getD_cons_succ,Nat.zero_add,Nat.reduceAdd,qD,qi,qE,allLive,Bool.and_true,qf,List.getD_cons_zero,List.getD_cons_succ,Nat.zero_add,Nat.reduceAdd,qD,qi,qE,allLive,Bool.and_true]
    simp+decide only[Slots.get,if_true,if_false,and_true,QF,qw,qj,qg Zf Xa,Qc,qf,List.getD_cons_zero,List.getD_cons_succ,Nat.zero_add,Nat.reduceAdd,qD,qi,qE,allLive,Bool.and_true,qf,List.getD_cons_zero,List.getD_cons_succ,Nat.zero_add,Nat.reduceAdd,qD,qi,qE,allLive,Bool.and_true,nxA,nxR];rw[hnum];unfold numF;rw[if_pos hb2',if_neg (by rw[hb3];decide)];rfl
  ·try simp only[decide_eq_false_iff_not,Bool.and_eq_false_iff]at hb2
   have hb2':¬(0<d0E s i/\ZH (Qo s ((i:Int)+(n1E s i:Nat)))=true):=fun q=>hb2.elim (fun z=>z (by omega)) (fun z=>by rw[q.2]at z;cases z);refine qP ?_;change Awp _ _ _ _ _ _ _;refine qK ?_;refine awp_rseq [0,2,5,7,57] (by rfl) fun K hK=>?_;simp+decide only[ev,putD,Slots.put,Slots.get,if_true,if_false,true_and,↓qh,qc];refine qN (V:= .int .u8 (Qo s ((i:Int)+(n1E s i:Nat))).toNat) (by rfl) (by rfl) (Uw wz _ kx lf s mv tv i _ (zqA) (by omega) (by omega) (by omega)) ?_;simp+decide only[ev,qH,qF,putD,Slots.put,Slots.get,if_true,if_false,true_and,↓qA,ql,qB,cond_false,qo,XR,↓qh,qc,↓Xf,agP,Qs,qL,qI,qz,implies_true,↓Xb,Zc,Zd,QY];try simp(disch:=omega)only[wrap_i64]
   (refine Zb (V:= .int .u8 (Qo s ((i:Int)+((n1E s i:Nat)+1))).toNat) (f:=_) (cap:=_) (xs:=_) (by first|rfl|(simp+decide only[gv,qL,Slots.get,if_true,if_false,QZ,qI])) (fun hg=>⟨rfl,?_⟩) (fun hg=>Uw wz _ kx lf s mv tv i ((n1E s i:Nat)+1) (zqA) (by omega) (by omega) (by omega)) ?_;· (simp+decide only[gv,qL,Slots.get,if_true,if_false,qz]at hg;simp+decide only[evs,ev,Slots.get,if_true,if_false,hg,Qv,List.append_nil,List.map_cons,List.map_nil]<;>try rfl))
   try simp+decide only[putD,Slots.put,Slots.get,if_true,if_false,gv,qL,qz]
   (refine Zb (V:= .bool (Yn (Qo s ((i:Int)+((n1E s i:Nat)+1))))) (f:=_) (cap:=_) (xs:=_) (by first|rfl|(simp+decide only[gv,qL,Slots.get,if_true,if_false,QZ,qI])) (fun hg=>⟨rfl,?_⟩) (fun hg=>c_digitT wz _ _) ?_;· (simp+decide only[gv,qL,Slots.get,if_true,if_false,qz]at hg;simp+decide only[evs,ev,Slots.get,if_true,if_false,hg,Qv,List.append_nil,List.map_cons,List.map_nil]<;>try rfl))
   simp+decide only[qa,ev,qH,qF,putD,Slots.put,Slots.get,Slots.keep,if_true,if_false,true_and,gv,qL,qz,↓QT,Qu,Qh,Xg,Xp];have hdv:(decide (((Qo s ((i:Int)+(n1E s i:Nat))).toNat:Int)=46) && Yn (Qo s ((i:Int)+((n1E s i:Nat)+1))))=dotE s i:=by
    have e46:decide (((Qo s ((i:Int)+(n1E s i:Nat))).toNat:Int)=46)=decide (Qo s ((i:Int)+(n1E s i:Nat))=46):=decide_eq_decide.2 (iff_of_eq (Zi _ 46));rw[e46,<-Int.add_assoc];rfl
   rw[hdv];apply hK;clear hK K;refine Ue [0,2,5,7] (fun z:Unit=>[(0, .ptr (.own kx) 0),(2, .ptr (.own k0q0) 0),(5, .int .i64 (WO s i)),(7, .int .i64 (qbN s i))]) (fun z:Unit=>h.set k0q0 ⟨[.int .u8 0, .str [], .int .i64 0, .int .i64 0, .bool false],0⟩) (fun z:Unit=>True) ?_ ?_
   ·refine qJ (b:=_) rfl (fun hb4=>?_) (fun hb4=>?_)
    ·skip
     have hmo:=hml hb4;have hld:WO s i=n1E s i+1+qbO s i:=by unfold WO;rw[if_pos hb4]
     have hdd:qbN s i=d0E s i+qbO s i:=by unfold qbN;rw[if_pos hb4]
     refine awp_rseq [0,2,5,7,8] (by rfl) fun K hK=>?_;simp+decide only[ev,qH,qF,putD,Slots.put,Slots.get,if_true,if_false,true_and,↓qh,qc,↓qA,ql,qB,cond_false,qo,QY];try simp(disch:=omega)only[wrap_i64]
     rw[show((n1E s i:Nat):Int)+1=((n1E s i+1:Nat):Int)from rfl];refine qN (V:= .int .i64 (qbO s i)) (by rfl) (by rfl) (c_run wz _ kx lf s mv tv i (n1E s i+1) _ _ (f_digit wz) (zqA) (by omega) (by omega) hs) ?_;simp+decide only[qa,ev,putD,Slots.put,Slots.get,Slots.keep,if_true,if_false,true_and,↓qd,qb];apply hK;clear hK K;refine awp_rseq [0,2,5,7,8] (by rfl) fun K hK=>?_;simp+decide only[qa,ev,putD,Slots.put,Slots.get,Slots.keep,if_true,if_false,true_and,↓qh,qc,↓qA,ql,qR,cond_false,qo,QY,↓qd,qb];try simp(disch:=omega)only[wrap_i64]
     apply hK;clear hK K;refine XA [0,2,5,7] (by rfl) ?_;simp+decide only[qa,ev,qH,qF,putD,Slots.put,Slots.get,Slots.keep,if_true,if_false,true_and,and_true,↓qh,qc,↓qA,ql,qR,cond_false,qo,QY,↓qd,qb,nxA,nxR];try simp(disch:=omega)only[wrap_i64]
     try simp only[Qg]
     first
     |exact⟨(),by rw[hld,hdd,show((n1E s i:Nat):Int)+(1+(qbO s i:Nat))=((n1E s i+1+qbO s i:Nat):Int) by omega];rfl,Sub.refl _,trivial⟩
     |exact⟨(),by rw[hld,hdd];rfl,Sub.refl _,trivial⟩
     |exact⟨(),by rw[hld,hdd,show((n1E s i:Nat):Int)+(1+(qbO s i:Nat))=((n1E s i+1+qbO s i:Nat):Int) by omega];rfl,Sub.refl _⟩
     |exact⟨(),by rw[hld,hdd];rfl,Sub.refl _⟩
    ·skip
     have hld:WO s i=n1E s i:=by unfold WO;rw[if_neg (by rw[hb4];decide)]
     have hdd:qbN s i=d0E s i:=by unfold qbN;rw[if_neg (by rw[hb4];decide)]
     refine qP ?_;try simp only[Qg]
     first
     |exact⟨(),by rw[hld,hdd,show((n1E s i:Nat):Int)+(1+(qbO s i:Nat))=((n1E s i+1+qbO s i:Nat):Int) by omega];rfl,Sub.refl _,trivial⟩
     |exact⟨(),by rw[hld,hdd];rfl,Sub.refl _,trivial⟩
     |exact⟨(),by rw[hld,hdd,show((n1E s i:Nat):Int)+(1+(qbO s i:Nat))=((n1E s i+1+qbO s i:Nat):Int) by omega];rfl,Sub.refl _⟩
     |exact⟨(),by rw[hld,hdd];rfl,Sub.refl _⟩
   ·intro _ _
    refine qK ?_;refine Ql ?_;refine awp_rseq [0,2,5,7,69] (by rfl) fun K hK=>?_;simp+decide only[qa,ev,qH,qF,putD,Slots.put,Slots.get,Slots.keep,if_true,if_false,true_and,↓qh,qc,↓qA,ql,qB,cond_false,qo,XR,↓qd,qb];apply hK;clear hK K;refine qJ (b:=_) rfl (fun hb5=>?_) (fun hb5=>?_)
    ·try simp only[decide_eq_true_eq]at hb5
     refine awp_rseq [2,3,4] (by rfl) fun K hK=>?_;simp+decide only[ev,qH,qF,putD,Slots.put,Slots.get,if_false,true_and,↓Qp,↓qW,qba,evP,List.map_nil];refine qp (by rfl) (by rfl) zqA Xa (by rfl) (by rfl) zqD (Nat.zero_le _) (by rfl) ?_;simp only[AHeap.set_set,AVal.cells];simp+decide only[qa,ev,qH,qF,putD,Slots.put,Slots.get,Slots.keep,if_true,if_false,true_and,↓qd,qb,setAt,List.set_cons_zero,List.set_cons_succ,Nat.zero_add,Nat.reduceAdd];apply hK;clear hK K;refine qO ?_;try simp only[Qi,Qw]
     refine Qa h zqC (?_) ?_
     ·simp+decide only[QE,qw,qj,Slots.get,if_true,if_false,and_true,qw,qj,qg Zf Xa,Qc,qf,List.getD_cons_zero,List.getD_cons_succ,Nat.zero_add,Nat.reduceAdd,qD,qi,qE,allLive,Bool.and_true,qf,List.getD_cons_zero,List.getD_cons_succ,Nat.zero_add,Nat.reduceAdd,qD,qi,qE,allLive,Bool.and_true]
     simp+decide only[Slots.get,if_true,if_false,and_true,QF,qw,qj,qg Zf Xa,Qc,qf,List.getD_cons_zero,List.getD_cons_succ,Nat.zero_add,Nat.reduceAdd,qD,qi,qE,allLive,Bool.and_true,qf,List.getD_cons_zero,List.getD_cons_succ,Nat.zero_add,Nat.reduceAdd,qD,qi,qE,allLive,Bool.and_true,nxA,nxR];rw[hnum];unfold numF;rw[if_neg hb2',if_pos (by omega)];rfl
    ·try simp only[decide_eq_false_iff_not]at hb5
     have hb5':¬qbN s i=0:=by omega
     refine awp_rseq [0,2,5,7,73] (by rfl) fun K hK=>?_;simp+decide only[ev,putD,Slots.put,Slots.get,if_true,if_false,true_and,↓qh,qc];refine qN (V:= .int .u8 (Qo s ((i:Int)+(WO s i:Nat))).toNat) (by rfl) (by rfl) (Uw wz _ kx lf s mv tv i _ (zqA) (by omega) (by omega) (by omega)) ?_;refine qN (V:= .bool (ZH (Qo s ((i:Int)+(WO s i:Nat))))) (by rfl) (by rfl) (c_wordy wz _ _) ?_;simp+decide only[qa,ev,putD,Slots.put,Slots.get,Slots.keep,if_true,if_false,true_and,↓qd,qb];apply hK;clear hK K;refine qJ (b:=_) rfl (fun hb6=>?_) (fun hb6=>?_)
     ·skip
      refine awp_rseq [2,3,4] (by rfl) fun K hK=>?_;simp+decide only[ev,qH,qF,putD,Slots.put,Slots.get,if_false,true_and,↓Qp,↓qW,qba,evP,List.map_nil];refine qp (by rfl) (by rfl) zqA Xa (by rfl) (by rfl) zqD (Nat.zero_le _) (by rfl) ?_;simp only[AHeap.set_set,AVal.cells];simp+decide only[qa,ev,qH,qF,putD,Slots.put,Slots.get,Slots.keep,if_true,if_false,true_and,↓qd,qb,setAt,List.set_cons_zero,List.set_cons_succ,Nat.zero_add,Nat.reduceAdd];apply hK;clear hK K;refine qO ?_;try simp only[Qi,Qw]
      refine Qa h zqC (?_) ?_
      ·simp+decide only[QE,qw,qj,Slots.get,if_true,if_false,and_true,qw,qj,qg Zf Xa,Qc,qf,List.getD_cons_zero,List.getD_cons_succ,Nat.zero_add,Nat.reduceAdd,qD,qi,qE,allLive,Bool.and_true,qf,List.getD_cons_zero,List.getD_cons_succ,Nat.zero_add,Nat.reduceAdd,qD,qi,qE,allLive,Bool.and_true]
      simp+decide only[Slots.get,if_true,if_false,and_true,QF,qw,qj,qg Zf Xa,Qc,qf,List.getD_cons_zero,List.getD_cons_succ,Nat.zero_add,Nat.reduceAdd,qD,qi,qE,allLive,Bool.and_true,qf,List.getD_cons_zero,List.getD_cons_succ,Nat.zero_add,Nat.reduceAdd,qD,qi,qE,allLive,Bool.and_true,nxA,nxR];rw[hnum];unfold numF;rw[if_neg hb2',if_neg hb5',if_pos hb6];rfl
     ·skip
      have hb6':¬ZH (Qo s ((i:Int)+(WO s i:Nat)))=true:=by rw[hb6];decide
      refine awp_rseq [0,2,5,79] (by rfl) fun K hK=>?_;simp+decide only[qa,ev,qH,qF,putD,Slots.put,Slots.get,Slots.keep,if_true,if_false,true_and,↓qh,qc,↓qA,ql,qB,cond_false,qo,UV,↓qd,qb];apply hK;clear hK K;refine qJ (b:=_) rfl (fun hb7=>?_) (fun hb7=>?_)
      ·try simp only[decide_eq_true_eq]at hb7
       refine awp_rseq [2,3,4] (by rfl) fun K hK=>?_;simp+decide only[ev,qH,qF,putD,Slots.put,Slots.get,if_false,true_and,↓Qp,↓qW,qba,evP,List.map_nil];refine qp (by rfl) (by rfl) zqA Xa (by rfl) (by rfl) zqD (Nat.zero_le _) (by rfl) ?_;simp only[AHeap.set_set,AVal.cells];simp+decide only[qa,ev,qH,qF,putD,Slots.put,Slots.get,Slots.keep,if_true,if_false,true_and,↓qd,qb,setAt,List.set_cons_zero,List.set_cons_succ,Nat.zero_add,Nat.reduceAdd];apply hK;clear hK K;refine qO ?_;try simp only[Qi,Qw]
       refine Qa h zqC (?_) ?_
       ·simp+decide only[QE,qw,qj,Slots.get,if_true,if_false,and_true,qw,qj,qg Zf Xa,Qc,qf,List.getD_cons_zero,List.getD_cons_succ,Nat.zero_add,Nat.reduceAdd,qD,qi,qE,allLive,Bool.and_true,qf,List.getD_cons_zero,List.getD_cons_succ,Nat.zero_add,Nat.reduceAdd,qD,qi,qE,allLive,Bool.and_true]
       simp+decide only[Slots.get,if_true,if_false,and_true,QF,qw,qj,qg Zf Xa,Qc,qf,List.getD_cons_zero,List.getD_cons_succ,Nat.zero_add,Nat.reduceAdd,qD,qi,qE,allLive,Bool.and_true,qf,List.getD_cons_zero,List.getD_cons_succ,Nat.zero_add,Nat.reduceAdd,qD,qi,qE,allLive,Bool.and_true,nxA,nxR];rw[hnum];unfold numF;rw[if_neg hb2',if_neg hb5',if_neg hb6',if_pos (by omega)];rfl
      ·try simp only[decide_eq_false_iff_not]at hb7
       refine qP ?_;change Awp _ _ _ _ _ _ _;refine awp_rseq [2,3,4] (by rfl) fun K hK=>?_;simp+decide only[ev,putD,Slots.put,Slots.get,if_true,if_false,true_and,↓qh,qc];refine qN (V:=nxR (takeE s i 2 (WO s i))) (by rfl) (by rfl) (qeW wz _ kx lf s mv tv i (WO s i) 2 (zqA) hnl hs) ?_;simp+decide only[ev,putD,Slots.put,Slots.get,if_true,if_false,true_and,↓QW,QH,QS,List.length_cons,List.length_nil,List.getD_cons_zero,List.getD_cons_succ,List.getD_cons_zero,List.getD_cons_succ,Nat.zero_add,Nat.reduceAdd,nxA,nxR];refine qp (by rfl) (by rfl) zqA Xa (by rfl) (by rfl) zqD (Nat.zero_le _) (by rfl) ?_;simp only[AHeap.set_set,AVal.cells];simp+decide only[qa,ev,putD,Slots.put,Slots.get,Slots.keep,if_true,if_false,true_and,↓qd,qb,setAt,List.set_cons_zero,List.set_cons_succ,Nat.zero_add,Nat.reduceAdd];apply hK;clear hK K;refine qO ?_;refine Qa h zqC (?_) ?_
       ·simp+decide only[QE,qw,qj,Slots.get,if_true,if_false,and_true,qw,qj,qg Zf Xa,Qc,qf,List.getD_cons_zero,List.getD_cons_succ,Nat.zero_add,Nat.reduceAdd,qD,qi,qE,allLive,Bool.and_true,qf,List.getD_cons_zero,List.getD_cons_succ,Nat.zero_add,Nat.reduceAdd,qD,qi,qE,allLive,Bool.and_true]
       simp+decide only[Slots.get,if_true,if_false,and_true,QF,qw,qj,qg Zf Xa,Qc,qf,List.getD_cons_zero,List.getD_cons_succ,Nat.zero_add,Nat.reduceAdd,qD,qi,qE,allLive,Bool.and_true,qf,List.getD_cons_zero,List.getD_cons_succ,Nat.zero_add,Nat.reduceAdd,qD,qi,qE,allLive,Bool.and_true,nxA,nxR];rw[hnum];unfold numF;rw[if_neg hb2',if_neg hb5',if_neg hb6',if_neg (by omega)]
end Go.Proofs.YtlhhaagmakhilaaGreatDoor
namespace Go.Proofs.YtlhhaagmakhilaaGreatDoor
open Go.AM
open Go.Proofs
open Go.Col
open Go.Tok
open Go.RowKit (Below)
set_option maxRecDepth 100000
def digH:Str:=[48,49,50,51,52,53,54,55,56,57,45]
theorem c_trimS(wz:World)(h:AHeap)(s:Str)(hs:s.length<=9223372036854775807):ACall Tryz.prog wz 137 [.str s, .str digH] h (fun v h'=>v= .str (Lib.trimS s digH)/\h'=h):=by
 refine ZT (vals:=[.string ⟨⟨s⟩⟩, .string ⟨⟨digH⟩⟩]) (val:= .string ⟨⟨Lib.trimS s digH⟩⟩) Tryz.func137 rfl rfl (fun fi vs hv=>qew hv) (fun fi=>rfl) fun w=>?_;exact Any.strings_Trim_laid Tryz.lays160 (by kernel_rfl) ⟨⟨s⟩⟩ ⟨⟨digH⟩⟩ w hs (by decide) (ascii_of_all (by decide))
theorem digH_mem(b:UInt8):digH.contains b=(Yn b||decide (b=45)):=by
 rw[Bool.eq_iff_iff,List.contains_iff_mem];unfold digH Yn;simp only[List.mem_cons,List.not_mem_nil,or_false,Bool.or_eq_true,Bool.and_eq_true,decide_eq_true_eq];constructor
 ·rintro(h|h|h|h|h|h|h|h|h|h|h)<;>subst h<;>decide
 ·rintro(h|h)
  ·have e:b=UInt8.ofNat b.toNat:=(UInt8.ofNat_toNat).symm
   generalize b.toNat=n at h e;have:n=48\/n=49\/n=50\/n=51\/n=52\/n=53\/n=54\/n=55\/n=56\/n=57:=by omega
   rcases this with q|q|q|q|q|q|q|q|q|q<;>subst q<;>subst e<;>decide
  ·subst h;decide
theorem dropW_nil{p:UInt8->Bool}:∀{s:Str},s.dropWhile p=[]↔s.all p=true
 |[]=>by simp
 |b::s=>by
  rw[List.dropWhile_cons,List.all_cons];cases hp:p b with
  |true=>simp only[if_true,Bool.true_and];exact dropW_nil
  |false=>simp
theorem dropW_mem{p:UInt8->Bool}:∀{s:Str},s.all p=false->(s.dropWhile p).all p=false
 |[],h=>by cases h
 |b::s,h=>by
  rw[List.dropWhile_cons];rw[List.all_cons]at h;cases hp:p b with
  |true=>
   rw[hp,Bool.true_and]at h;simp only[if_true];exact dropW_mem h
  |false=>simp[hp]
theorem trimS_nil(s:Str):(!decide (Lib.trimS s digH=[]))= !(s.all fun b=>Yn b||decide (b=45)):=by
 rw[<-decide_not];have hp:(fun b=>Yn b||decide (b=45))=fun b=>digH.contains b:=funext fun b=>(digH_mem b).symm;rw[hp];unfold Lib.trimS Lib.trimLeftS Lib.trimRightS;cases ha:s.all (fun b=>digH.contains b)with
 |true=>
  have h1:s.reverse.dropWhile (fun b=>digH.contains b)=[]:=dropW_nil.2 (by rw[List.all_reverse];exact ha);rw[h1];rfl
 |false=>
  have h1:=dropW_mem (p:=fun b=>digH.contains b) (s:=s.reverse) (by rw[List.all_reverse];exact ha);have h2:((s.reverse.dropWhile (fun b=>digH.contains b)).reverse).all (fun b=>digH.contains b)=false:=by rw[List.all_reverse];exact h1
  have h3:¬((s.reverse.dropWhile (fun b=>digH.contains b)).reverse).dropWhile (fun b=>digH.contains b)=[]:=fun e=>by
   rw[dropW_nil.1 e]at h2;cases h2
  rw[decide_eq_true h3];rfl
theorem c_name(wz:World)(h:AHeap)(kx:Nat)(lf:Bool)(s:Str)(mv tv:AVal)(i:Nat)(eb_x:h kx=some ⟨[.bool lf, .str s,mv, .int .i64 i,tv],0⟩)(hi:i<s.length)(hw:ZH (s.getD i 0)=true)(hs:s.length<=1099511627776):
 ACall Tryz.prog wz 112 [.ptr (.own kx) 0] h (fun r h'=>r=nxR (qfn s i)/\h'=h):=by
 have hs_h:Sub h h:=Sub.refl h;have hp:=runE_pos hi hw;have hr:=qdd s i ZH (by omega);obtain⟨n,hn⟩:∃n,n=WF s i ZH:=⟨_,rfl⟩
 rw[<-hn]at hp hr;obtain⟨t,ht⟩:∃t,t=YG ((s.drop i).take n):=⟨_,rfl⟩
 have htl:t.length=n:=by rw[ht];unfold YG;rw[List.length_map,List.length_take,List.length_drop];omega
 have hnm:qfn s i=if (t.all fun b=>Yn b||decide (b=45))=true\/t.getD 0 0=45\/t.getD (n-1) 0=45 then .err 4 else if 30<n then .err 5 else⟨1,t,n,0⟩:=by unfold qfn;simp only;rw[<-hn,<-ht]
 have h1:((n:Int)-1).toNat=n-1:=by omega
 have h0:(0:Int).toNat=0:=rfl;refine qU (n:=51) (rs:=[.cell 2 54, .tmp 3, .tmp 4]) Tryz.func112 rfl rfl rfl rfl (Nat.le_of_ble_eq_true rfl) ?_;simp only[Qe];refine awp_rseq [0,2] (by rfl) fun K hK=>?_;refine Qj qam (cs:=[.int .u8 0, .str [], .int .i64 0, .int .i64 0, .bool false]) (by rfl) fun k0q0 hk0q0=>?_;have hn_0q0:h k0q0=none:=by first|assumption|(simp only[AHeap.set_none]at hk0q0;simp only[hk0q0])
 have hf_0q0:h k0q0=none:=Sub.none hs_h hn_0q0;have ne_0q0_x:k0q0≠kx:=AHeap.ne_some hn_0q0 eb_x;simp+decide only[qa,ev,qH,qF,putD,Slots.put,Slots.keep,if_true,if_false,true_and,↓qd,qb];apply hK;clear hK K;refine awp_rseq [0,2,5] (by rfl) fun K hK=>?_;simp+decide only[ev,putD,Slots.put,Slots.get,if_true,if_false,true_and,↓qh,qc];refine qN (V:= .int .i64 n) (by rfl) (by rfl) (by rw[hn];exact c_run0 wz _ kx lf s mv tv i _ _ (f_wordy wz) (zqA) (by omega) hs) ?_;simp+decide only[qa,ev,putD,Slots.put,Slots.get,Slots.keep,if_true,if_false,true_and,↓qd,qb];apply hK;clear hK K;refine awp_rseq [2,5,6,7] (by rfl) fun K hK=>?_;simp+decide only[ev,putD,Slots.put,Slots.get,if_true,if_false,true_and,↓qh,qc];refine qN (V:=nxR (takeE s i 1 n)) (by rfl) (by rfl) (qeW wz _ kx lf s mv tv i n 1 (zqA) hr hs) ?_;simp+decide only[ev,putD,Slots.put,Slots.get,if_true,if_false,true_and,↓qh,qc,↓QW,QH,QS,List.length_cons,List.length_nil,List.getD_cons_zero,List.getD_cons_succ,List.getD_cons_zero,List.getD_cons_succ,Nat.zero_add,Nat.reduceAdd,nxA,nxR,Tok.takeE];refine Qj qam (cs:=[.int .u8 0, .str [], .int .i64 0, .int .i64 0, .bool false]) (by rfl) fun k2q7 hk2q7=>?_;have ne_2q7_0q0:k2q7≠k0q0:=by simp only[AHeap.set_none]at hk2q7;simp only[hk2q7,ne_eq,not_false_eq_true]
 have hn_2q7:h k2q7=none:=by first|assumption|(simp only[AHeap.set_none]at hk2q7;simp only[hk2q7])
 have hf_2q7:h k2q7=none:=Sub.none hs_h hn_2q7;have ne_2q7_x:k2q7≠kx:=AHeap.ne_some hn_2q7 eb_x;refine qp (by rfl) (by rfl) zqA Xa (by rfl) (by rfl) zqD (Nat.zero_le _) (by rfl) ?_;simp only[AHeap.set_set,AVal.cells];simp+decide only[qa,ev,putD,Slots.put,Slots.get,Slots.keep,if_true,if_false,true_and,↓qd,qb,setAt,List.set_cons_zero,List.set_cons_succ,Nat.zero_add,Nat.reduceAdd];apply hK;clear hK K;refine awp_rseq [2,5,6,7] (by rfl) fun K hK=>?_;simp+decide only[ev,putD,Slots.put,Slots.get,if_true,if_false,true_and,↓qC,qm,UI,↓qG,qY,qy ag9,QP,List.getD_cons_zero,List.getD_cons_succ,Nat.zero_add,qE];refine qN (V:= .str t) (by rfl) (by rfl) (by rw[ht,<-fold_eq];exact c_fold wz _ ((s.drop i).take n) (by rw[List.length_take];omega)) ?_;simp+decide only[ev,putD,Slots.put,Slots.get,if_true,if_false,true_and,↓qC,qm,UI,Nat.zero_add];refine qp (by rfl) (by rfl) zqA sz9 (by rfl) (by rfl) zqD (Nat.zero_le _) (by rfl) ?_;simp only[AHeap.set_set,AVal.cells];simp+decide only[qa,ev,putD,Slots.get,Slots.keep,if_true,if_false,setAt,List.set_cons_zero,List.set_cons_succ];apply hK;clear hK K;refine awp_rseq [2,5,6,7,8] (by rfl) fun K hK=>?_;simp+decide only[ev,putD,Slots.put,Slots.get,if_true,if_false,true_and,↓qC,qm,UI,↓qG,qY,qy ag9,QP,List.getD_cons_zero,List.getD_cons_succ,Nat.zero_add,qE];refine qN (V:= .str (Lib.trimS t digH)) (by rfl) (by rfl) (c_trimS wz _ t (by omega)) ?_;simp+decide only[qa,ev,qH,qF,putD,Slots.put,Slots.get,Slots.keep,if_true,if_false,true_and,↓qA,ql,Ym,cond_false,XZ,qfz,↓qd,qb];rw[trimS_nil];apply hK;clear hK K;refine qK ?_;refine Ql ?_;refine awp_rseq [2,5,6,7,26] (by rfl) fun K hK=>?_;simp+decide only[qa,ev,qH,qF,putD,Slots.put,Slots.get,Slots.keep,if_true,if_false,true_and,↓qh,qc,↓YA,XU,Yi,↓XC,qm,agP,Qs,qL,qI,Qf,implies_true,Bool.not_not,UI,↓Zr,Za,WS,qdy,qy ag9,↓ag_index,qcE,qbM Tryz.underlying9,cv_indexl,cv_indexr,cp_indexl,cp_indexr,↓Xb,ql,qB,cond_false,Zc,Zd,qo,XR,↓QT,Qu,Qh,Zh,ZK,↓Xf,UH,↓qd,qb,QP,List.getD_cons_zero,List.getD_cons_succ,Nat.zero_add,qE,h0];try simp(disch:=omega)only[wrap_i64]
 repeat (with_reducible refine And.intro ?_ ?_;· first|trivial|omega|(intro hg;simp only[Bool.and_eq_true,Bool.or_eq_true,Bool.not_eq_true',Bool.and_eq_false_iff,Bool.or_eq_false_iff,Bool.not_eq_false',decide_eq_true_eq,decide_eq_false_iff_not,XV]at hg;omega))
 apply hK;clear hK K;refine qJ (b:=_) rfl (fun hb1=>?_) (fun hb1=>?_)
 ·try simp only[decide_eq_true_eq,Bool.or_eq_true]at hb1
  have hb1':(t.all fun b=>Yn b||decide (b=45))=true\/t.getD 0 0=45\/t.getD (n-1) 0=45:=by
   rcases hb1 with(q|q)|q
   ·exact .inl q
   ·exact .inr (.inl ((Zi _ 45).mp q))
   ·exact .inr (.inr (by rw[h1]at q;exact(Zi _ 45).mp q))
  refine awp_rseq [2,3,4] (by rfl) fun K hK=>?_;simp+decide only[ev,qH,qF,putD,Slots.put,Slots.get,if_false,true_and,↓Qp,↓qW,qba,evP,List.map_nil];refine qp (by rfl) (by rfl) zqA Xa (by rfl) (by rfl) zqD (Nat.zero_le _) (by rfl) ?_;simp only[AVal.cells];simp+decide only[qa,ev,qH,qF,putD,Slots.put,Slots.get,Slots.keep,if_true,if_false,true_and,↓qd,qb,setAt,List.set_cons_zero,List.set_cons_succ,Nat.zero_add,Nat.reduceAdd];apply hK;clear hK K;refine qO ?_;try simp only[Qi,Qw]
  refine Qa h zqC (?_) ?_
  ·simp+decide only[QE,qw,qj,Slots.get,if_true,if_false,and_true,qw,qj,qg Zf Xa,Qc,qf,List.getD_cons_zero,List.getD_cons_succ,Nat.zero_add,Nat.reduceAdd,qD,qi,qE,allLive,Bool.and_true,qf,List.getD_cons_zero,List.getD_cons_succ,Nat.zero_add,Nat.reduceAdd,qD,qi,qE,allLive,Bool.and_true]
  simp+decide only[Slots.get,if_true,if_false,and_true,QF,qw,qj,qg Zf Xa,Qc,qf,List.getD_cons_zero,List.getD_cons_succ,Nat.zero_add,Nat.reduceAdd,qD,qi,qE,allLive,Bool.and_true,qf,List.getD_cons_zero,List.getD_cons_succ,Nat.zero_add,Nat.reduceAdd,qD,qi,qE,allLive,Bool.and_true,nxA,nxR];rw[hnm,if_pos hb1'];rfl
 ·try simp only[decide_eq_false_iff_not,Bool.or_eq_false_iff]at hb1
  have hb1':¬((t.all fun b=>Yn b||decide (b=45))=true\/t.getD 0 0=45\/t.getD (n-1) 0=45):=by
   rintro(q|q|q)
   ·rw[q]at hb1;exact absurd hb1.1.1 (by decide)
   ·exact hb1.1.2 ((Zi _ 45).mpr q)
   ·exact hb1.2 (by rw[h1];exact(Zi _ 45).mpr q)
  refine awp_rseq [2,5,6,7,44] (by rfl) fun K hK=>?_;simp+decide only[qa,ev,qH,qF,putD,Slots.put,Slots.get,Slots.keep,if_true,if_false,true_and,↓qh,qc,↓qA,ql,qB,cond_false,qo,UV,↓qd,qb];apply hK;clear hK K;refine qJ (b:=_) rfl (fun hb2=>?_) (fun hb2=>?_)
  ·try simp only[decide_eq_true_eq]at hb2
   refine awp_rseq [2,3,4] (by rfl) fun K hK=>?_;simp+decide only[ev,qH,qF,putD,Slots.put,Slots.get,if_false,true_and,↓Qp,↓qW,qba,evP,List.map_nil];refine qp (by rfl) (by rfl) zqA Xa (by rfl) (by rfl) zqD (Nat.zero_le _) (by rfl) ?_;simp only[AVal.cells];simp+decide only[qa,ev,qH,qF,putD,Slots.put,Slots.get,Slots.keep,if_true,if_false,true_and,↓qd,qb,setAt,List.set_cons_zero,List.set_cons_succ,Nat.zero_add,Nat.reduceAdd];apply hK;clear hK K;refine qO ?_;try simp only[Qi,Qw]
   refine Qa h zqC (?_) ?_
   ·simp+decide only[QE,qw,qj,Slots.get,if_true,if_false,and_true,qw,qj,qg Zf Xa,Qc,qf,List.getD_cons_zero,List.getD_cons_succ,Nat.zero_add,Nat.reduceAdd,qD,qi,qE,allLive,Bool.and_true,qf,List.getD_cons_zero,List.getD_cons_succ,Nat.zero_add,Nat.reduceAdd,qD,qi,qE,allLive,Bool.and_true]
   simp+decide only[Slots.get,if_true,if_false,and_true,QF,qw,qj,qg Zf Xa,Qc,qf,List.getD_cons_zero,List.getD_cons_succ,Nat.zero_add,Nat.reduceAdd,qD,qi,qE,allLive,Bool.and_true,qf,List.getD_cons_zero,List.getD_cons_succ,Nat.zero_add,Nat.reduceAdd,qD,qi,qE,allLive,Bool.and_true,nxA,nxR];rw[hnm,if_neg hb1',if_pos (by omega)];rfl
  ·try simp only[decide_eq_false_iff_not]at hb2
   refine qP ?_;change Awp _ _ _ _ _ _ _;refine awp_rseq [2,3,4] (by rfl) fun K hK=>?_;simp+decide only[ev,putD,Slots.put,Slots.get,if_true,if_false,true_and,↓qG,qY,qg Zf Xa,↓qh,qc,QP,qf,List.getD_cons_zero,List.getD_cons_succ,Nat.zero_add,Nat.reduceAdd,qD,qi,qE,allLive,Bool.and_true];refine qp (by rfl) (by rfl) zqA Xa (by rfl) (by rfl) zqD (Nat.zero_le _) (by rfl) ?_;simp only[AVal.cells];simp+decide only[qa,ev,putD,Slots.put,Slots.get,Slots.keep,if_true,if_false,true_and,↓qd,qb,setAt,List.set_cons_zero,List.set_cons_succ,Nat.zero_add,Nat.reduceAdd];apply hK;clear hK K;refine qO ?_;refine Qa h zqC (?_) ?_
   ·simp+decide only[QE,qw,qj,Slots.get,if_true,if_false,and_true,qw,qj,qg Zf Xa,Qc,qf,List.getD_cons_zero,List.getD_cons_succ,Nat.zero_add,Nat.reduceAdd,qD,qi,qE,allLive,Bool.and_true,qf,List.getD_cons_zero,List.getD_cons_succ,Nat.zero_add,Nat.reduceAdd,qD,qi,qE,allLive,Bool.and_true]
   simp+decide only[Slots.get,if_true,if_false,and_true,QF,qw,qj,qg Zf Xa,Qc,qf,List.getD_cons_zero,List.getD_cons_succ,Nat.zero_add,Nat.reduceAdd,qD,qi,qE,allLive,Bool.and_true,qf,List.getD_cons_zero,List.getD_cons_succ,Nat.zero_add,Nat.reduceAdd,qD,qi,qE,allLive,Bool.and_true,nxA,nxR];rw[hnm,if_neg hb1',if_neg (by omega)]
theorem find_at{P:Str->Bool}{j:Nat}(hj:j<signs.length)(h0:(signs.take j).find? P=none)(hp:P (signs.getD j [])=true):signs.find? P=some (signs.getD j []):=by
 have e:signs.drop j=signs.getD j []::signs.drop (j+1):=by rw[List.drop_eq_getElem_cons hj];simp[List.getD,hj]
 rw[<-List.take_append_drop j signs,List.find?_append,h0,Option.none_or,List.take_append_drop,e,List.find?_cons,hp]
theorem find_next{P:Str->Bool}{j:Nat}(hj:j<signs.length)(h0:(signs.take j).find? P=none)(hp:P (signs.getD j [])=false):(signs.take (j+1)).find? P=none:=by
 have e:signs.take (j+1)=signs.take j++[signs.getD j []]:=by rw[List.take_add_one,List.getElem?_eq_getElem hj];simp[List.getD,hj]
 rw[e,List.find?_append,h0,Option.none_or,List.find?_cons,hp];rfl
set_option maxHeartbeats 1000000 in
theorem c_sign(wz:World)(h:AHeap)(kx:Nat)(lf:Bool)(s:Str)(mv tv:AVal)(i:Nat)(eb_x:h kx=some ⟨[.bool lf, .str s,mv, .int .i64 i,tv],0⟩)(hi:i<s.length)(hs:s.length<=1099511627776):
 ACall Tryz.prog wz 113 [.ptr (.own kx) 0] h (fun r h'=>r=nxR (qdO s i)/\h'=h):=by
 have hs_h:Sub h h:=Sub.refl h;obtain⟨P,hP⟩:∃P:Str->Bool,P=fun g=>g.isPrefixOf (s.drop i):=⟨_,rfl⟩
 have hse:qdO s i=match signs.find? P with|some g=>Tok.takeE s i 5 g.length|none=> .err 4:=by rw[hP];rfl
 have hdr:(s.drop ((i:Int)).toNat).take (((s.length:Nat):Int).toNat-((i:Int)).toNat)=s.drop i:=by rw[Int.toNat_natCast,Int.toNat_natCast,List.take_of_length_le (by simp)]
 refine qU (n:=34) (rs:=[.cell 2 54, .tmp 3, .tmp 4]) Tryz.func113 rfl rfl rfl rfl (Nat.le_of_ble_eq_true rfl) ?_;simp only[Qe];refine awp_rseq [0,2] (by rfl) fun K hK=>?_;refine Qj qam (cs:=[.int .u8 0, .str [], .int .i64 0, .int .i64 0, .bool false]) (by rfl) fun k0q0 hk0q0=>?_;have hn_0q0:h k0q0=none:=by first|assumption|(simp only[AHeap.set_none]at hk0q0;simp only[hk0q0])
 have hf_0q0:h k0q0=none:=Sub.none hs_h hn_0q0;have ne_0q0_x:k0q0≠kx:=AHeap.ne_some hn_0q0 eb_x;simp+decide only[qa,ev,qH,qF,putD,Slots.put,Slots.keep,if_true,if_false,true_and,↓qd,qb];apply hK;clear hK K;refine qK ?_;refine awp_rseq [0,2,7,8,9] (by rfl) fun K hK=>?_;refine Qm (cs:=signs.map AVal.str) (by kernel_rfl) fun k1q0 hk1q0=>?_;have ne_1q0_0q0:k1q0≠k0q0:=by simp only[AHeap.set_none]at hk1q0;simp only[hk1q0,ne_eq,not_false_eq_true]
 have hn_1q0:h k1q0=none:=by first|assumption|(simp only[AHeap.set_none]at hk1q0;simp only[hk1q0])
 have hf_1q0:h k1q0=none:=Sub.none hs_h hn_1q0;have ne_1q0_x:k1q0≠kx:=AHeap.ne_some hn_1q0 eb_x;simp+decide only[qa,ev,qH,qF,putD,Slots.put,Slots.get,Slots.keep,if_true,if_false,true_and,↓Xo,QD,ZI Tryz.underlying30,↓qh,qc];apply hK;clear hK K;refine Ql ?_;refine Xv [0,2,7,8,9] (fun j:Nat=>[(0, .ptr (.own kx) 0),(2, .ptr (.own k0q0) 0),(7, .slice (.own k1q0) 0 14 (.exact 14)),(8, .int .i64 14),(9, .int .i64 j)]) (fun j:Nat=>(h.set k0q0 ⟨[.int .u8 0, .str [], .int .i64 0, .int .i64 0, .bool false],0⟩).set k1q0 ⟨signs.map AVal.str,0⟩) (fun j:Nat=>j<=14/\(signs.take j).find? P=none) (fun j:Nat=>14-j) 0 (by rfl) (Sub.refl _) ⟨Nat.zero_le _,rfl⟩ ?_;rintro j ⟨hj,hf⟩;refine awp_rseq [0,2,7,8,9,10] (by rfl) fun K hK=>?_;simp+decide only[qa,ev,putD,Slots.put,Slots.get,Slots.keep,if_true,if_false,true_and,↓qA,ql,qR,cond_false,qo,XP];apply hK;clear hK K;refine qK (qJ (b:=_) rfl (fun hb1=>?_) (fun hb1=>?_))
 ·try simp only[decide_eq_true_eq]at hb1
  have hj':j<14:=by omega
  obtain⟨g,hg⟩:∃g,g=signs.getD j []:=⟨_,rfl⟩
  have he:(signs.map AVal.str).getD (j*1) .dead= .str g:=by rw[Nat.mul_one,hg];simp[List.getD,show j<signs.length from hj']
  refine qP ?_;change Awp _ _ _ _ _ _ _;refine qK ?_;refine Ql ?_;refine awp_rseq [0,2,6,7,8,9] (by rfl) fun K hK=>?_;simp+decide only[qa,ev,putD,Slots.put,Slots.get,Slots.keep,if_true,if_false,true_and,↓QB,qY,Qb Tryz.underlying30 sz9,↓qG,qy ag9,↓qd,qb,QP,Nat.zero_add,he,Int.toNat_natCast,AVal.live];repeat (with_reducible refine And.intro ?_ ?_;· first|trivial|omega|(intro hg;simp only[Bool.and_eq_true,Bool.or_eq_true,Bool.not_eq_true',Bool.and_eq_false_iff,Bool.or_eq_false_iff,Bool.not_eq_false',decide_eq_true_eq,decide_eq_false_iff_not,XV]at hg;omega))
  apply hK;clear hK K;refine WR [0,2,6,7,8,9,24] mixed (by kernel_rfl) (by rfl) fun K hK=>?_;simp+decide only[ev,putD,Slots.put,Slots.get,if_true,if_false,true_and,↓qcU,qc,↓qcd,qM,Qn,↓Uy,qm,Ug,YZ,↓qeB,XF,qy ag9,Wu,qy ag3,↓vp_slice,Zu,evO,qdi Tryz.underlying9,UN,qeZ,WZ,QO,ne_eq,not_false_eq_true,ne_0q0_x.symm,ne_1q0_x.symm,Qy wz eb_x,List.getD_cons_zero,List.getD_cons_succ,Nat.zero_add,qi,qE,hdr];repeat (with_reducible refine And.intro ?_ ?_;· first|trivial|omega|(intro hg;simp only[Bool.and_eq_true,Bool.or_eq_true,Bool.not_eq_true',Bool.and_eq_false_iff,Bool.or_eq_false_iff,Bool.not_eq_false',decide_eq_true_eq,decide_eq_false_iff_not,XV]at hg;omega))
  refine vOps_callV (V:= .bool (P g)) (by rfl) (by rfl) (by rw[hP];exact c_pref wz _ (s.drop i) g) ?_;simp+decide only[qbB,putD,Slots.put,Slots.keep,if_true,if_false];apply hK;clear hK K;refine qJ (b:=_) rfl (fun hb2=>?_) (fun hb2=>?_)
  ·skip
   have hse':qdO s i=Tok.takeE s i 5 g.length:=by rw[hse,find_at hj' hf (by rw[<-hg];exact hb2),<-hg]
   have hgl:i+g.length<=s.length:=by
    rw[hP]at hb2;have:=(List.isPrefixOf_iff_prefix.1 hb2).length_le;rw[List.length_drop]at this;omega
   refine awp_rseq [2,3,4] (by rfl) fun K hK=>?_;simp+decide only[ev,putD,Slots.put,Slots.get,if_true,if_false,true_and,↓qh,qc,↓Xo,QD,YK Tryz.underlying9];refine qN (V:=nxR (Tok.takeE s i 5 g.length)) (by rfl) (by rfl) (qeW wz _ kx lf s mv tv i g.length 5 (zqA) hgl hs) ?_;simp+decide only[ev,putD,Slots.put,Slots.get,if_true,if_false,true_and,↓QW,QH,QS,List.length_cons,List.length_nil,List.getD_cons_zero,List.getD_cons_succ,List.getD_cons_zero,List.getD_cons_succ,Nat.zero_add,Nat.reduceAdd,nxA,nxR,Tok.takeE];refine qp (by rfl) (by rfl) zqA Xa (by rfl) (by rfl) zqD (Nat.zero_le _) (by rfl) ?_;simp only[AVal.cells];simp+decide only[qa,ev,putD,Slots.put,Slots.get,Slots.keep,if_true,if_false,true_and,↓qd,qb,setAt,List.set_cons_zero,List.set_cons_succ,Nat.zero_add,Nat.reduceAdd];apply hK;clear hK K;refine qO ?_;try simp only[Qi,Qw]
   refine Qa h zqC (?_) ?_
   ·simp+decide only[QE,qw,qj,Slots.get,if_true,if_false,and_true,qw,qj,qg Zf Xa,Qc,qf,List.getD_cons_zero,List.getD_cons_succ,Nat.zero_add,Nat.reduceAdd,qD,qi,qE,allLive,Bool.and_true,qf,List.getD_cons_zero,List.getD_cons_succ,Nat.zero_add,Nat.reduceAdd,qD,qi,qE,allLive,Bool.and_true]
   simp+decide only[Slots.get,if_true,if_false,and_true,QF,qw,qj,qg Zf Xa,Qc,qf,List.getD_cons_zero,List.getD_cons_succ,Nat.zero_add,Nat.reduceAdd,qD,qi,qE,allLive,Bool.and_true,qf,List.getD_cons_zero,List.getD_cons_succ,Nat.zero_add,Nat.reduceAdd,qD,qi,qE,allLive,Bool.and_true,nxA,nxR];rw[hse'];rfl
  ·skip
   refine qP ?_;change Awp _ _ _ _ _ _ _;refine XA [0,2,7,8,9] (by rfl) ?_;simp+decide only[qa,ev,qH,qF,putD,Slots.put,Slots.get,Slots.keep,if_true,if_false,true_and,↓qA,ql,qB,cond_false,qo,QY,↓qh,qc,nxA,nxR];try simp(disch:=omega)only[wrap_i64]
   try simp only[Qg]
   exact⟨j+1,rfl,Sub.refl _,⟨hj',find_next hj' hf (by rw[<-hg];exact hb2)⟩,by omega⟩
 ·try simp only[decide_eq_false_iff_not]at hb1
  have hj14:j=14:=by omega
  have hse':qdO s i= .err 4:=by
   rw[hse];rw[hj14]at hf;rw[show signs.find? P=none from hf]
  refine Xy ?_;change Awp _ _ _ _ _ _ _;refine awp_rseq [2,3,4] (by rfl) fun K hK=>?_;simp+decide only[ev,qH,qF,putD,Slots.put,Slots.get,if_false,true_and,↓Qp,↓qW,qba,evP,List.map_nil];refine qp (by rfl) (by rfl) zqA Xa (by rfl) (by rfl) zqD (Nat.zero_le _) (by rfl) ?_;simp only[AVal.cells];simp+decide only[qa,ev,qH,qF,putD,Slots.put,Slots.get,Slots.keep,if_true,if_false,true_and,↓qd,qb,setAt,List.set_cons_zero,List.set_cons_succ,Nat.zero_add,Nat.reduceAdd];apply hK;clear hK K;refine qO ?_;refine Qa h zqC (?_) ?_
  ·simp+decide only[QE,qw,qj,Slots.get,if_true,if_false,and_true,qw,qj,qg Zf Xa,Qc,qf,List.getD_cons_zero,List.getD_cons_succ,Nat.zero_add,Nat.reduceAdd,qD,qi,qE,allLive,Bool.and_true,qf,List.getD_cons_zero,List.getD_cons_succ,Nat.zero_add,Nat.reduceAdd,qD,qi,qE,allLive,Bool.and_true]
  simp+decide only[Slots.get,if_true,if_false,and_true,QF,qw,qj,qg Zf Xa,Qc,qf,List.getD_cons_zero,List.getD_cons_succ,Nat.zero_add,Nat.reduceAdd,qD,qi,qE,allLive,Bool.and_true,qf,List.getD_cons_zero,List.getD_cons_succ,Nat.zero_add,Nat.reduceAdd,qD,qi,qE,allLive,Bool.and_true,nxA,nxR];rw[hse'];rfl
end Go.Proofs.YtlhhaagmakhilaaGreatDoor
namespace Go.Proofs.YtlhhaagmakhilaaGreatDoor
open Go.AM
open Go.Proofs
set_option maxRecDepth 100000
theorem cc_fresh(b:Nat)(w:World)(T:TypeId)(cells:Nat)(h0:w.cell? ⟨b,0,none⟩=some (.pointer none))(hsh:w.shape? b=some (T,cells))(hc:0<cells)
 (hlies:liesAt Tryz.prog Tryz.prog.depth T (cells / Tryz.prog.cellsOf T) 0 140 1=true) (hfz:w.frozen? ⟨b,0,none⟩=false):
 Calls Tryz.prog 89 #[.pointer (some ⟨b,0,none⟩)] w fun e w'=>e= .returned (.tuple #[])/\w'=w.setCell ⟨b,0,none⟩ (.pointer (some ⟨b,0,none⟩)):=by
 have hsz:(Tryz.prog.info? 140).map (·.size)=some 2:=by kernel_rfl
 obtain⟨j,hj,hjs⟩:=Option.map_eq_some_iff.1 hsz
 go_enter Tryz.func89,Tryz.ntmps89
 go_wp2
 rw[Lib.run_to_unsafe w ⟨b,0,none⟩ Tryz.underlying138 Tryz.underlying189 hj (by rw[hjs];decide) hsh hc];simp only[Result.andThen];rw[Oper.upon_value]
 go_wp2
 rw[run_callFunc_extern Tryz.func119 (by kernel_rfl) (by kernel_rfl) (by kernel_rfl) (e:=Extern.AbiNoEscape.same) (by kernel_rfl)];rw[Lib.run_noEscape];simp only[Result.andThen];rw[Oper.upon_value]
 go_wp2
 rw[Lib.run_from_unsafe w ⟨b,0,none⟩ Tryz.underlying189 Tryz.underlying138 hj hsh hlies];simp only[Result.andThen];rw[Oper.upon_value]
 go_wp2
 go_end0
 exact⟨rfl,rfl⟩
theorem cc_used(b:Nat)(w:World)(h0:w.cell? ⟨b,0,none⟩=some (.pointer (some ⟨b,0,none⟩))):
 Calls Tryz.prog 89 #[.pointer (some ⟨b,0,none⟩)] w fun e w'=>e= .returned (.tuple #[])/\w'=w:=by
 have hsz:(Tryz.prog.info? 140).map (·.size)=some 2:=by kernel_rfl
 obtain⟨j,hj,hjs⟩:=Option.map_eq_some_iff.1 hsz
 go_enter Tryz.func89,Tryz.ntmps89
 go_wp2
 rw[Lib.run_neq_ptr_same w _ Tryz.underlying138 hj]
 go_wp2
 go_end0
 exact⟨rfl,rfl⟩
structure BldT(T:TypeId)(m:Nat):Prop where
 lies:liesAt Tryz.prog Tryz.prog.depth T 1 0 140 1=true
 cells:Tryz.prog.cellsOf T=m
 two:2<=m
theorem c_copyCheck(wz:World)(h:AHeap)(k:Nat)(rest:List AVal)(st:Bld)(T:TypeId)(hT:BldT T (rest.length+2))(ht:Uh k=some T)(hst:st.ok 5 h k):
 ACall Tryz.prog wz 89 [.ptr (.own k) 0] (bldH h k rest st) (fun v h'=>v= .tuple []/\h'=bldH h k rest ⟨true,st.buf⟩):=by
 intro fi vals w hr hvs;simp only[VRs,VR]at hvs;obtain⟨v,vs',rfl,⟨a,ha,rfl⟩,rfl⟩:=hvs;obtain⟨p,hp,hp0,ok⟩:=hr.own k _ (qbz hst);obtain⟨t0,cs0,fr0,hcs0⟩:=hr.typ k p hp T ht;simp only[Xl,hp,Option.map_some,Option.some.injEq]at ha;have okr:RowOk fi ⟨st.head k::st.slice::rest,0⟩ p w:=by
  rcases ok with q|q
  ·exact q
  ·have:=q.frz
   simp at this
 obtain⟨cs,e,lo,hi,h1,h2,h3,h4,h5,h6⟩:=okr.row;rw[hcs0]at h1;cases h1;obtain⟨c0,hc0,hv0⟩:=ok.cell 0 (by simp) (Bld.head_live _ _);have hfz:=okr.frozen 0 (Nat.zero_le _) (by simp at h3;omega);rw[t0]at hc0 hfz ha;simp only[Nat.zero_add]at hc0 hfz ha;subst ha;have hsh:w.shape? p.blk=some (T,cs0.size):=by simp[World.shape?,hcs0]
 have hr':=hr.setCell (qbz hst) hp (o:=0) (x:= .ptr (.own k) 0) (v:= .pointer (some ⟨p.blk,0,none⟩)) (by simp only[VR];exact⟨_,by simp[Xl,hp,t0],rfl⟩) rfl (by simp) (Nat.zero_le _);simp only[List.set_cons_zero]at hr';rw[bldH_used hst,t0]at hr';have hun:VR fi (.tuple []) (.tuple #[]):=by simp only[VR];exact⟨[],rfl,by simp[VRs]⟩
 refine .inl ⟨_,Tryz.func89,rfl,rfl,?_⟩;simp only[List.getD_cons_zero]at hv0;by_cases hu:st.used=true
 ·have e0:st.head k= .ptr (.own k) 0:=by rw[Bld.head,if_pos hu]
  rw[e0]at hv0;simp only[VR,Xl,hp,Option.map_some,Option.some.injEq]at hv0;obtain⟨a,ha,rfl⟩:=hv0;subst ha;rw[t0]at hc0;refine(cc_used p.blk w (by simpa using hc0)).mono fun e w' ⟨e1,e2⟩=>⟨.tuple #[],e1,fi, .tuple [],_,fi.le_refl,?_,hun,rfl,rfl⟩
  rw[e2];have:st=⟨true,st.buf⟩:=by cases st;simp at hu;simp[hu]
  rw[<-this];exact hr
 ·have e0:st.head k= .nilPtr:=by rw[Bld.head,if_neg hu]
  rw[e0]at hv0;simp only[VR]at hv0;subst hv0;have hle:rest.length+2<=cs0.size:=by simp at h3;omega
  refine(cc_fresh p.blk w T cs0.size hc0 hsh (by omega) (liesAt_first hT.lies (fun m u=>by rw[Tryz.underlying140];simp) (by
   rw[hT.cells];exact Nat.div_pos hle (by omega))) hfz).mono fun e w' ⟨e1,e2⟩=>⟨.tuple #[],e1,fi, .tuple [],_,fi.le_refl,?_,hun,rfl,rfl⟩
  rw[e2];exact hr'
set_option maxHeartbeats 1000000 in
theorem bs_some(b g cap cells:Nat)(l:List UInt8)(h0:l≠[])(w:World)(hc1:w.cell? ⟨b,1,none⟩=some (.slice (some ⟨g,0,none⟩) l.length cap))(hcap:cap≠0)(hsh:w.shape? g=some (5,cells))(hn:l.length<=cells)
 (h63:l.length<=9223372036854775807) (hcell:∀j x,l[j]?=some x->w.cell? ((⟨g,0,none⟩:Addr).add j)=some (.int .u8 x.toNat)):
 Calls Tryz.prog 72 #[.pointer (some ⟨b,0,none⟩)] w fun e w'=>e= .returned (.string ⟨l.toArray⟩)/\w'=w.drew.freeze ⟨g,0,none⟩ l.length:=by
 have c1:w.drew.cell? ⟨b,1,none⟩=some (.slice (some ⟨g,0,none⟩) l.length cap):=hc1;have hSD:(Builtin.unsafeSliceData_ #[22] 166 #[.slice (some ⟨g,0,none⟩) l.length cap]).run Tryz.prog w.drew= .ok (.pointer (some ⟨g,0,none⟩)) w.drew:=Lib.run_unsafeSliceData_row _ _ _ _ _ _ hcap;have hUS:(Builtin.unsafeString_ #[166,3] 9 #[.pointer (some ⟨g,0,none⟩), .int .i64 l.length]).run Tryz.prog w.drew= .ok (.string ⟨l.toArray⟩) (w.drew.freeze ⟨g,0,none⟩ l.length):=
  Lib.run_unsafeString_row w.drew 166 3 9 5 Tryz.underlying166 (by kernel_rfl) g cells hsh l h0 hn h63 hcell
 go_enter Tryz.func72,Tryz.ntmps72
 go_wp2
 have hmx:Tryz.prog.follows Departure.mixedOrders=true:=mixed
 go_region_o
 all_goals (go_wp2;go_ret;exact⟨rfl,rfl⟩)
set_option maxHeartbeats 1000000 in
theorem bs_nil(b:Nat)(w:World)(hc1:w.cell? ⟨b,1,none⟩=some (.slice none 0 0)):
 Calls Tryz.prog 72 #[.pointer (some ⟨b,0,none⟩)] w fun e w'=>e= .returned (.string ⟨#[]⟩)/\w'=w.drew:=by
 have c1:w.drew.cell? ⟨b,1,none⟩=some (.slice none 0 0):=hc1;have hSD:(Builtin.unsafeSliceData_ #[22] 166 #[.slice none 0 0]).run Tryz.prog w.drew= .ok (.pointer none) w.drew:=rfl;have hUS:(Builtin.unsafeString_ #[166,3] 9 #[.pointer none, .int .i64 0]).run Tryz.prog w.drew= .ok (.string .empty) w.drew:=rfl
 go_enter Tryz.func72,Tryz.ntmps72
 go_wp2
 have hmx:Tryz.prog.follows Departure.mixedOrders=true:=mixed
 go_region_o
 all_goals (go_wp2;go_ret;exact⟨rfl,rfl⟩)
theorem c_bString(wz:World)(h:AHeap)(k:Nat)(rest:List AVal)(st:Bld)(T:TypeId)(hk:h k=none)(ht:Uh k=some T)(hst:st.ok 5 h k)(hl:st.bytes.length<=140737488355328):
 ACall Tryz.prog wz 72 [.ptr (.own k) 0] (bldH h k rest st) (fun v h'=>v= .str st.bytes/\h'=h):=by
 intro fi vals w hr hvs;simp only[VRs,VR]at hvs;obtain⟨v,vs',rfl,⟨a,ha,rfl⟩,rfl⟩:=hvs;obtain⟨p,hp,hp0,ok⟩:=hr.own k _ (qbz hst);obtain⟨t0,cs0,fr0,hcs0⟩:=hr.typ k p hp T ht;simp only[Xl,hp,Option.map_some,Option.some.injEq]at ha;obtain⟨c1,hc1,hv1⟩:=ok.cell 1 (by simp) (Bld.slice_live _);rw[t0]at hc1 ha;simp only[Nat.zero_add]at hc1 ha;subst ha;simp only[List.getD_cons_succ,List.getD_cons_zero]at hv1;refine .inl ⟨_,Tryz.func72,rfl,rfl,?_⟩;cases hb:st.buf with
 |none=>
  have e1:=Bld.slice_nil hb;have e2:=Bld.bytes_nil hb;rw[e1]at hv1;simp only[VR]at hv1;subst hv1;rw[e2];refine(bs_nil p.blk w hc1).mono fun e w' ⟨e1,e2⟩=>⟨_,e1,fi, .str [],h,fi.le_refl,?_,rfl,rfl,rfl⟩
  rw[e2];exact hr.drew.forget (Sub.bldH hk hst)
 |some q=>
  obtain⟨kb,l⟩:=q;have e1:=Bld.slice_some hb;have e2:=Bld.bytes_some hb;obtain⟨s1,s2,s3,s4⟩:=(Bld.ok_some hb).1 hst;have hkb:=bldH_buf (h:=h) (k:=k) (rest:=rest) hb;obtain⟨pb,hpb,hpb0,okb⟩:=hr.own kb _ hkb;obtain⟨tb0,csb,frb,hcsb⟩:=hr.typ kb pb hpb _ s3;obtain⟨cs,e,lo,hi,h1,h2,h3,h4,h5,h6⟩:=okb.row (Nat.zero_le _);rw[hcsb]at h1;cases h1;rw[byteCells_length]at h3;rw[e1]at hv1;simp only[VR]at hv1;obtain⟨k',p',c,a,hk',hp',rfl,hle,hca⟩:=hv1;cases hk';rw[hpb]at hp';cases hp';have hln:l.length≠0:=by simpa using s4
  obtain⟨ha,hroom⟩:=hca (by omega);subst ha;rw[tb0]at hc1;rw[e2];rw[e2]at hl;refine(bs_some p.blk pb.blk c csb.size l s4 w hc1 (by omega) (by simp[World.shape?,hcsb]) (by omega) (by omega) fun j x hj=>?_).mono fun e w' ⟨f1,f2⟩=>⟨_,f1,fi, .str l,h,fi.le_refl,?_,rfl,rfl,rfl⟩
  ·have hjl:j<l.length:=by
    rcases Nat.lt_or_ge j l.length with hx|hx
    ·exact hx
    ·rw[List.getElem?_eq_none hx]at hj;cases hj
   obtain⟨cj,hcj,hvj⟩:=okb.cell j (by rw[byteCells_length];exact hjl) (by rw[qbV hjl];rfl);rw[tb0,Nat.zero_add]at hcj;simp only[qbV hjl]at hvj;simp only[VR]at hvj;subst hvj;have ex:l.getD j 0=x:=by rw[List.getD,hj];rfl
   rw[ex]at hcj;have e8:(⟨pb.blk,0,none⟩:Addr).add j=⟨pb.blk,j,none⟩:=by
    unfold Addr.add;by_cases hi:j=0<;>simp[hi]
   rw[e8];exact hcj
  ·subst f2
   obtain⟨z1,z2,z3,z4,z5,z6⟩:=freeze_facts w.drew ⟨pb.blk,0,none⟩ l.length;exact hr.drew.dropRow hkb hpb z1 z2 z3 z4 z5 z6 fun j c hj=>⟨Sub.bldH hk hst j c hj,fun e=>by subst e;rw[s2]at hj;cases hj⟩
end Go.Proofs.YtlhhaagmakhilaaGreatDoor
namespace Go.Proofs.YtlhhaagmakhilaaGreatDoor
open Go.AM
open Go.Proofs
set_option maxRecDepth 100000
theorem u8_typ:(5:Nat)<4096:=by decide
theorem c_WriteByte(wz:World)(h:AHeap)(k:Nat)(rest:List AVal)(st:Bld)(T:TypeId)(hT:BldT T (rest.length+2))(ht:Uh k=some T)(hk:h k=none)(hst:st.ok 5 h k)(c:UInt8)(hl:st.bytes.length+1<=140737488355328):
 ACall Tryz.prog wz 135 [.ptr (.own k) 0, .int .u8 c.toNat] (bldH h k rest st) (fun v h'=>v= .nilIface/\∃st':Bld,st'.ok 5 h k/\st'.bytes=st.bytes++[c]/\h'=bldH h k rest st'):=by
 have hst2:(⟨true,st.buf⟩:Bld).ok 5 h k:=hst;have hhead:=qbz (rest:=rest) hst2;refine qU (n:=17) (rs:=[.tmp 4]) Tryz.func135 rfl rfl rfl rfl (Nat.le_of_ble_eq_true rfl) ?_;simp only[Qe];refine awp_rseq [0,1] (by rfl) fun K hK=>?_;simp+decide only[qa,ev,qH,qF,putD,Slots.put,Slots.keep,if_true,if_false,true_and,↓qd,qb];apply hK;clear hK K;refine awp_rseq [0,1] (by rfl) fun K hK=>?_;simp+decide only[ev,putD,Slots.put,Slots.get,if_true,if_false,true_and,↓qh,qc];refine QN (by rfl) (by rfl) (c_copyCheck wz h k rest st T hT ht hst) fun x1q1 h1q1 hx1q1=>?_;obtain⟨rfl,rfl⟩:=hx1q1;simp+decide only[qa,putD,Slots.put,Slots.keep,if_true,if_false];apply hK;clear hK K;refine awp_rseq [] (by rfl) fun K hK=>?_;simp+decide only[ev,putD,Slots.put,Slots.get,if_true,if_false,true_and,↓qh,qc,↓Qk,qM,Qn,↓qC,qm,fa140_1,↓qG,qY,qy ag22,Bld.slice_live,List.getD_cons_zero,List.getD_cons_succ,Qy wz hhead];refine Qm (cs:=byteCells [c]) (by rfl) fun k6 hk6=>?_;refine aOps_appendBld (src:=[c]) (hZ:=h) (k:=k) (cs:=rest) (st:=⟨true,st.buf⟩) (by rfl) (by rfl) Tryz.underlying22 Tryz.underlying22 (by intro k e;cases e) sz5 by5 ze5 u8_typ (by rfl) hk hst2 (Sub.set hk6) (by rfl) (SrcB.of (IsB.own (AHeap.set_same _ _ _) rfl (Nat.le_refl _))) (by simpa[Bld.bytes]using hl) fun st' hu' hst' hb' h' hk' hsub=>?_;simp+decide only[ev,putD,Slots.put,Slots.get,if_true,if_false,true_and,↓Qk,qM,Qn,↓qC,qm,fa140_1];refine qp (by rfl) (by rfl) hk' sz22 (Bld.slice_live _) (by rw[Bld.slice_cells];rfl) (by simp) (Nat.zero_le _) (by rw[Bld.slice_cells];simp[QC,Bld.slice_scal]) ?_;rw[Bld.slice_cells];simp only[setAt,List.set_cons_succ,List.set_cons_zero];have hhd:st'.head k=(⟨true,st.buf⟩:Bld).head k:=by unfold Bld.head;rw[hu']
 rw[hhd]at hsub;simp+decide only[qa,putD,Slots.keep,if_false];apply hK;clear hK K;refine awp_rseq [4] (by rfl) fun K hK=>?_;simp+decide only[qa,ev,qH,qF,putD,Slots.put,Slots.keep,if_true,true_and,↓qd,qb];apply hK;clear hK K;refine qO ?_;refine Qa (bldH h k rest st') hsub (qZ (Qd)) ?_;simp+decide only[Slots.get,if_true,true_and,Qr];exact⟨st',hst',hb',rfl⟩
end Go.Proofs.YtlhhaagmakhilaaGreatDoor
namespace Go.Proofs.YtlhhaagmakhilaaGreatDoor
open Go.AM
open Go.Proofs
open Go.Col
open Go.Tok
open Go.RowKit (Below)
set_option maxRecDepth 100000
theorem Bld.slice_lenT{st:Bld}:st.slice= .nilSlice/\st.bytes=[]\/∃l o c,st.slice= .slice l o st.bytes.length c:=by
 cases hb:st.buf with
 |none=>exact .inl ⟨Bld.slice_nil hb,Bld.bytes_nil hb⟩
 |some q=>exact .inr ⟨.own q.1,0, .grow 1,by rw[Bld.slice_some (kb:=q.1) (l:=q.2) hb,Bld.bytes_some (kb:=q.1) (l:=q.2) hb]⟩
theorem c_bLenT(wz:World)(h:AHeap)(k:Nat)(rest:List AVal)(st:Bld)(hst:st.ok 5 h k):
 ACall Tryz.prog wz 96 [.ptr (.own k) 0] (bldH h k rest st) (fun v h'=>v= .int .i64 st.bytes.length/\h'=bldH h k rest st):=by
 have hhead:=qbz (rest:=rest) hst;have r1:rd wz (bldH h k rest st) (.own k) 1=st.slice:=Qy wz hhead 1;have hl:∀H:AHeap,Ye Tryz.prog H 22 st.slice=⟨True, .int .i64 st.bytes.length⟩:=by
  rcases Bld.slice_lenT (st:=st)with⟨e1,e2⟩|⟨l,o,c,e⟩
  ·rw[e1,e2];exact fun _=>qdY Tryz.underlying22
  ·rw[e];exact fun _=>ZI Tryz.underlying22 _ _ _ _
 refine qU (n:=8) (rs:=[.tmp 2]) Tryz.func96 rfl rfl rfl rfl (Nat.le_of_ble_eq_true rfl) ?_;simp only[Qe];refine awp_rseq [0] (by rfl) fun K hK=>?_;simp+decide only[qa,ev,qH,qF,putD,Slots.put,Slots.keep,if_true,if_false,true_and,↓qd,qb];apply hK;clear hK K;refine awp_rseq [2] (by rfl) fun K hK=>?_;simp+decide only[qa,ev,putD,Slots.put,Slots.get,Slots.keep,if_true,if_false,true_and,↓qh,qc,↓Qk,qM,Qn,↓qC,qm,fa140_1,↓qG,qY,qy ag22,↓Xo,QD,↓qd,qb,r1,Bld.slice_live,hl];apply hK;clear hK K;refine qO ?_;refine Qa _ (Sub.refl _) (qZ (Qd)) ?_;simp+decide only[Slots.get,if_true,and_true,Qr];all_goals first|rfl|exact⟨rfl,rfl⟩|(simp+decide only[if_true,if_false, *];done)|(trace_state;fail)
theorem bldT_selfT:BldT 140 ([]:List AVal).length.succ.succ:=⟨by kernel_rfl,by kernel_rfl,by decide⟩
set_option maxHeartbeats 1000000 in
theorem c_quote(wz:World)(h:AHeap)(kx:Nat)(lf:Bool)(s:Str)(mv tv:AVal)(i:Nat)(eb_x:h kx=some ⟨[.bool lf, .str s,mv, .int .i64 i,tv],0⟩)(hi:i<s.length)(hs:s.length<=1099511627776):
 ACall Tryz.prog wz 108 [.ptr (.own kx) 0] h (fun r h'=>r=nxR (qaS s i)/\h'=h):=by
 have hs_h:Sub h h:=Sub.refl h;refine qU (n:=44) (rs:=[.cell 2 54, .tmp 3, .tmp 4]) Tryz.func108 rfl rfl rfl rfl (Nat.le_of_ble_eq_true rfl) ?_;simp only[Qe];refine awp_rseq [0,2] (by rfl) fun K hK=>?_;refine Qj qam (cs:=[.int .u8 0, .str [], .int .i64 0, .int .i64 0, .bool false]) (by rfl) fun k0q0 hk0q0=>?_;have hn_0q0:h k0q0=none:=by first|assumption|(simp only[AHeap.set_none]at hk0q0;simp only[hk0q0])
 have hf_0q0:h k0q0=none:=Sub.none hs_h hn_0q0;have ne_0q0_x:k0q0≠kx:=AHeap.ne_some hn_0q0 eb_x;simp+decide only[qa,ev,qH,qF,putD,Slots.put,Slots.keep,if_true,if_false,true_and,↓qd,qb];apply hK;clear hK K;refine awp_aseqT [0,2,5] (by decide) (by decide) ze140 (cs:=[.nilPtr, .nilSlice]) (by rfl) fun k1q0 hk1q0 ht1q0=>?_;simp+decide only[Slots.put,Slots.keep,if_true,if_false];have ne_1q0_0q0:k1q0≠k0q0:=by simp only[AHeap.set_none]at hk1q0;simp only[hk1q0,ne_eq,not_false_eq_true]
 have hn_1q0:h k1q0=none:=by first|assumption|(simp only[AHeap.set_none]at hk1q0;simp only[hk1q0])
 have hf_1q0:h k1q0=none:=Sub.none hs_h hn_1q0;have ne_1q0_x:k1q0≠kx:=AHeap.ne_some hn_1q0 eb_x;obtain⟨H,hH⟩:∃H,H=h.set k0q0 ⟨[.int .u8 0, .str [], .int .i64 0, .int .i64 0, .bool false],0⟩:=⟨_,rfl⟩
 have hxH:H kx=some ⟨[.bool lf, .str s,mv, .int .i64 i,tv],0⟩:=by rw[hH];exact zqA
 have h0H:H k0q0=some ⟨[.int .u8 0, .str [], .int .i64 0, .int .i64 0, .bool false],0⟩:=by rw[hH];exact zqA
 have hsH:Sub h H:=by rw[hH];exact zqB
 rw[<-hH]at hk1q0|-
 refine qK ?_;refine awp_rseq [0,2,5,6] (by rfl) fun K hK=>?_;simp+decide only[qa,ev,qH,qF,putD,Slots.put,Slots.keep,if_true,if_false,true_and,↓qd,qb];apply hK;clear hK K;refine Ql ?_;refine Xv [0,2,5,6] (fun g:Nat×Bld=>[(0, .ptr (.own kx) 0),(2, .ptr (.own k0q0) 0),(5, .ptr (.own k1q0) 0),(6, .int .i64 g.1)]) (fun g:Nat×Bld=>bldH H k1q0 [] g.2) (fun g:Nat×Bld=>i+g.1<=s.length/\g.2.ok 5 H k1q0/\Zt (s.drop (i+g.1)) g.2.bytes g.1=qaS s i/\g.2.bytes.length<=g.1) (fun g:Nat×Bld=>s.length-g.1) (1,Bld.none) (by rfl) (Sub.refl _) ⟨hi,Bld.none_ok,rfl,Nat.zero_le _⟩ ?_;rintro⟨n,st⟩ ⟨hn,hst,hgo,hbl⟩;simp only at hn hst hgo hbl|-
 have hsb:=Sub.bldH (rest:=[]) hk1q0 hst;have hSb:=hsH.trans hsb;have hxb:=hsb _ _ hxH;have h0b:=hsb _ _ h0H;have rx:=fun o=>Qy wz hxb o;refine qK ?_;refine Zn [0,2,5,6,19] mixed (by kernel_rfl) (by rfl) (by rfl) fun K hK=>?_;simp+decide only[qa,ev,putD,Slots.put,Slots.get,Slots.keep,if_true,if_false,true_and,↓qh,qc,↓Qk,qM,Qn,↓qC,qm,Wu,↓qG,qY,qy ag3,↓qA,ql,qR,cond_false,qo,QY,Ug,YZ,qy ag9,↓Xo,QD,YK Tryz.underlying9,XP,List.getD_cons_zero,List.getD_cons_succ,Nat.zero_add,qi,qE,rx];try simp(disch:=omega)only[wrap_i64]
 apply hK;clear hK K;refine qJ (b:=_) rfl (fun hb1=>?_) (fun hb1=>?_)
 ·try simp only[decide_eq_true_eq]at hb1
  have hin:i+n<s.length:=by omega
  have hpn:Qo s ((i:Int)+n)=s.getD (i+n) 0:=by rw[show(i:Int)+(n:Int)=((i+n:Nat):Int) by omega,YJ hin]
  have hpn1:Qo s ((i:Int)+((n:Int)+1))=Qo s ((i+n+1:Nat):Int):=by congr 1
  rw[qdt hin]at hgo;refine qP ?_;change Awp _ _ _ _ _ _ _;refine qK ?_;refine Ql ?_;refine qK ?_;refine awp_rseq [0,2,5,6,25] (by rfl) fun K hK=>?_;simp+decide only[ev,putD,Slots.put,Slots.get,if_true,if_false,true_and,↓qh,qc];refine qN (V:= .int .u8 (s.getD (i+n) 0).toNat) (by rfl) (by rfl) (by rw[<-hpn];exact Uw wz _ kx lf s mv tv i n hxb (by omega) (by omega) (by omega)) ?_;simp+decide only[qa,ev,qH,qF,putD,Slots.put,Slots.get,Slots.keep,if_true,if_false,true_and,↓qA,ql,qB,cond_false,qo,XR];apply hK;clear hK K;refine Ue [0,2,5,6] (fun m:Nat=>[(0, .ptr (.own kx) 0),(2, .ptr (.own k0q0) 0),(5, .ptr (.own k1q0) 0),(6, .int .i64 m)]) (fun m:Nat=>bldH H k1q0 [] st) (fun m:Nat=>n<=m/\i+m<s.length/\Zt (s.drop (i+m+1)) (st.bytes++[s.getD (i+m) 0]) (m+1)=qaS s i) ?_ ?_
  ·refine qJ (b:=_) rfl (fun hb2=>?_) (fun hb2=>?_)
   ·try simp only[decide_eq_true_eq]at hb2
    have hb2':s.getD (i+n) 0=34:=(Zi _ 34).mp hb2;rw[hb2']at hgo;refine qK ?_;refine awp_rseq [0,2,5,6,30] (by rfl) fun K hK=>?_;simp+decide only[ev,qH,qF,putD,Slots.put,Slots.get,if_true,if_false,true_and,↓qh,qc,↓qA,ql,qB,cond_false,qo,QY];try simp(disch:=omega)only[wrap_i64]
    refine qN (V:= .int .u8 (Qo s ((i:Int)+((n:Int)+1))).toNat) (by rfl) (by rfl) (Uw wz _ kx lf s mv tv i ((n:Int)+1) hxb (by omega) (by omega) (by omega)) ?_;simp+decide only[qa,ev,qH,qF,putD,Slots.put,Slots.get,Slots.keep,if_true,if_false,true_and,↓qA,ql,qB,cond_false,qo,qag];apply hK;clear hK K;refine qJ (b:=_) rfl (fun hb3=>?_) (fun hb3=>?_)
    ·try simp only[decide_eq_false_iff_not,Bool.not_eq_true']at hb3
     have hb3':(s.drop (i+n+1)).head?≠some 34:=by
      intro e;rw[List.head?_drop]at e;obtain⟨e1,e2⟩:=List.getElem?_eq_some_iff.1 e;rw[hpn1,YJ e1,List.getD,e]at hb3;exact hb3 rfl
     rw[qdV hb3']at hgo;refine qK ?_;refine awp_rseq [2,5,6,32] (by rfl) fun K hK=>?_;refine qN (V:= .int .i64 st.bytes.length) (by rfl) (by rfl) (c_bLenT wz H k1q0 [] st hst) ?_;simp+decide only[qa,ev,qH,qF,putD,Slots.put,Slots.get,Slots.keep,if_true,if_false,true_and,↓qA,ql,qB,cond_false,qo,XR];apply hK;clear hK K;refine qJ (b:=_) rfl (fun hb4=>?_) (fun hb4=>?_)
     ·try simp only[decide_eq_true_eq]at hb4
      have hne:st.bytes=[]:=List.eq_nil_of_length_eq_zero (by omega);have hgo':qaS s i= .err 4:=by rw[<-hgo,if_pos hne]
      refine Xy ?_;change Awp _ _ _ _ _ _ _;refine awp_rseq [2,3,4] (by rfl) fun K hK=>?_;simp+decide only[ev,qH,qF,putD,Slots.put,Slots.get,if_false,true_and,↓Qp,↓qW,qba,evP,List.map_nil];refine qp (by rfl) (by rfl) zqA Xa (by rfl) (by rfl) zqD (Nat.zero_le _) (by rfl) ?_;simp only[AVal.cells];simp+decide only[qa,ev,qH,qF,putD,Slots.put,Slots.get,Slots.keep,if_true,if_false,true_and,↓qd,qb,setAt,List.set_cons_zero,List.set_cons_succ,Nat.zero_add,Nat.reduceAdd];apply hK;clear hK K;refine qO ?_;refine Qa h zqC (?_) ?_
      ·simp+decide only[QE,qw,qj,Slots.get,if_true,if_false,and_true,qw,qj,qg Zf Xa,Qc,qf,List.getD_cons_zero,List.getD_cons_succ,Nat.zero_add,Nat.reduceAdd,qD,qi,qE,allLive,Bool.and_true,qf,List.getD_cons_zero,List.getD_cons_succ,Nat.zero_add,Nat.reduceAdd,qD,qi,qE,allLive,Bool.and_true]
      simp+decide only[Slots.get,if_true,if_false,and_true,QF,qw,qj,qg Zf Xa,Qc,qf,List.getD_cons_zero,List.getD_cons_succ,Nat.zero_add,Nat.reduceAdd,qD,qi,qE,allLive,Bool.and_true,qf,List.getD_cons_zero,List.getD_cons_succ,Nat.zero_add,Nat.reduceAdd,qD,qi,qE,allLive,Bool.and_true,nxA,nxR];rw[hgo'];rfl
     ·try simp only[decide_eq_false_iff_not]at hb4
      have hne:¬st.bytes=[]:=fun e=>hb4 (by rw[e];rfl);refine qP ?_;change Awp _ _ _ _ _ _ _;refine awp_rseq [2,3,4] (by rfl) fun K hK=>?_;refine QN (by rfl) (by rfl) (c_bString wz H k1q0 [] st _ hk1q0 ht1q0 hst (by omega)) fun x8q0 h8q0 hx8q0=>?_;obtain⟨hv8,hh8⟩:=hx8q0;rw[hv8,hh8];rw[if_neg hne]at hgo;simp+decide only[ev,qH,qF,putD,Slots.put,Slots.get,if_true,if_false,true_and,↓Qp,↓qW,UD,evP,List.map_cons,List.map_nil,↓qh,qc,↓qA,ql,qB,cond_false,qo,QY];try simp(disch:=omega)only[wrap_i64]
      refine qp (by rfl) (by rfl) zqA Xa (by rfl) (by rfl) zqD (Nat.zero_le _) (by rfl) ?_;simp only[AVal.cells];simp+decide only[qa,ev,qH,qF,putD,Slots.put,Slots.get,Slots.keep,if_true,if_false,true_and,↓qd,qb,setAt,List.set_cons_zero,List.set_cons_succ,Nat.zero_add,Nat.reduceAdd];apply hK;clear hK K;refine qO ?_;try simp only[Qi,Qw]
      refine Qa h zqC (?_) ?_
      ·simp+decide only[QE,qw,qj,Slots.get,if_true,if_false,and_true,qw,qj,qg Zf Xa,Qc,qf,List.getD_cons_zero,List.getD_cons_succ,Nat.zero_add,Nat.reduceAdd,qD,qi,qE,allLive,Bool.and_true,qf,List.getD_cons_zero,List.getD_cons_succ,Nat.zero_add,Nat.reduceAdd,qD,qi,qE,allLive,Bool.and_true]
      simp+decide only[Slots.get,if_true,if_false,and_true,QF,qw,qj,qg Zf Xa,Qc,qf,List.getD_cons_zero,List.getD_cons_succ,Nat.zero_add,Nat.reduceAdd,qD,qi,qE,allLive,Bool.and_true,qf,List.getD_cons_zero,List.getD_cons_succ,Nat.zero_add,Nat.reduceAdd,qD,qi,qE,allLive,Bool.and_true,nxA,nxR];rw[<-hgo];rfl
    ·try simp only[decide_eq_true_eq,Bool.not_eq_false']at hb3
     have hb3':Qo s ((i+n+1:Nat):Int)=34:=by rw[<-hpn1];exact(Zi _ 34).mp hb3
     have hin1:i+n+1<s.length:=qbJ (by rw[hb3'];decide);rw[YJ hin1]at hb3';rw[qdt hin1,hb3',qdT]at hgo;refine qP ?_;change Awp _ _ _ _ _ _ _;refine XA [0,2,5,6] (by rfl) ?_;simp+decide only[qa,ev,qH,qF,putD,Slots.put,Slots.get,Slots.keep,if_true,if_false,true_and,↓qh,qc,↓qA,ql,qB,cond_false,qo,QY,↓qd,qb,nxA,nxR];try simp(disch:=omega)only[wrap_i64]
     try simp only[Qg]
     first
     |exact⟨n+1,rfl,Sub.refl _,by omega,by omega,by rw[<-hgo,show i+(n+1)=i+n+1 by omega,hb3']⟩
     |exact⟨n,rfl,Sub.refl _,by omega,by omega,by rw[<-hgo,qaK (fun e=>hb2 ((Zi _ 34).mpr e))]⟩
   ·try simp only[decide_eq_false_iff_not]at hb2
    refine qP ?_;try simp only[Qg]
    first
    |exact⟨n+1,rfl,Sub.refl _,by omega,by omega,by rw[<-hgo,show i+(n+1)=i+n+1 by omega,hb3']⟩
    |exact⟨n,rfl,Sub.refl _,by omega,by omega,by rw[<-hgo,qaK (fun e=>hb2 ((Zi _ 34).mpr e))]⟩
  ·rintro m ⟨hnm,him,hgm⟩
   have hpm:Qo s ((i:Int)+m)=s.getD (i+m) 0:=by rw[show(i:Int)+(m:Int)=((i+m:Nat):Int) by omega,YJ him]
   refine XA [0,2,5,6] (by rfl) ?_;simp+decide only[ev,putD,Slots.put,Slots.get,if_true,if_false,true_and,↓qh,qc,nxA,nxR];refine qN (V:= .int .u8 (s.getD (i+m) 0).toNat) (by rfl) (by rfl) (by rw[<-hpm];exact Uw wz _ kx lf s mv tv i m hxb (by omega) (by omega) (by omega)) ?_;refine QN (by rfl) (by rfl) (c_WriteByte wz H k1q0 [] st _ bldT_selfT ht1q0 hk1q0 hst (s.getD (i+m) 0) (by omega)) fun x10q3 h10q3 hx10q3=>?_;obtain⟨hv10,st',hst',hbt',hh10⟩:=hx10q3;rw[hh10];simp+decide only[qa,putD,Slots.put,Slots.keep,if_true,if_false];change Awp _ _ _ _ _ _ _;refine XA [0,2,5,6] (by rfl) ?_;simp+decide only[qa,ev,qH,qF,putD,Slots.put,Slots.get,Slots.keep,if_true,if_false,true_and,↓qh,qc,↓qA,ql,qB,cond_false,qo,QY,↓qd,qb];try simp(disch:=omega)only[wrap_i64]
   try simp only[Qg]
   refine⟨(m+1,st'),rfl,Sub.refl _,⟨by simp only;omega,hst',?_,by simp only;rw[hbt',List.length_append];simp;omega⟩,by simp only;omega⟩;simp only;rw[hbt',<-Nat.add_assoc];exact hgm
 ·try simp only[decide_eq_false_iff_not]at hb1
  have hend:qaS s i= .err 4:=by rw[<-hgo,List.drop_eq_nil_of_le (by omega),qdU]
  refine Xy ?_;change Awp _ _ _ _ _ _ _;refine awp_rseq [2,3,4] (by rfl) fun K hK=>?_;simp+decide only[ev,qH,qF,putD,Slots.put,Slots.get,if_false,true_and,↓Qp,↓qW,qba,evP,List.map_nil];refine qp (by rfl) (by rfl) zqA Xa (by rfl) (by rfl) zqD (Nat.zero_le _) (by rfl) ?_;simp only[AVal.cells];simp+decide only[qa,ev,qH,qF,putD,Slots.put,Slots.get,Slots.keep,if_true,if_false,true_and,↓qd,qb,setAt,List.set_cons_zero,List.set_cons_succ,Nat.zero_add,Nat.reduceAdd];apply hK;clear hK K;refine qO ?_;refine Qa h zqC (?_) ?_
  ·simp+decide only[QE,qw,qj,Slots.get,if_true,if_false,and_true,qw,qj,qg Zf Xa,Qc,qf,List.getD_cons_zero,List.getD_cons_succ,Nat.zero_add,Nat.reduceAdd,qD,qi,qE,allLive,Bool.and_true,qf,List.getD_cons_zero,List.getD_cons_succ,Nat.zero_add,Nat.reduceAdd,qD,qi,qE,allLive,Bool.and_true]
  simp+decide only[Slots.get,if_true,if_false,and_true,QF,qw,qj,qg Zf Xa,Qc,qf,List.getD_cons_zero,List.getD_cons_succ,Nat.zero_add,Nat.reduceAdd,qD,qi,qE,allLive,Bool.and_true,qf,List.getD_cons_zero,List.getD_cons_succ,Nat.zero_add,Nat.reduceAdd,qD,qi,qE,allLive,Bool.and_true,nxA,nxR];rw[hend];rfl
end Go.Proofs.YtlhhaagmakhilaaGreatDoor
namespace Go.Proofs.YtlhhaagmakhilaaGreatDoor
open Go.AM
open Go.Proofs
open Go.Col
open Go.Tok
open Go.RowKit (Below)
set_option maxRecDepth 100000
set_option maxHeartbeats 1000000 in
theorem c_next(wz:World)(h:AHeap)(kx:Nat)(lf:Bool)(s:Str)(mv tv:AVal)(i:Nat)(l:List TokC)(eb_x:h kx=some ⟨[.bool lf, .str s,mv, .int .i64 i,tv],0⟩)(ht:IsL wz h 5 tv (l.map QK))(hl:l.length<=1099511627776)(h32:Qo s i≠32)(hs:s.length<=1099511627776):
 ACall Tryz.prog wz 83 [.ptr (.own kx) 0] h (fun r h'=>r=nxR (WG s i l)/\h'=h):=by
 have hs_h:Sub h h:=Sub.refl h;have hi:=qbJ h32;have hdr:(s.drop ((i:Int)).toNat).take (((s.length:Nat):Int).toNat-((i:Int)).toNat)=s.drop i:=by rw[Int.toNat_natCast,Int.toNat_natCast,List.take_of_length_le (by simp)]
 obtain⟨eqs,heqs⟩:∃e,e=List.isPrefixOf [61,61] (s.drop i):=⟨_,rfl⟩
 have hnx:WG s i l=if (ZM l).1=true/\eqs=false then YR s i (ZM l).2
  else if Qo s i=34 then qaS s i
  else if Qo s i=46/\Qo s (i+1)=32 then Tok.takeE s i 6 1
  else if eqs=true then Tok.takeE s i 7 2
  else if 0<(YW s i).n\/(YW s i).e≠0 then YW s i
  else if ZH (Qo s i)=true/\Qo s i≠45 then qfn s i
  else qdO s i:=by rw[heqs];rfl
 refine qU (n:=110) (rs:=[.cell 2 54, .tmp 3, .tmp 4]) Tryz.func83 rfl rfl rfl rfl (Nat.le_of_ble_eq_true rfl) ?_;simp only[Qe];refine awp_rseq [0,2] (by rfl) fun K hK=>?_;refine Qj qam (cs:=[.int .u8 0, .str [], .int .i64 0, .int .i64 0, .bool false]) (by rfl) fun k0q0 hk0q0=>?_;have hn_0q0:h k0q0=none:=by first|assumption|(simp only[AHeap.set_none]at hk0q0;simp only[hk0q0])
 have hf_0q0:h k0q0=none:=Sub.none hs_h hn_0q0;have ne_0q0_x:k0q0≠kx:=AHeap.ne_some hn_0q0 eb_x;simp+decide only[qa,ev,qH,qF,putD,Slots.put,Slots.keep,if_true,if_false,true_and,↓qd,qb];apply hK;clear hK K;refine qK ?_;refine awp_rseq [0,2,5,6] (by rfl) fun K hK=>?_;simp+decide only[ev,putD,Slots.put,Slots.get,if_true,if_false,true_and,↓qh,qc];refine qN (V:= .tuple [.bool (ZM l).1, .bool (ZM l).2]) (by rfl) (by rfl) (c_pictures wz _ kx lf s mv tv i l (zqA) (ht.mono (zqB)) hl) ?_;simp+decide only[qa,ev,putD,Slots.put,Slots.get,Slots.keep,if_true,if_false,true_and,↓qh,qc,↓QW,QH,QS,List.length_cons,List.length_nil,List.getD_cons_zero,List.getD_cons_succ,↓qd,qb,List.getD_cons_zero,List.getD_cons_succ,Nat.zero_add,Nat.reduceAdd];apply hK;clear hK K;refine WR [0,2,6,30] mixed (by kernel_rfl) (by rfl) fun K hK=>?_;simp+decide only[ev,putD,Slots.put,Slots.get,if_true,if_false,true_and,↓qcU,qc,↓vg_move,vgP,qcy,qL,qI,qz,implies_true,↓qdG,qM,Qn,qaY,qaZ,↓qac,qm,Ug,Zl,Zm,YZ,↓vg_load,XF,qy ag9,cv_load,cp_load,Wu,qy ag3,↓vg_slice,Zu,evO,qdi Tryz.underlying9,UN,qeZ,WZ,cv_slice,cp_slice,cv_slicelo,cp_slicelo,QO,ne_eq,not_false_eq_true,ne_0q0_x.symm,Qy wz eb_x,List.getD_cons_zero,List.getD_cons_succ,Nat.zero_add,qi,qE,hdr];repeat (with_reducible refine And.intro ?_ ?_;· first|trivial|omega|(intro hg;simp only[Bool.and_eq_true,Bool.or_eq_true,Bool.not_eq_true',Bool.and_eq_false_iff,Bool.or_eq_false_iff,Bool.not_eq_false',decide_eq_true_eq,decide_eq_false_iff_not,XV]at hg;omega))
 refine qcV (V:= .bool eqs) (f:=_) (cap:=_) (xs:=_) (by first|rfl|(simp+decide only[gv,qL,Slots.get,if_true,if_false,QZ,qI])) (fun hg=>⟨rfl,?_⟩) (fun hg=>by rw[heqs];exact c_pref wz _ (s.drop i) [61,61]) ?_
 ·try simp+decide only[gv,qL,Slots.get,if_true,if_false,qz]at hg
  simp+decide only[evs,ev,Slots.get,if_true,if_false,hg,Qv,List.append_nil,List.map_cons,List.map_nil,qH,qF]
 simp+decide only[qbB,ev,qH,qF,putD,Slots.put,Slots.get,Slots.keep,if_true,if_false,true_and,gv,qL,qz,↓vg_unOp,XU,vgP,qcy,qI,implies_true,Yi,cv_un,cp_un,↓vp_pick,Qu,Qh,Xg,Xp];apply hK;clear hK K;refine qJ (b:=_) rfl (fun hb1=>?_) (fun hb1=>?_)
 ·try simp only[Bool.not_eq_true',Bool.and_eq_true]at hb1
  refine awp_rseq [2,3,4] (by rfl) fun K hK=>?_;simp+decide only[ev,putD,Slots.put,Slots.get,if_true,if_false,true_and,↓qh,qc];refine qN (V:=nxR (YR s i (ZM l).2)) (by rfl) (by rfl) (c_picture wz _ kx lf s mv tv i _ (zqA) h32 hs) ?_;simp+decide only[ev,putD,Slots.put,Slots.get,if_true,if_false,true_and,↓QW,QH,QS,List.length_cons,List.length_nil,List.getD_cons_zero,List.getD_cons_succ,List.getD_cons_zero,List.getD_cons_succ,Nat.zero_add,Nat.reduceAdd,nxA,nxR];refine qp (by rfl) (by rfl) zqA Xa (by rfl) (by rfl) zqD (Nat.zero_le _) (by rfl) ?_;simp only[AHeap.set_set,AVal.cells];simp+decide only[qa,ev,putD,Slots.put,Slots.get,Slots.keep,if_true,if_false,true_and,↓qd,qb,setAt,List.set_cons_zero,List.set_cons_succ,Nat.zero_add,Nat.reduceAdd];apply hK;clear hK K;refine qO ?_;try simp only[Qi]
  refine Qa h zqC (?_) ?_
  ·simp+decide only[QE,qw,qj,Slots.get,if_true,if_false,and_true,qw,qj,qg Zf Xa,Qc,qf,List.getD_cons_zero,List.getD_cons_succ,Nat.zero_add,Nat.reduceAdd,qD,qi,qE,allLive,Bool.and_true,qf,List.getD_cons_zero,List.getD_cons_succ,Nat.zero_add,Nat.reduceAdd,qD,qi,qE,allLive,Bool.and_true]
  simp+decide only[Slots.get,if_true,if_false,and_true,QF,qw,qj,qg Zf Xa,Qc,qf,List.getD_cons_zero,List.getD_cons_succ,Nat.zero_add,Nat.reduceAdd,qD,qi,qE,allLive,Bool.and_true,qf,List.getD_cons_zero,List.getD_cons_succ,Nat.zero_add,Nat.reduceAdd,qD,qi,qE,allLive,Bool.and_true,nxA,nxR];rw[hnx,if_pos hb1]
 ·try simp only[Bool.not_eq_false',Bool.and_eq_false_iff]at hb1
  have hb1':¬((ZM l).1=true/\eqs=false):=by
   rintro⟨q1,q2⟩;rcases hb1 with z|z
   ·rw[q1]at z;cases z
   ·rw[q2]at z;cases z
  rw[hnx,if_neg hb1'];refine qP ?_;change Awp _ _ _ _ _ _ _;refine qK ?_;refine awp_rseq [0,2,7] (by rfl) fun K hK=>?_;simp+decide only[ev,putD,Slots.put,Slots.get,if_true,if_false,true_and,↓qh,qc];refine qN (V:= .int .u8 (Qo s i).toNat) (by rfl) (by rfl) (qcj wz _ kx lf s mv tv i (zqA) (by omega)) ?_;simp+decide only[qa,ev,putD,Slots.put,Slots.get,Slots.keep,if_true,if_false,true_and,↓qd,qb];apply hK;clear hK K;refine Ql ?_;refine awp_rseq [0,2,7,39] (by rfl) fun K hK=>?_;simp+decide only[qa,ev,qH,qF,putD,Slots.put,Slots.get,Slots.keep,if_true,if_false,true_and,↓qh,qc,↓qA,ql,qB,cond_false,qo,XR,↓qd,qb];apply hK;clear hK K;refine qJ (b:=_) rfl (fun hb2=>?_) (fun hb2=>?_)
  ·try simp only[decide_eq_true_eq]at hb2
   have hb2':Qo s i=34:=(Zi _ 34).mp hb2;refine awp_rseq [2,3,4] (by rfl) fun K hK=>?_;simp+decide only[ev,putD,Slots.put,Slots.get,if_true,if_false,true_and,↓qh,qc];refine qN (V:=nxR (qaS s i)) (by rfl) (by rfl) (c_quote wz _ kx lf s mv tv i (zqA) hi hs) ?_;simp+decide only[ev,putD,Slots.put,Slots.get,if_true,if_false,true_and,↓QW,QH,QS,List.length_cons,List.length_nil,List.getD_cons_zero,List.getD_cons_succ,List.getD_cons_zero,List.getD_cons_succ,Nat.zero_add,Nat.reduceAdd,nxA,nxR];refine qp (by rfl) (by rfl) zqA Xa (by rfl) (by rfl) zqD (Nat.zero_le _) (by rfl) ?_;simp only[AHeap.set_set,AVal.cells];simp+decide only[qa,ev,putD,Slots.put,Slots.get,Slots.keep,if_true,if_false,true_and,↓qd,qb,setAt,List.set_cons_zero,List.set_cons_succ,Nat.zero_add,Nat.reduceAdd];apply hK;clear hK K;refine qO ?_;try simp only[Qi,Qw]
   refine Qa h zqC (?_) ?_
   ·simp+decide only[QE,qw,qj,Slots.get,if_true,if_false,and_true,qw,qj,qg Zf Xa,Qc,qf,List.getD_cons_zero,List.getD_cons_succ,Nat.zero_add,Nat.reduceAdd,qD,qi,qE,allLive,Bool.and_true,qf,List.getD_cons_zero,List.getD_cons_succ,Nat.zero_add,Nat.reduceAdd,qD,qi,qE,allLive,Bool.and_true]
   simp+decide only[Slots.get,if_true,if_false,and_true,QF,qw,qj,qg Zf Xa,Qc,qf,List.getD_cons_zero,List.getD_cons_succ,Nat.zero_add,Nat.reduceAdd,qD,qi,qE,allLive,Bool.and_true,ne_eq,qf,List.getD_cons_zero,List.getD_cons_succ,Nat.zero_add,Nat.reduceAdd,qD,qi,qE,allLive,Bool.and_true,nxA,nxR,Tok.takeE];rw[if_pos hb2'];try rfl
  ·try simp only[decide_eq_false_iff_not]at hb2
   have hb2':¬Qo s i=34:=fun q=>hb2 ((Zi _ 34).mpr q);rw[if_neg hb2'];refine awp_rseq [0,2,47] (by rfl) fun K hK=>?_;simp+decide only[ev,qH,qF,putD,Slots.put,Slots.get,if_true,if_false,true_and,↓qh,qc,↓qA,ql,qB,cond_false,qo,XR,↓Xf,agP,Qs,qL,qI,qz,implies_true]
   (refine Zb (V:= .int .u8 (Qo s (i+1)).toNat) (f:=_) (cap:=_) (xs:=_) (by first|rfl|(simp+decide only[gv,qL,Slots.get,if_true,if_false,QZ,qI])) (fun hg=>⟨rfl,?_⟩) (fun hg=>Uw wz _ kx lf s mv tv i 1 (zqA) (by omega) (by omega) (by omega)) ?_;· (simp+decide only[gv,qL,Slots.get,if_true,if_false,qz]at hg;simp+decide only[evs,ev,Slots.get,if_true,if_false,hg,Qv,List.append_nil,List.map_cons,List.map_nil,qH,qF]<;>try rfl))
   simp+decide only[qa,ev,qH,qF,putD,Slots.put,Slots.get,Slots.keep,if_true,if_false,true_and,gv,qL,qz,↓Xb,ql,agP,Qs,qI,implies_true,qB,cond_false,Zc,Zd,qo,XR,↓QT,Qu,Qh,Xg,Xp,↓qd,qb];apply hK;clear hK K;refine qJ (b:=_) rfl (fun hb3=>?_) (fun hb3=>?_)
   ·try simp only[decide_eq_true_eq,Bool.and_eq_true]at hb3
    have hb3':Qo s i=46/\Qo s (i+1)=32:=⟨(Zi _ 46).mp hb3.1,(Zi _ 32).mp hb3.2⟩
    refine awp_rseq [2,3,4] (by rfl) fun K hK=>?_;simp+decide only[ev,putD,Slots.put,Slots.get,if_true,if_false,true_and,↓qh,qc];refine qN (V:=nxR (Tok.takeE s i 6 1)) (by rfl) (by rfl) (qeW wz _ kx lf s mv tv i 1 6 (zqA) (by omega) hs) ?_;simp+decide only[ev,putD,Slots.put,Slots.get,if_true,if_false,true_and,↓QW,QH,QS,List.length_cons,List.length_nil,List.getD_cons_zero,List.getD_cons_succ,List.getD_cons_zero,List.getD_cons_succ,Nat.zero_add,Nat.reduceAdd,nxA,nxR,Tok.takeE];refine qp (by rfl) (by rfl) zqA Xa (by rfl) (by rfl) zqD (Nat.zero_le _) (by rfl) ?_;simp only[AHeap.set_set,AVal.cells];simp+decide only[qa,ev,putD,Slots.put,Slots.get,Slots.keep,if_true,if_false,true_and,↓qd,qb,setAt,List.set_cons_zero,List.set_cons_succ,Nat.zero_add,Nat.reduceAdd];apply hK;clear hK K;refine qO ?_;try simp only[Qi,Qw]
    refine Qa h zqC (?_) ?_
    ·simp+decide only[QE,qw,qj,Slots.get,if_true,if_false,and_true,qw,qj,qg Zf Xa,Qc,qf,List.getD_cons_zero,List.getD_cons_succ,Nat.zero_add,Nat.reduceAdd,qD,qi,qE,allLive,Bool.and_true,qf,List.getD_cons_zero,List.getD_cons_succ,Nat.zero_add,Nat.reduceAdd,qD,qi,qE,allLive,Bool.and_true]
    simp+decide only[Slots.get,if_true,if_false,and_true,QF,qw,qj,qg Zf Xa,Qc,qf,List.getD_cons_zero,List.getD_cons_succ,Nat.zero_add,Nat.reduceAdd,qD,qi,qE,allLive,Bool.and_true,ne_eq,qf,List.getD_cons_zero,List.getD_cons_succ,Nat.zero_add,Nat.reduceAdd,qD,qi,qE,allLive,Bool.and_true,nxA,nxR,Tok.takeE];rw[if_pos hb3'];try rfl
   ·try simp only[decide_eq_false_iff_not,Bool.and_eq_false_iff]at hb3
    have hb3':¬(Qo s i=46/\Qo s (i+1)=32):=fun q=>by
     rcases hb3 with z|z
     ·exact z ((Zi _ 46).mpr q.1)
     ·exact z ((Zi _ 32).mpr q.2)
    rw[if_neg hb3'];refine WR [0,2,60] mixed (by kernel_rfl) (by rfl) fun K hK=>?_;simp+decide only[ev,putD,Slots.put,Slots.get,if_true,if_false,true_and,↓qcU,qc,↓qcd,qM,Qn,↓Uy,qm,Ug,YZ,↓qeB,XF,qy ag9,Wu,qy ag3,↓vp_slice,Zu,evO,qdi Tryz.underlying9,UN,qeZ,WZ,QO,ne_eq,not_false_eq_true,ne_0q0_x.symm,Qy wz eb_x,List.getD_cons_zero,List.getD_cons_succ,Nat.zero_add,qi,qE,hdr];repeat (with_reducible refine And.intro ?_ ?_;· first|trivial|omega|(intro hg;simp only[Bool.and_eq_true,Bool.or_eq_true,Bool.not_eq_true',Bool.and_eq_false_iff,Bool.or_eq_false_iff,Bool.not_eq_false',decide_eq_true_eq,decide_eq_false_iff_not,XV]at hg;omega))
    refine vOps_callV (V:= .bool eqs) (by rfl) (by rfl) (by rw[heqs];exact c_pref wz _ (s.drop i) [61,61]) ?_;simp+decide only[qbB,ev,putD,Slots.put,Slots.get,Slots.keep,if_true,if_false,true_and,↓qcw,qb];apply hK;clear hK K;refine qJ (b:=_) rfl (fun hb4=>?_) (fun hb4=>?_)
    ·skip
     have h2:i+2<=s.length:=by
      rw[hb4]at heqs;have:=(List.isPrefixOf_iff_prefix.1 heqs.symm).length_le;rw[List.length_drop]at this;simp at this;omega
     refine awp_rseq [2,3,4] (by rfl) fun K hK=>?_;simp+decide only[ev,putD,Slots.put,Slots.get,if_true,if_false,true_and,↓qh,qc];refine qN (V:=nxR (Tok.takeE s i 7 2)) (by rfl) (by rfl) (qeW wz _ kx lf s mv tv i 2 7 (zqA) h2 hs) ?_;simp+decide only[ev,putD,Slots.put,Slots.get,if_true,if_false,true_and,↓QW,QH,QS,List.length_cons,List.length_nil,List.getD_cons_zero,List.getD_cons_succ,List.getD_cons_zero,List.getD_cons_succ,Nat.zero_add,Nat.reduceAdd,nxA,nxR,Tok.takeE];refine qp (by rfl) (by rfl) zqA Xa (by rfl) (by rfl) zqD (Nat.zero_le _) (by rfl) ?_;simp only[AHeap.set_set,AVal.cells];simp+decide only[qa,ev,putD,Slots.put,Slots.get,Slots.keep,if_true,if_false,true_and,↓qd,qb,setAt,List.set_cons_zero,List.set_cons_succ,Nat.zero_add,Nat.reduceAdd];apply hK;clear hK K;refine qO ?_;try simp only[Qi,Qw]
     refine Qa h zqC (?_) ?_
     ·simp+decide only[QE,qw,qj,Slots.get,if_true,if_false,and_true,qw,qj,qg Zf Xa,Qc,qf,List.getD_cons_zero,List.getD_cons_succ,Nat.zero_add,Nat.reduceAdd,qD,qi,qE,allLive,Bool.and_true,qf,List.getD_cons_zero,List.getD_cons_succ,Nat.zero_add,Nat.reduceAdd,qD,qi,qE,allLive,Bool.and_true]
     simp+decide only[Slots.get,if_true,if_false,and_true,QF,qw,qj,qg Zf Xa,Qc,qf,List.getD_cons_zero,List.getD_cons_succ,Nat.zero_add,Nat.reduceAdd,qD,qi,qE,allLive,Bool.and_true,ne_eq,qf,List.getD_cons_zero,List.getD_cons_succ,Nat.zero_add,Nat.reduceAdd,qD,qi,qE,allLive,Bool.and_true,nxA,nxR,Tok.takeE];rw[if_pos hb4];try rfl
    ·skip
     have hb4':¬eqs=true:=by rw[hb4];decide
     rw[if_neg hb4'];refine qP ?_;change Awp _ _ _ _ _ _ _;refine qK ?_;refine awp_rseq [0,2,8,9,10] (by rfl) fun K hK=>?_;simp+decide only[ev,putD,Slots.put,Slots.get,if_true,if_false,true_and,↓qh,qc];refine qN (V:=nxR (YW s i)) (by rfl) (by rfl) (c_number wz _ kx lf s mv tv i (zqA) hi hs) ?_;simp+decide only[ev,putD,Slots.put,Slots.get,if_true,if_false,true_and,↓qh,qc,↓QW,QH,QS,List.length_cons,List.length_nil,List.getD_cons_zero,List.getD_cons_succ,List.getD_cons_zero,List.getD_cons_succ,Nat.zero_add,Nat.reduceAdd,nxA,nxR];refine Qj qam (cs:=[.int .u8 0, .str [], .int .i64 0, .int .i64 0, .bool false]) (by rfl) fun k11q6 hk11q6=>?_;have ne_11q6_0q0:k11q6≠k0q0:=by simp only[AHeap.set_none]at hk11q6;simp only[hk11q6,ne_eq,not_false_eq_true]
     have hn_11q6:h k11q6=none:=by first|assumption|(simp only[AHeap.set_none]at hk11q6;simp only[hk11q6])
     have hf_11q6:h k11q6=none:=Sub.none hs_h hn_11q6;have ne_11q6_x:k11q6≠kx:=AHeap.ne_some hn_11q6 eb_x;refine qp (by rfl) (by rfl) zqA Xa (by rfl) (by rfl) zqD (Nat.zero_le _) (by rfl) ?_;simp only[AHeap.set_set,AVal.cells];simp+decide only[qa,ev,putD,Slots.put,Slots.get,Slots.keep,if_true,if_false,true_and,↓qd,qb,setAt,List.set_cons_zero,List.set_cons_succ,Nat.zero_add,Nat.reduceAdd];apply hK;clear hK K;refine awp_rseq [0,2,8,9,10,88] (by rfl) fun K hK=>?_;simp+decide only[qa,ev,qH,qF,putD,Slots.put,Slots.get,Slots.keep,if_true,if_false,true_and,↓qh,qc,↓qA,ql,qB,cond_false,qo,UV,↓Xf,agP,Qs,qL,qI,Qf,implies_true,↓Xb,Zc,Zd,qag,↓QT,Qu,Qh,Zh,ZK];apply hK;clear hK K;refine qJ (b:=_) rfl (fun hb5=>?_) (fun hb5=>?_)
     ·try simp only[decide_eq_true_eq,decide_eq_false_iff_not,Bool.not_eq_true',Bool.or_eq_true]at hb5
      have hb5':0<(YW s i).n\/(YW s i).e≠0:=hb5.imp (fun q=>by omega) id;refine awp_rseq [2,3,4] (by rfl) fun K hK=>?_;simp+decide only[ev,putD,Slots.put,Slots.get,if_true,if_false,true_and,↓qG,qY,qg Zf Xa,↓qh,qc,QP,qf,List.getD_cons_zero,List.getD_cons_succ,Nat.zero_add,Nat.reduceAdd,qD,qi,qE,allLive,Bool.and_true];refine qp (by rfl) (by rfl) zqA Xa (by rfl) (by rfl) zqD (Nat.zero_le _) (by rfl) ?_;simp only[AVal.cells];simp+decide only[qa,ev,putD,Slots.put,Slots.get,Slots.keep,if_true,if_false,true_and,↓qd,qb,setAt,List.set_cons_zero,List.set_cons_succ,Nat.zero_add,Nat.reduceAdd];apply hK;clear hK K;refine qO ?_;try simp only[Qi]
      refine Qa h zqC (?_) ?_
      ·simp+decide only[QE,qw,qj,Slots.get,if_true,if_false,and_true,qw,qj,qg Zf Xa,Qc,qf,List.getD_cons_zero,List.getD_cons_succ,Nat.zero_add,Nat.reduceAdd,qD,qi,qE,allLive,Bool.and_true,qf,List.getD_cons_zero,List.getD_cons_succ,Nat.zero_add,Nat.reduceAdd,qD,qi,qE,allLive,Bool.and_true]
      simp+decide only[Slots.get,if_true,if_false,and_true,QF,qw,qj,qg Zf Xa,Qc,qf,List.getD_cons_zero,List.getD_cons_succ,Nat.zero_add,Nat.reduceAdd,qD,qi,qE,allLive,Bool.and_true,ne_eq,qf,List.getD_cons_zero,List.getD_cons_succ,Nat.zero_add,Nat.reduceAdd,qD,qi,qE,allLive,Bool.and_true,nxA,nxR];rw[if_pos hb5'];try rfl
     ·try simp only[decide_eq_true_eq,decide_eq_false_iff_not,Bool.not_eq_false',Bool.or_eq_false_iff]at hb5
      have hb5':¬(0<(YW s i).n\/(YW s i).e≠0):=fun q=>q.elim (fun q=>hb5.1 (by omega)) (fun q=>q hb5.2);rw[if_neg hb5'];refine qP ?_;change Awp _ _ _ _ _ _ _;refine qK ?_;refine awp_rseq [0,2,99] (by rfl) fun K hK=>?_;simp+decide only[ev,putD,Slots.put,Slots.get,if_true,if_false,true_and,↓qh,qc];refine qN (V:= .int .u8 (Qo s i).toNat) (by rfl) (by rfl) (qcj wz _ kx lf s mv tv i (zqA) (by omega)) ?_;refine qN (V:= .bool (ZH (Qo s i))) (by rfl) (by rfl) (c_wordy wz _ _) ?_;simp+decide only[ev,putD,Slots.put,Slots.get,if_true,if_false,true_and,↓qh,qc,↓Xf,agP,Qs,qL,qI,qz,implies_true]
      (refine Zb (V:= .int .u8 (Qo s i).toNat) (f:=_) (cap:=_) (xs:=_) (by first|rfl|(simp+decide only[gv,qL,Slots.get,if_true,if_false,QZ,qI])) (fun hg=>⟨rfl,?_⟩) (fun hg=>qcj wz _ kx lf s mv tv i (zqA) (by omega)) ?_;· (simp+decide only[gv,qL,Slots.get,if_true,if_false,qz]at hg;simp+decide only[evs,ev,Slots.get,if_true,if_false,hg,Qv,List.append_nil,List.map_cons,List.map_nil,qH,qF]<;>try rfl))
      simp+decide only[qa,ev,qH,qF,putD,Slots.put,Slots.get,Slots.keep,if_true,if_false,true_and,gv,qL,qz,↓Xb,ql,agP,Qs,qI,implies_true,qB,cond_false,Zc,Zd,qo,qag,↓QT,Qu,Qh,Xg,Xp];apply hK;clear hK K;refine qJ (b:=_) rfl (fun hb6=>?_) (fun hb6=>?_)
      ·try simp only[decide_eq_false_iff_not,Bool.not_eq_true',Bool.and_eq_true]at hb6
       have hb6':ZH (Qo s i)=true/\Qo s i≠45:=⟨hb6.1,fun q=>hb6.2 ((Zi _ 45).mpr q)⟩
       refine awp_rseq [2,3,4] (by rfl) fun K hK=>?_;simp+decide only[ev,putD,Slots.put,Slots.get,if_true,if_false,true_and,↓qh,qc];refine qN (V:=nxR (qfn s i)) (by rfl) (by rfl) (c_name wz _ kx lf s mv tv i (zqA) hi (by rw[<-YJ hi];exact hb6.1) hs) ?_;simp+decide only[ev,putD,Slots.put,Slots.get,if_true,if_false,true_and,↓QW,QH,QS,List.length_cons,List.length_nil,List.getD_cons_zero,List.getD_cons_succ,List.getD_cons_zero,List.getD_cons_succ,Nat.zero_add,Nat.reduceAdd,nxA,nxR];refine qp (by rfl) (by rfl) zqA Xa (by rfl) (by rfl) zqD (Nat.zero_le _) (by rfl) ?_;simp only[AVal.cells];simp+decide only[qa,ev,putD,Slots.put,Slots.get,Slots.keep,if_true,if_false,true_and,↓qd,qb,setAt,List.set_cons_zero,List.set_cons_succ,Nat.zero_add,Nat.reduceAdd];apply hK;clear hK K;refine qO ?_;try simp only[Qi]
       refine Qa h zqC (?_) ?_
       ·simp+decide only[QE,qw,qj,Slots.get,if_true,if_false,and_true,qw,qj,qg Zf Xa,Qc,qf,List.getD_cons_zero,List.getD_cons_succ,Nat.zero_add,Nat.reduceAdd,qD,qi,qE,allLive,Bool.and_true,qf,List.getD_cons_zero,List.getD_cons_succ,Nat.zero_add,Nat.reduceAdd,qD,qi,qE,allLive,Bool.and_true]
       simp+decide only[Slots.get,if_true,if_false,and_true,QF,qw,qj,qg Zf Xa,Qc,qf,List.getD_cons_zero,List.getD_cons_succ,Nat.zero_add,Nat.reduceAdd,qD,qi,qE,allLive,Bool.and_true,ne_eq,qf,List.getD_cons_zero,List.getD_cons_succ,Nat.zero_add,Nat.reduceAdd,qD,qi,qE,allLive,Bool.and_true,nxA,nxR];rw[if_pos hb6'];try rfl
      ·try simp only[decide_eq_true_eq,Bool.not_eq_false',Bool.and_eq_false_iff]at hb6
       have hb6':¬(ZH (Qo s i)=true/\Qo s i≠45):=fun q=>by
        rcases hb6 with z|z
        ·rw[q.1]at z;cases z
        ·exact q.2 ((Zi _ 45).mp z)
       rw[if_neg hb6'];refine qP ?_;change Awp _ _ _ _ _ _ _;refine awp_rseq [2,3,4] (by rfl) fun K hK=>?_;simp+decide only[ev,putD,Slots.put,Slots.get,if_true,if_false,true_and,↓qh,qc];refine qN (V:=nxR (qdO s i)) (by rfl) (by rfl) (c_sign wz _ kx lf s mv tv i (zqA) hi hs) ?_;simp+decide only[ev,putD,Slots.put,Slots.get,if_true,if_false,true_and,↓QW,QH,QS,List.length_cons,List.length_nil,List.getD_cons_zero,List.getD_cons_succ,List.getD_cons_zero,List.getD_cons_succ,Nat.zero_add,Nat.reduceAdd,nxA,nxR];refine qp (by rfl) (by rfl) zqA Xa (by rfl) (by rfl) zqD (Nat.zero_le _) (by rfl) ?_;simp only[AVal.cells];simp+decide only[qa,ev,putD,Slots.put,Slots.get,Slots.keep,if_true,if_false,true_and,↓qd,qb,setAt,List.set_cons_zero,List.set_cons_succ,Nat.zero_add,Nat.reduceAdd];apply hK;clear hK K;refine qO ?_;refine Qa h zqC (?_) ?_
       ·simp+decide only[QE,qw,qj,Slots.get,if_true,if_false,and_true,qw,qj,qg Zf Xa,Qc,qf,List.getD_cons_zero,List.getD_cons_succ,Nat.zero_add,Nat.reduceAdd,qD,qi,qE,allLive,Bool.and_true,qf,List.getD_cons_zero,List.getD_cons_succ,Nat.zero_add,Nat.reduceAdd,qD,qi,qE,allLive,Bool.and_true]
       simp+decide only[Slots.get,if_true,if_false,and_true,QF,qw,qj,qg Zf Xa,Qc,qf,List.getD_cons_zero,List.getD_cons_succ,Nat.zero_add,Nat.reduceAdd,qD,qi,qE,allLive,Bool.and_true,qf,List.getD_cons_zero,List.getD_cons_succ,Nat.zero_add,Nat.reduceAdd,qD,qi,qE,allLive,Bool.and_true,nxA,nxR];try rfl
end Go.Proofs.YtlhhaagmakhilaaGreatDoor
namespace Go.Proofs.YtlhhaagmakhilaaGreatDoor
open Go.AM
open Go.Proofs
open Go.Col
set_option maxRecDepth 100000
def Xn(cb:Option Buf)(x:Rd):List AVal:=[QA 3 cb, .int .i64 x.line, .int .i64 x.col, .bool x.odd]
def rdH(kx:Nat)(B:AHeap)(cb mb:Option Buf)(x:Rd):AHeap:=QG (QG (B.set kx ⟨Xn cb x,0⟩) cb) mb
def Zo(p:CardC×AVal):List AVal:=[.bool p.1.left, .str p.1.text,p.2]
structure RdInv(wz:World)(h:AHeap)(kx:Nat)(B M:AHeap)(cb mb:Option Buf)(x:Rd):Prop where
 sub:Sub h B
 subM:Sub M B
 hk:B kx=none
 okc:bufOk (B.set kx ⟨Xn cb x,0⟩) 3 cb
 okm:bufOk (QG (B.set kx ⟨Xn cb x,0⟩) cb) 3 mb
 cards:(x.cards=[]/\cb=none/\mb=none)\/∃(done:List (CardC×AVal)) (c:CardC) (kc:Nat),x.cards=done.map (·.1)++[c]/\cb=some ⟨kc,(done.map Zo).flatten++[.bool c.left, .str c.text,QA 3 mb]⟩/\Yu mb=(c.marks.map Un).flatten/\∀p∈done,IsL wz M 3 p.2 (p.1.marks.map Un)
theorem bufNew{H:AHeap}{b:Option Buf}{j:Nat}(hj:QG H b j=none)(c:Blk):(QG H b).set j c=QG (H.set j c) b/\H j=none:=by
 cases b with
 |none=>exact⟨rfl,hj⟩
 |some b=>
  have hne:j≠b.blk:=fun e=>by subst e;rw[show QG H (some b)=H.set b.blk ⟨b.cells,0⟩from rfl,AHeap.set_same]at hj;cases hj
  exact⟨AHeap.set_comm _ _ _ hne,by rw[show QG H (some b)=H.set b.blk ⟨b.cells,0⟩from rfl,AHeap.set_ne _ _ hne]at hj;exact hj⟩
theorem bufOkNew{H:AHeap}{es:Nat}{b:Option Buf}(hb:bufOk H es b){j:Nat}(hj:QG H b j=none)(c:Blk):bufOk (H.set j c) es b:=by
 cases b with
 |none=>trivial
 |some b=>
  refine⟨?_,hb.2⟩;have hne:j≠b.blk:=fun e=>by subst e;rw[show QG H (some b)=H.set b.blk ⟨b.cells,0⟩from rfl,AHeap.set_same]at hj;cases hj
  rw[AHeap.set_ne _ _ hne.symm];exact hb.1
theorem bufSwap{H:AHeap}{es:Nat}{a b:Option Buf}(ha:bufOk H es a)(hb:bufOk (QG H a) es b):QG (QG H a) b=QG (QG H b) a/\bufOk H es b/\bufOk (QG H b) es a:=by
 cases a with
 |none=>exact⟨rfl,hb,trivial⟩
 |some a=>
  cases b with
  |none=>exact⟨rfl,trivial,ha⟩
  |some b=>
   have hne:b.blk≠a.blk:=fun e=>by
    have:=hb.1;rw[e,show QG H (some a)=H.set a.blk ⟨a.cells,0⟩from rfl,AHeap.set_same]at this;cases this
   have hb1:H b.blk=none:=by
    have:=hb.1
    rwa [show QG H (some a)=H.set a.blk ⟨a.cells,0⟩from rfl,AHeap.set_ne _ _ hne]at this
   exact⟨AHeap.set_comm _ _ _ hne,⟨hb1,hb.2⟩,⟨(AHeap.set_ne _ _ hne.symm).trans ha.1,ha.2⟩⟩
theorem rdH_new{wz:World}{h:AHeap}{kx:Nat}{B M:AHeap}{cb mb:Option Buf}{x:Rd}(hi:RdInv wz h kx B M cb mb x){j:Nat}(hj:rdH kx B cb mb x j=none)(c:Blk):
 (rdH kx B cb mb x).set j c=rdH kx (B.set j c) cb mb x/\RdInv wz h kx (B.set j c) M cb mb x/\j≠kx/\B j=none:=by
 unfold rdH at hj;obtain⟨e1,h1⟩:=bufNew hj c;obtain⟨e2,h2⟩:=bufNew h1 c;have hne:j≠kx:=fun e=>by subst e;rw[AHeap.set_same]at h2;cases h2
 have h3:B j=none:=by rwa [AHeap.set_ne _ _ hne]at h2
 have e3:(B.set kx ⟨Xn cb x,0⟩).set j c=(B.set j c).set kx ⟨Xn cb x,0⟩:=AHeap.set_comm _ _ _ hne;refine⟨?_,⟨Sub.trans_set hi.sub (hi.sub.none h3),Sub.trans_set hi.subM (hi.subM.none h3),(AHeap.set_ne _ _ hne.symm).trans hi.hk,?_,?_,hi.cards⟩,hne,h3⟩
 ·unfold rdH
  rw[e1,e2,e3]
 ·rw[<-e3]
  exact bufOkNew hi.okc h1 c
 ·rw[<-e3,<-e2]
  exact bufOkNew hi.okm hj c
section
variable {wz:World} {h:AHeap} {kx:Nat} {B M:AHeap} {cb mb:Option Buf} {x:Rd}
theorem RdInv.at(hi:RdInv wz h kx B M cb mb x):rdH kx B cb mb x kx=some ⟨Xn cb x,0⟩:=ZR hi.okm (ZR hi.okc (AHeap.set_same _ _ _))
theorem RdInv.other(hi:RdInv wz h kx B M cb mb x){j:Nat}{c:Blk}(hj:B j=some c):rdH kx B cb mb x j=some c:=
 ZR hi.okm (ZR hi.okc ((AHeap.set_ne _ _ (fun e=>by subst e;rw[hi.hk]at hj;cases hj)).trans hj))
theorem RdInv.above(hi:RdInv wz h kx B M cb mb x):Sub h (rdH kx B cb mb x):=fun _ _ hj=>hi.other (hi.sub _ _ hj)
theorem RdInv.put(hi:RdInv wz h kx B M cb mb x){j:Nat}{c:Blk}(hj:B j=some c)(hh:h j=none)(hM:M j=none)(d:Blk):(rdH kx B cb mb x).set j d=rdH kx (B.set j d) cb mb x/\RdInv wz h kx (B.set j d) M cb mb x:=by
 have hne:j≠kx:=fun e=>by subst e;rw[hi.hk]at hj;cases hj
 have hj1:B.set kx ⟨Xn cb x,0⟩ j=some c:=(AHeap.set_ne _ _ hne).trans hj;have e3:(B.set kx ⟨Xn cb x,0⟩).set j d=(B.set j d).set kx ⟨Xn cb x,0⟩:=AHeap.set_comm _ _ _ hne;refine⟨?_,⟨Sub.trans_set hi.sub hh,Sub.trans_set hi.subM hM,(AHeap.set_ne _ _ hne.symm).trans hi.hk,?_,?_,hi.cards⟩⟩
 ·unfold rdH
  rw[Wo hi.okm (ZR hi.okc hj1),Wo hi.okc hj1,e3]
 ·rw[<-e3]
  exact ZP hi.okc hj1 d
 ·rw[<-e3,<-Wo hi.okc hj1]
  exact ZP hi.okm (ZR hi.okc hj1) d
theorem cell3_wide:∀p:CardC×AVal,(Zo p).length=3:=fun _=>rfl
theorem RdInv.many(hi:RdInv wz h kx B M cb mb x):(Yu cb).length / 3=x.cards.length:=by
 rcases hi.cards with⟨c1,c2,_⟩|⟨done,c',kc,c1,c2,c3,c4⟩
 ·rw[c1,c2];rfl
 ·rw[c1,c2]
  simp only[Yu,List.length_append,List.length_map,List.length_cons,List.length_nil];rw[Xz (es:=3) (by intro y hy;obtain⟨p,_,rfl⟩:=List.mem_map.1 hy;rfl),List.length_map];omega
theorem buf_len(P:Program){t e:TypeId}(ht:P.underlying t=some (.slice e))(es:Nat)(b:Option Buf):∀H:AHeap,Ye P H t (QA es b)=⟨True, .int .i64 ((Yu b).length / es:Nat)⟩:=by
 cases b with
 |none=>intro H;simp[QA,Yu,Ye,UO,pLen,ht]
 |some b=>intro H;simp only[QA,Yu,Ye,UO,pLen,ht,cond_false]
end
end Go.Proofs.YtlhhaagmakhilaaGreatDoor
namespace Go.Proofs.YtlhhaagmakhilaaGreatDoor
open Go.AM
open Go.Proofs
open Go.Col
open Go.Tok
open Go.RowKit (Below)
set_option maxRecDepth 100000
def tokAt(c:CardC)(j:Nat)(t:Nx):TokC:=⟨t.kind,t.text,(atE c j).1,(atE c j).2.1,decide ((atE c j).2.1<12)⟩
def cardR(c:CardC)(i:Nat)(l:List TokC):List TokC×FaultC:=qdv c (c.text.length+1-i) i l
theorem Uv(c:CardC)(f i:Nat)(l:List TokC):qdv c (f+1) i l=
 if c.text.length<=ZO c.text (ZM l).1 i then(l,okF)
 else if errE (WG c.text (ZO c.text (ZM l).1 i) l) l.length≠0 then(l,⟨errE (WG c.text (ZO c.text (ZM l).1 i) l) l.length,(atE c (ZO c.text (ZM l).1 i)).1,(atE c (ZO c.text (ZM l).1 i)).2.1⟩)
 else qdv c f (ZO c.text (ZM l).1 i+(WG c.text (ZO c.text (ZM l).1 i) l).n) (l++[tokAt c (ZO c.text (ZM l).1 i) (WG c.text (ZO c.text (ZM l).1 i) l)]):=rfl
theorem cardGo_fuel(c:CardC):∀(f g i:Nat) (l:List TokC),c.text.length<i+f->c.text.length<i+g->qdv c f i l=qdv c g i l
 |0,g,i,l,h,h'=>by
  have hj:=qdN c.text (ZM l).1 i;cases g with
  |zero=>rfl
  |succ g=>rw[Uv,if_pos (by omega)];rfl
 |f+1,0,i,l,h,h'=>by
  have hj:=qdN c.text (ZM l).1 i;rw[Uv,if_pos (by omega)];rfl
 |f+1,g+1,i,l,h,h'=>by
  have hj:=qdN c.text (ZM l).1 i;rw[Uv,Uv];split
  ·rfl
  ·rename_i hl
   split
   ·rfl
   ·rename_i he
    have hn:=next_len (by omega) (errE_ok (Decidable.of_not_not he));have:=hn.n0;exact cardGo_fuel c f g _ _ (by omega) (by omega)
theorem cardR_step(c:CardC)(i:Nat)(l:List TokC):cardR c i l=
 if c.text.length<=ZO c.text (ZM l).1 i then(l,okF)
 else if errE (WG c.text (ZO c.text (ZM l).1 i) l) l.length≠0 then(l,⟨errE (WG c.text (ZO c.text (ZM l).1 i) l) l.length,(atE c (ZO c.text (ZM l).1 i)).1,(atE c (ZO c.text (ZM l).1 i)).2.1⟩)
 else cardR c (ZO c.text (ZM l).1 i+(WG c.text (ZO c.text (ZM l).1 i) l).n) (l++[tokAt c (ZO c.text (ZM l).1 i) (WG c.text (ZO c.text (ZM l).1 i) l)]):=by
 have hj:=qdN c.text (ZM l).1 i;by_cases h:c.text.length<i
 ·unfold cardR
  rw[show c.text.length+1-i=0 by omega,if_pos (by omega)];rfl
 ·unfold cardR
  rw[show c.text.length+1-i=(c.text.length-i)+1 by omega,Uv];split
  ·rfl
  ·split
   ·rfl
   ·rename_i hl he
    have hn:=next_len (by omega) (errE_ok (Decidable.of_not_not he));have:=hn.n0;exact cardGo_fuel c _ _ _ _ (by omega) (by omega)
theorem cardGo_inv(c:CardC)(P:TokC->Prop)(hP:∀(j:Nat) (l:List TokC),j<c.text.length->Qo c.text j≠32->(WG c.text j l).e=0->P (tokAt c j (WG c.text j l))):∀(f i:Nat) (l:List TokC),(∀t∈l,P t)->∀t∈(qdv c f i l).1,P t
 |0,i,l,h=>h
 |f+1,i,l,h=>by
  rw[Uv];split
  ·exact h
  ·rename_i hl
   split
   ·exact h
   ·rename_i he
    refine cardGo_inv c P hP f _ _ fun t ht=>?_;rw[List.mem_append,List.mem_singleton]at ht;rcases ht with ht|rfl
    ·exact h t ht
    ·exact hP _ _ (by omega) (skip_not (by omega)) (errE_ok (Decidable.of_not_not he))
theorem cardT_inv(c:CardC)(P:TokC->Prop)(hP:∀(j:Nat) (l:List TokC),validC c=true->j<c.text.length->Qo c.text j≠32->(WG c.text j l).e=0->P (tokAt c j (WG c.text j l)))(l:List TokC)(h:∀t∈l,P t):∀t∈(qav c l).1,P t:=by
 unfold qav;split
 ·exact h
 ·rename_i h0
  have hv:validC c=true:=by
   unfold atE at h0;split at h0
   ·rename_i q;exact q.1
   ·exact absurd (show((0:Int),(0:Int),(1:Int)).2.2≠0 by decide) h0
  exact cardGo_inv c P (fun j l a b d=>hP j l hv a b d) _ _ _ h
theorem scanGo_inv(P:TokC->Prop):∀(cs:List CardC),(∀c∈cs,∀(j:Nat) (l:List TokC),validC c=true->j<c.text.length->Qo c.text j≠32->(WG c.text j l).e=0->P (tokAt c j (WG c.text j l)))->∀(l:List TokC),(∀t∈l,P t)->∀t∈(qbD cs l).1,P t
 |[],_,l,h=>h
 |c::r,hP,l,h=>by
  rw[qbD];split
  ·exact fun t ht=>by cases ht
  ·exact scanGo_inv P r (fun d hd=>hP d (by simp[hd])) _ (cardT_inv c P (hP c (by simp)) l h)
theorem cardGo_many(c:CardC):∀(f i:Nat) (l:List TokC),l.length<=65536->(qdv c f i l).1.length<=65536
 |0,i,l,h=>h
 |f+1,i,l,h=>by
  rw[Uv];split
  ·exact h
  ·split
   ·exact h
   ·rename_i he
    refine cardGo_many c f _ _ ?_;have hlt:¬65536<=l.length:=fun q=>by
     have h0:=errE_ok (Decidable.of_not_not he);unfold errE at he;rw[if_pos ⟨h0,q⟩]at he;exact he (by decide)
    simp;omega
theorem cardT_many(c:CardC)(l:List TokC)(h:l.length<=65536):(qav c l).1.length<=65536:=by
 unfold qav;split
 ·exact h
 ·exact cardGo_many c _ _ _ h
theorem scanGo_many:∀(cs:List CardC) (l:List TokC),l.length<=65536->(qbD cs l).1.length<=65536
 |[],l,h=>h
 |c::r,l,h=>by
  rw[qbD];split
  ·exact Nat.zero_le _
  ·exact scanGo_many r _ (cardT_many c l h)
def scH(kx:Nat)(B:AHeap)(tb:Option Buf)(lf:Bool)(s:Str)(mv:AVal)(i:Nat):AHeap:=QG (B.set kx ⟨[.bool lf, .str s,mv, .int .i64 i,QA 5 tb],0⟩) tb
structure ScInv(kx:Nat)(B:AHeap)(tb:Option Buf)(l:List TokC):Prop where
 hk:B kx=none
 ok:∀c,bufOk (B.set kx c) 5 tb
 eq:Yu tb=(l.map QK).flatten
theorem Xc{l:List TokC}:∀x∈l.map QK,x.length=5:=fun x hx=>by obtain⟨y,_,rfl⟩:=List.mem_map.1 hx;rfl
section
variable {wz:World} {kx:Nat} {B:AHeap} {tb:Option Buf} {l:List TokC} {lf:Bool} {s:Str} {mv:AVal} {i:Nat}
theorem ScInv.at(hi:ScInv kx B tb l):scH kx B tb lf s mv i kx=some ⟨[.bool lf, .str s,mv, .int .i64 i,QA 5 tb],0⟩:=ZR (hi.ok _) (AHeap.set_same _ _ _)
theorem ScInv.other(hi:ScInv kx B tb l){j:Nat}{c:Blk}(hj:B j=some c):scH kx B tb lf s mv i j=some c:=
 ZR (hi.ok _) ((AHeap.set_ne _ _ (fun e=>by subst e;rw[hi.hk]at hj;cases hj)).trans hj)
theorem ScInv.above(hi:ScInv kx B tb l):Sub B (scH kx B tb lf s mv i):=fun _ _ hj=>hi.other hj
theorem ScInv.toks(hi:ScInv kx B tb l)(c:Blk):IsL wz (QG (B.set kx c) tb) 5 (QA 5 tb) (l.map QK):=IsL.buf (hi.ok c) (by decide) hi.eq Xc (Sub.refl _)
theorem ScInv.set(hi:ScInv kx B tb l)(c:Blk):(scH kx B tb lf s mv i).set kx c=QG (B.set kx c) tb:=by
 unfold scH;rw[Wo (hi.ok _) (AHeap.set_same _ _ _),AHeap.set_set]
theorem ScInv.lay(hi:ScInv kx B tb l){j:Nat}(hj:scH kx B tb lf s mv i j=none)(c:Blk):
 (scH kx B tb lf s mv i).set j c=scH kx (B.set j c) tb lf s mv i/\ScInv kx (B.set j c) tb l/\j≠kx/\B j=none:=by
 have hj':=hj;unfold scH at hj;obtain⟨e1,h1⟩:=bufNew hj c;have hne:j≠kx:=fun e=>by subst e;rw[AHeap.set_same]at h1;cases h1
 have h3:B j=none:=by rwa [AHeap.set_ne _ _ hne]at h1
 have e3:∀d,(B.set kx d).set j c=(B.set j c).set kx d:=fun d=>AHeap.set_comm _ _ _ hne;refine⟨?_,⟨(AHeap.set_ne _ _ hne.symm).trans hi.hk,fun d=>?_,hi.eq⟩,hne,h3⟩
 ·unfold scH
  rw[e1,e3]
 ·rw[<-e3]
  refine bufOkNew (hi.ok d) ?_ c;rw[<-ScInv.set hi (lf:=lf) (s:=s) (mv:=mv) (i:=i) d,AHeap.set_ne _ _ hne];exact hj'
theorem ScInv.down(hi:ScInv kx B tb l){B':AHeap}(hs:Sub B' B):ScInv kx B' tb l:=⟨hs.none hi.hk,fun c=>(hi.ok c).sub (Sub.set_both hs _ _),hi.eq⟩
theorem ScInv.none(hi:ScInv kx B tb l){B':AHeap}{j:Nat}{b:Blk}(hj:B j=some b)(hj':B' j=Option.none):scH kx B' tb lf s mv i j=Option.none:=by
 have hne:j≠kx:=fun e=>by rw[e,hi.hk]at hj;cases hj
 have hok:=hi.ok ⟨[],0⟩;unfold scH;cases tb with
 |none=>exact(AHeap.set_ne _ _ hne).trans hj'
 |some q=>
  have hq:j≠q.blk:=fun e=>by
   have:=hok.1;rw[<-e,AHeap.set_ne _ _ hne,hj]at this;cases this
  exact(AHeap.set_ne _ _ hq).trans ((AHeap.set_ne _ _ hne).trans hj')
theorem scH_sub{B':AHeap}(hs:Sub B' B):Sub (scH kx B' tb lf s mv i) (scH kx B tb lf s mv i):=by
 unfold scH;cases tb with
 |none=>exact Sub.set_both hs _ _
 |some b=>exact Sub.set_both (Sub.set_both hs _ _) _ _
end
end Go.Proofs.YtlhhaagmakhilaaGreatDoor
namespace Go.Proofs.YtlhhaagmakhilaaGreatDoor
open Go.AM
open Go.Proofs
open Go.Col
open Go.Tok
open Go.RowKit (Below)
set_option maxRecDepth 100000
structure ScG where
 i:Nat
 l:List TokC
 tb:Option Buf
structure ScOk(kx:Nat)(B:AHeap)(c:CardC)(R:List TokC×FaultC)(g:ScG):Prop where
 inv:ScInv kx B g.tb g.l
 i:g.i<=c.text.length
 eq:cardR c g.i g.l=R
 len:g.l.length<=65536
set_option maxHeartbeats 1000000 in
theorem c_card(wz:World)(kx:Nat)(B:AHeap)(tb:Option Buf)(c:CardC)(mv:AVal)(l:List TokC)(hi:ScInv kx B tb l)(hm:IsL wz B 3 mv (c.marks.map Un))(hml:c.marks.length<=4611686018427387904)(hct:c.text.length<=1099511627776)(hl:l.length<=65536):
 ACall Tryz.prog wz 65 [.ptr (.own kx) 0] (scH kx B tb c.left c.text mv 0)
  (fun v h'=>v=Qz (qav c l).2/\(qav c l).1.length<=65536/\∃tb' i',h'=scH kx B tb' c.left c.text mv i'/\ScInv kx B tb' (qav c l).1):=by
 have hlm:=hm.live;obtain⟨H0,hH0⟩:∃H0,H0=scH kx B tb c.left c.text mv 0:=⟨_,rfl⟩
 have eb_x:H0 kx=some ⟨[.bool c.left, .str c.text,mv, .int .i64 (0:Nat),QA 5 tb],0⟩:=by rw[hH0];exact hi.at
 have hs_H0:Sub B H0:=by rw[hH0];exact hi.above
 have ht0:(if (atE c 0).2.2≠0 then(l,(⟨(atE c 0).2.2,0,0⟩:FaultC))else cardR c 0 l)=qav c l:=rfl;rw[<-hH0];refine qU (n:=82) (rs:=[.cell 2 35]) Tryz.func65 rfl rfl rfl rfl (Nat.le_of_ble_eq_true rfl) ?_;simp only[Qe];refine awp_rseq [0,2] (by rfl) fun K hK=>?_;refine Qj qbc (cs:=[.int .i64 0, .int .i64 0, .int .i64 0]) (by rfl) fun k0q0 hk0q0=>?_;have hn_0q0:H0 k0q0=none:=by first|assumption|(simp only[AHeap.set_none]at hk0q0;simp only[hk0q0])
 have hf_0q0:B k0q0=none:=Sub.none hs_H0 hn_0q0;have ne_0q0_x:k0q0≠kx:=AHeap.ne_some hn_0q0 eb_x;simp+decide only[qa,putD,Slots.put,Slots.keep,if_true,if_false];apply hK;clear hK K;refine qK ?_;refine awp_rseq [0,2,4] (by rfl) fun K hK=>?_;simp+decide only[ev,putD,Slots.put,Slots.get,if_true,if_false,true_and,↓qh,qc,↓Qk,qM,Qn,↓qC,qm,Ug,↓qG,qY,qg ag129 qcz,QO,ne_eq,not_false_eq_true,ne_0q0_x.symm,Qy wz eb_x,qf,List.getD_cons_zero,List.getD_cons_succ,Nat.zero_add,Nat.reduceAdd,qD,qE,allLive,Bool.and_true,hlm];refine qN (V:= .tuple [Wl (atE c 0).1 (atE c 0).2.1, .int .i64 (atE c 0).2.2]) (by rfl) (by rfl) (c_At wz _ c mv 0 (hm.mono zqB) hml (by omega) (by omega)) ?_;simp+decide only[ev,putD,Slots.put,Slots.get,if_true,if_false,true_and,↓qh,qc,↓QW,QH,QS,List.length_cons,List.length_nil,List.getD_cons_zero,List.getD_cons_succ,List.getD_cons_zero,List.getD_cons_succ,Nat.zero_add,Nat.reduceAdd,Wl];refine Qj ze33 (cs:=[.int .i64 0, .int .i64 0]) (by rfl) fun k1q8 hk1q8=>?_;have ne_1q8_0q0:k1q8≠k0q0:=by simp only[AHeap.set_none]at hk1q8;simp only[hk1q8,ne_eq,not_false_eq_true]
 have hn_1q8:H0 k1q8=none:=by first|assumption|(simp only[AHeap.set_none]at hk1q8;simp only[hk1q8])
 have hf_1q8:B k1q8=none:=Sub.none hs_H0 hn_1q8;have ne_1q8_x:k1q8≠kx:=AHeap.ne_some hn_1q8 eb_x;refine qp (by rfl) (by rfl) zqA qbf (by rfl) (by rfl) zqD (Nat.zero_le _) (by rfl) ?_;simp only[AHeap.set_set,AVal.cells];simp+decide only[qa,ev,putD,Slots.put,Slots.get,Slots.keep,if_true,if_false,true_and,↓qd,qb,setAt,List.set_cons_zero,List.set_cons_succ,Nat.zero_add];apply hK;clear hK K;refine awp_rseq [0,2,4,19] (by rfl) fun K hK=>?_;simp+decide only[qa,ev,qH,qF,putD,Slots.put,Slots.get,Slots.keep,if_true,if_false,true_and,↓qh,qc,↓qA,ql,qB,cond_false,qo,qag];apply hK;clear hK K;refine qJ (b:=_) rfl (fun hb1=>?_) (fun hb1=>?_)
 ·try simp only[decide_eq_false_iff_not,Bool.not_eq_true']at hb1
  refine awp_rseq [2] (by rfl) fun K hK=>?_;simp+decide only[ev,qH,qF,putD,Slots.put,Slots.get,if_true,if_false,true_and,↓qh,qc,↓Qp,↓qW,bld35_0,evP,List.map_cons,List.map_nil];refine qp (by rfl) (by rfl) zqA QI (by rfl) (by rfl) zqD (Nat.zero_le _) (by rfl) ?_;simp only[AVal.cells];simp+decide only[qa,ev,putD,Slots.get,Slots.keep,if_true,if_false,setAt,List.set_cons_zero,List.set_cons_succ,Nat.zero_add,Nat.reduceAdd];apply hK;clear hK K;refine qO ?_;try simp only[Qi]
  refine QR (?_) ?_
  ·simp+decide only[QE,qj,Slots.get,if_true,and_true,qj,qg Xt QI,Qc,qf,List.getD_cons_zero,List.getD_cons_succ,Nat.zero_add,Nat.reduceAdd,qi,allLive,Bool.and_true,qf,List.getD_cons_zero,List.getD_cons_succ,Nat.zero_add,Nat.reduceAdd,qi,allLive,Bool.and_true]
  simp+decide only[Slots.get,if_true,YH,qj,qg Xt QI,Qc,qf,List.getD_cons_zero,List.getD_cons_succ,Nat.zero_add,Nat.reduceAdd,qi,allLive,Bool.and_true,qf,List.getD_cons_zero,List.getD_cons_succ,Nat.zero_add,Nat.reduceAdd,qi,allLive,Bool.and_true,Qz];rw[if_pos hb1]at ht0;rw[<-ht0];exact⟨scH kx B tb c.left c.text mv 0,by rw[<-hH0];exact zqB,rfl,hl,tb,0,rfl,hi⟩
 ·try simp only[decide_eq_true_eq,Bool.not_eq_false']at hb1
  have hv0:(atE c 0).2.2=0:=by simpa using hb1
  rw[if_neg (by rw[hv0];simp)]at ht0;obtain⟨a1,a2,a3,a4⟩:=hi.lay (j:=k0q0) (lf:=c.left) (s:=c.text) (mv:=mv) (i:=0) (by rw[<-hH0];exact hk0q0) ⟨[.int .i64 0, .int .i64 0, .int .i64 0],0⟩;obtain⟨B1,hB1⟩:∃B1,B1=B.set k0q0 ⟨[.int .i64 0, .int .i64 0, .int .i64 0],0⟩:=⟨_,rfl⟩
  rw[<-hB1]at a1 a2;have hB1s:Sub B B1:=by rw[hB1];exact Sub.set a4
  have hB1k:B1 k0q0=some ⟨[.int .i64 0, .int .i64 0, .int .i64 0],0⟩:=by rw[hB1];exact AHeap.set_same _ _ _
  have hv:validC c=true:=by
   unfold atE at hv0;split at hv0
   ·rename_i q;exact q.1
   ·cases hv0
  refine Awp.forget (h':=scH kx B1 tb c.left c.text mv 0) (by rw[<-a1,<-hH0];exact Sub.set hk1q8) ?_;refine qP ?_;change Awp _ _ _ _ _ _ _;refine qK ?_;refine Ql ?_;refine Xv [0,2] (fun g:ScG=>[(0, .ptr (.own kx) 0),(2, .ptr (.own k0q0) 0)]) (fun g:ScG=>scH kx B1 g.tb c.left c.text mv g.i) (fun g:ScG=>ScOk kx B1 c (qav c l) g) (fun g:ScG=>c.text.length-g.i) ⟨0,l,tb⟩ (by rfl) (Sub.refl _) ⟨a2,Nat.zero_le _,ht0,hl⟩ ?_;rintro⟨i,l1,tb1⟩ ⟨i1,i2,i3,i4⟩;simp only at i1 i2 i3 i4|-
  have hjl:=skipE_le c.text (ZM l1).1 i i2;have hjg:=qdN c.text (ZM l1).1 i;have hnot:=skip_not (s:=c.text) (next:=(ZM l1).1) (i:=i);have hstep:=cardR_step c i l1;have hsk:=c_skip wz (scH kx B1 tb1 c.left c.text mv i) kx c.left c.text mv (QA 5 tb1) i l1 i1.at (i1.toks _) (fun d=>by rw[i1.set];exact i1.toks d) (by omega) hct i2;have hst:=i1.set (lf:=c.left) (s:=c.text) (mv:=mv) (i:=i) ⟨[.bool c.left, .str c.text,mv, .int .i64 (ZO c.text (ZM l1).1 i),QA 5 tb1],0⟩;obtain⟨j,hj⟩:∃j,j=ZO c.text (ZM l1).1 i:=⟨_,rfl⟩
  rw[<-hj]at hjl hjg hnot hstep hsk hst;rw[i3]at hstep;have hval:atE c j=((atE c j).1,(atE c j).2.1,0):=by
   unfold atE;rw[if_pos ⟨hv,by omega,by omega⟩]
  refine qK ?_;refine awp_rseq [0,2,23] (by rfl) fun K hK=>?_;simp+decide only[ev,putD,Slots.put,Slots.get,if_true,if_false,true_and,↓qh,qc];refine QN (by rfl) (by rfl) (hsk) fun x4q1 h4q1 hx4q1=>?_;obtain⟨hv4,hh4⟩:=hx4q1;rw[hv4,hh4,hst];simp+decide only[qa,putD,Slots.put,Slots.keep,if_true,if_false];apply hK;clear hK K;refine qJ (b:=_) rfl (fun hb2=>?_) (fun hb2=>?_)
  ·try simp only[decide_eq_true_eq]at hb2
   refine qP ?_;change Awp _ _ _ _ _ _ _;refine Ql ?_;have hjlt:j<c.text.length:=by simpa using hb2
   have h32:=hnot hjlt;obtain⟨H1,hH1⟩:∃H1,H1=scH kx B1 tb1 c.left c.text mv j:=⟨_,rfl⟩
   have htk:IsL wz H1 5 (QA 5 tb1) (l1.map QK):=by rw[hH1];exact i1.toks _
   replace eb_x:H1 kx=some ⟨[.bool c.left, .str c.text,mv, .int .i64 j,QA 5 tb1],0⟩:=by rw[hH1];exact i1.at
   have eb_0q0:H1 k0q0=some ⟨[.int .i64 0, .int .i64 0, .int .i64 0],0⟩:=by rw[hH1];exact i1.other hB1k
   have hs_H1:Sub B H1:=by rw[hH1];exact hB1s.trans i1.above
   have htl:=htk.live;have hlen:=htk.len Tryz.underlying26;rw[List.length_map]at hlen;rw[if_neg (by omega)]at hstep;obtain⟨t,ht⟩:∃t,t=WG c.text j l1:=⟨_,rfl⟩
   rw[<-ht]at hstep;show Awp _ _ _ _ _ _ (scH kx B1 tb1 c.left c.text mv j)
   rw[<-hH1];refine YM 13 [11] [0,2,5] mixed (by kernel_rfl) (by rfl) fun K hK=>?_;simp only[List.take_succ_cons,List.take_zero,List.drop_succ_cons,List.drop_zero];simp+decide only[ev,putD,Slots.put,Slots.get,if_true,if_false,true_and,↓XK,qc,↓WH,qM,Qn,↓ZG,qm,Ug,↓Zv,XF,qg ag129 qcz,Wu,qy ag3,Qy wz eb_x,qf,List.getD_cons_zero,List.getD_cons_succ,Nat.zero_add,Nat.reduceAdd,qD,qi,qE,allLive,Bool.and_true,hlm];refine Xk (V:= .tuple [Wl (atE c j).1 (atE c j).2.1, .int .i64 (atE c j).2.2]) (by rfl) (by rfl) (by first|trivial|(simp+decide only[AVal.okIn,Xw,and_true,true_and,Qz,Un,Wl,qft,nxA,nxR,AHeap.set_same,Option.isSome_some];done)|(simp[AVal.okIn,Xw,AHeap.set];done)) (fun g hg=>c_At wz _ c mv j (hm.mono (hs_H1.trans hg)) hml (by omega) (by omega)) ?_;simp+decide only[ev,putD,Slots.put,Slots.get,if_true,if_false,true_and,↓XK,qc,↓fp_extract,QH,QS,List.length_cons,List.length_nil,List.getD_cons_zero,List.getD_cons_succ,List.getD_cons_zero,List.getD_cons_succ,Nat.zero_add,Nat.reduceAdd,Wl];refine qcK (by rfl) ?_;refine Qj ze33 (cs:=[.int .i64 0, .int .i64 0]) (by rfl) fun k5q12 hk5q12=>?_;have hn_5q12:H1 k5q12=none:=by first|assumption|(simp only[AHeap.set_none]at hk5q12;simp only[hk5q12])
   have hf_5q12:B k5q12=none:=Sub.none hs_H1 hn_5q12;have ne_5q12_x:k5q12≠kx:=AHeap.ne_some hn_5q12 eb_x;have ne_5q12_0q0:k5q12≠k0q0:=AHeap.ne_some hn_5q12 eb_0q0;rw[qa];try simp only[Yr]
   refine qp (by rfl) (by rfl) zqA qbf (by rfl) (by rfl) zqD (Nat.zero_le _) (by rfl) ?_;simp only[AHeap.set_set,AVal.cells];simp+decide only[qa,ev,putD,Slots.put,Slots.get,Slots.keep,if_true,if_false,true_and,↓qd,qb,setAt,List.set_cons_zero,List.set_cons_succ,Nat.zero_add];apply hK;clear hK K;refine awp_rseq [0,2,5,7,8,9] (by rfl) fun K hK=>?_;simp+decide only[ev,putD,Slots.put,Slots.get,if_true,if_false,true_and,↓qh,qc];refine qN (V:=nxR t) (by rfl) (by rfl) (by rw[ht];exact c_next wz _ kx c.left c.text mv (QA 5 tb1) j l1 (zqA) (htk.mono zqB) (by omega) h32 hct) ?_;simp+decide only[ev,putD,Slots.put,Slots.get,if_true,if_false,true_and,↓qh,qc,↓QW,QH,QS,List.length_cons,List.length_nil,List.getD_cons_zero,List.getD_cons_succ,List.getD_cons_zero,List.getD_cons_succ,Nat.zero_add,Nat.reduceAdd,nxA,nxR];refine Qj qam (cs:=[.int .u8 0, .str [], .int .i64 0, .int .i64 0, .bool false]) (by rfl) fun k6q6 hk6q6=>?_;have ne_6q6_5q12:k6q6≠k5q12:=by simp only[AHeap.set_none]at hk6q6;simp only[hk6q6,ne_eq,not_false_eq_true]
   have hn_6q6:H1 k6q6=none:=by first|assumption|(simp only[AHeap.set_none]at hk6q6;simp only[hk6q6])
   have hf_6q6:B k6q6=none:=Sub.none hs_H1 hn_6q6;have ne_6q6_x:k6q6≠kx:=AHeap.ne_some hn_6q6 eb_x;have ne_6q6_0q0:k6q6≠k0q0:=AHeap.ne_some hn_6q6 eb_0q0;refine qp (by rfl) (by rfl) zqA Xa (by rfl) (by rfl) zqD (Nat.zero_le _) (by rfl) ?_;simp only[AHeap.set_set,AVal.cells];simp+decide only[qa,ev,putD,Slots.put,Slots.get,Slots.keep,if_true,if_false,true_and,↓qd,qb,setAt,List.set_cons_zero,List.set_cons_succ,Nat.zero_add,Nat.reduceAdd];apply hK;clear hK K;refine qK ?_;refine awp_rseq [0,2,5,7,8,9,51] (by rfl) fun K hK=>?_;simp+decide only[qa,ev,qH,qF,putD,Slots.put,Slots.get,Slots.keep,if_true,if_false,true_and,↓qh,qc,↓qA,ql,qB,cond_false,qo,XR,↓Xf,agP,Qs,qL,qI,qz,implies_true,↓ZY,qM,Qn,qaY,qaZ,↓XC,qm,qdp,Zl,Zm,↓Zr,Za,WS,qfb,qy UJ,↓qbZ,QD,qfH,qfI,↓Xb,Zc,Zd,qaC,↓QT,Qu,Qh,Xg,Xp,QO,ne_eq,not_false_eq_true,ne_5q12_x.symm,ne_6q6_x.symm,Qy wz eb_x,List.getD_cons_zero,List.getD_cons_succ,Nat.zero_add,htl,hlen];apply hK;clear hK K;refine Ue [0,2,5,7,8,9] (fun z:Unit=>[(0, .ptr (.own kx) 0),(2, .ptr (.own k0q0) 0),(5, .ptr (.own k5q12) 0),(7, .ptr (.own k6q6) 0),(8, .int .i64 t.n),(9, .int .i64 (errE t l1.length))]) (fun z:Unit=>(H1.set k5q12 ⟨[.int .i64 (atE c j).1, .int .i64 (atE c j).2.1],0⟩).set k6q6 ⟨[.int .u8 t.kind.toNat, .str t.text, .int .i64 0, .int .i64 0, .bool false],0⟩) (fun z:Unit=>True) ?_ ?_
   ·refine qJ (b:=_) rfl (fun hb3=>?_) (fun hb3=>?_)
    ·try simp only[decide_eq_true_eq,Bool.and_eq_true]at hb3
     have hee:errE t l1.length=3:=by unfold errE;rw[if_pos ⟨hb3.1,by omega⟩]
     refine XA [0,2,5,7,8,9] (by rfl) ?_;simp+decide only[qa,ev,qH,qF,putD,Slots.put,Slots.keep,if_true,if_false,true_and,and_true,↓qd,qb,Qz];try simp only[Qg]
     first
     |exact⟨(),by rw[hee];rfl,Sub.refl _,trivial⟩
     |exact⟨(),by rw[hee];rfl,Sub.refl _⟩
    ·try simp only[decide_eq_false_iff_not,Bool.and_eq_false_iff]at hb3
     have hee:errE t l1.length=t.e:=by unfold errE;rw[if_neg (fun q=>hb3.elim (fun z=>z q.1) (fun z=>z (by omega)))]
     refine qP ?_;try simp only[Qg]
     first
     |exact⟨(),by rw[hee];rfl,Sub.refl _,trivial⟩
     |exact⟨(),by rw[hee];rfl,Sub.refl _⟩
   ·intro _ _
    refine qK ?_;refine awp_rseq [0,2,5,7,8,9,53] (by rfl) fun K hK=>?_;simp+decide only[qa,ev,qH,qF,putD,Slots.put,Slots.get,Slots.keep,if_true,if_false,true_and,↓qh,qc,↓qA,ql,qB,cond_false,qo,qag];apply hK;clear hK K;refine qJ (b:=_) rfl (fun hb4=>?_) (fun hb4=>?_)
    ·try simp only[decide_eq_false_iff_not,Bool.not_eq_true']at hb4
     rw[if_pos hb4]at hstep;have hSB:Sub (scH kx B tb1 c.left c.text mv j) H1:=by rw[hH1];exact scH_sub hB1s
     have hz0:(scH kx B tb1 c.left c.text mv j) k0q0=none:=i1.none hB1k a4;have hz5:=Sub.none hSB hn_5q12;have hz6:=Sub.none hSB hn_6q6;refine awp_rseq [2] (by rfl) fun K hK=>?_;simp+decide only[ev,qH,qF,putD,Slots.put,Slots.get,if_true,if_false,true_and,↓qh,qc,↓qG,qY,qg ag33 qbf,↓Qp,↓qW,UE,evP,List.map_cons,List.map_nil,QO,ne_eq,not_false_eq_true,ne_6q6_5q12.symm,QP,qf,List.getD_cons_zero,List.getD_cons_succ,Nat.zero_add,qi,allLive,Bool.and_true];refine qp (by rfl) (by rfl) zqA QI (by rfl) (by rfl) zqD (Nat.zero_le _) (by rfl) ?_;simp only[AVal.cells];simp+decide only[qa,ev,putD,Slots.get,Slots.keep,if_true,if_false,setAt,List.set_cons_zero,List.set_cons_succ,Nat.zero_add,Nat.reduceAdd];apply hK;clear hK K;refine qO ?_;try simp only[Qi,Qw]
     refine QR (?_) ?_
     ·simp+decide only[QE,qj,Slots.get,if_true,and_true,qj,qg Xt QI,Qc,qf,List.getD_cons_zero,List.getD_cons_succ,Nat.zero_add,Nat.reduceAdd,qi,allLive,Bool.and_true,qf,List.getD_cons_zero,List.getD_cons_succ,Nat.zero_add,Nat.reduceAdd,qi,allLive,Bool.and_true]
     simp+decide only[Slots.get,if_true,YH,qj,qg Xt QI,Qc,qf,List.getD_cons_zero,List.getD_cons_succ,Nat.zero_add,Nat.reduceAdd,qi,allLive,Bool.and_true,qf,List.getD_cons_zero,List.getD_cons_succ,Nat.zero_add,Nat.reduceAdd,qi,allLive,Bool.and_true,Qz];rw[hstep];exact⟨scH kx B tb1 c.left c.text mv j,zqB,rfl,i4,tb1,j,rfl,i1.down hB1s⟩
    ·try simp only[decide_eq_true_eq,Bool.not_eq_false']at hb4
     have hez:errE t l1.length=0:=by simpa using hb4
     rw[if_neg (by rw[hez];simp)]at hstep;have hte:=errE_ok hez;have hlt:l1.length<65536:=by
      unfold errE at hez;split at hez
      ·cases hez
      ·rename_i q;exact Nat.lt_of_not_le fun z=>q ⟨hte,z⟩
     have hnk:NxOk c.text j t:=by
      rw[ht]at hte|-
      exact next_ok hjlt (by rwa [YJ hjlt]at h32) hte
     have hn0:=hnk.n0;have hn1:=hnk.n1;refine qP ?_;change Awp _ _ _ _ _ _ _;refine awp_dseq_G 5 [1,2,3] [k5q12] [0,2,7,8] mixed (by kernel_rfl) (by rfl) fun K hK=>?_;simp only[List.take_succ_cons,List.take_zero,List.drop_succ_cons,List.drop_zero];simp+decide only[Yr,ev,qH,qF,putD,Slots.put,Slots.get,if_true,if_false,true_and,↓Zv,XF,qg ag33 qbf,↓ZG,qm,fa33_1,qy ag3,↓fp_binOp,ql,qB,cond_false,qo,XP,fa54_2,QO,ne_eq,not_false_eq_true,ne_6q6_5q12.symm,QP,qf,List.getD_cons_zero,List.getD_cons_succ,Nat.zero_add,qi,allLive,Bool.and_true];refine And.intro (by simp(decide:=true) [qcs,ev,Slots.get]) ?_;refine qbu ?_;refine qp (by rfl) (by rfl) zqA qbf (by rfl) (by rfl) zqD (Nat.zero_le _) (by rfl) ?_;simp only[AHeap.set_set,AVal.cells];rw[qa];refine And.intro (by intro k hk;simp only[List.mem_cons,List.not_mem_nil,or_false]at hk;first|rfl|(first|subst hk|(rcases hk with rfl|rfl|rfl|rfl|rfl));all_goals (simp[AHeap.set,ne_6q6_5q12.symm]<;>rfl)) ?_;simp+decide only[ev,putD,Slots.put,Slots.get,if_true,if_false,true_and,↓kp_fieldAddr,qm,fa54_3,setAt,List.set_cons_zero,List.set_cons_succ,Nat.zero_add,Nat.reduceAdd];refine qbu ?_;refine qp (by rfl) (by rfl) zqA sz4 (by rfl) (by rfl) zqD (Nat.zero_le _) (by rfl) ?_;simp only[AHeap.set_set,AVal.cells];rw[qa];refine And.intro (by intro k hk;simp only[List.mem_cons,List.not_mem_nil,or_false]at hk;first|rfl|(first|subst hk|(rcases hk with rfl|rfl|rfl|rfl|rfl));all_goals (simp[AHeap.set,ne_6q6_5q12.symm]<;>rfl)) ?_;simp+decide only[kOps_nil,ev,putD,Slots.get,Slots.keep,if_true,if_false,setAt,List.set_cons_zero,List.set_cons_succ];apply hK;clear hK K;refine YM 7 [0] [0,2,8] mixed (by kernel_rfl) (by rfl) fun K hK=>?_;simp only[List.take_succ_cons,List.take_zero,List.drop_succ_cons,List.drop_zero];simp+decide only[ev,putD,Slots.put,Slots.get,if_true,if_false,true_and,↓XK,qc,↓WH,qM,Qn,↓ZG,qm,qdp,↓Zv,XF,qy UJ,qg Zf Xa,QO,ne_eq,not_false_eq_true,ne_5q12_x.symm,ne_6q6_x.symm,Qy wz eb_x,QP,qf,List.getD_cons_zero,List.getD_cons_succ,Nat.zero_add,Nat.reduceAdd,qD,qi,qE,allLive,Bool.and_true,htl];refine qcK (by rfl) ?_;refine Qm (cs:=QK (tokAt c j t)) (by kernel_rfl) fun k12q6 hk12q6=>?_;have ne_12q6_5q12:k12q6≠k5q12:=by simp only[AHeap.set_none]at hk12q6;simp only[hk12q6,ne_eq,not_false_eq_true]
     have ne_12q6_6q6:k12q6≠k6q6:=by simp only[AHeap.set_none]at hk12q6;simp only[hk12q6,ne_eq,not_false_eq_true]
     have hn_12q6:H1 k12q6=none:=by first|assumption|(simp only[AHeap.set_none]at hk12q6;simp only[hk12q6])
     have hf_12q6:B k12q6=none:=Sub.none hs_H1 hn_12q6;have ne_12q6_x:k12q6≠kx:=AHeap.ne_some hn_12q6 eb_x;have ne_12q6_0q0:k12q6≠k0q0:=AHeap.ne_some hn_12q6 eb_0q0;rw[qa];try simp only[Yr]
     refine Xu (es:=5) (zs:=l1.map QK) (xs:=[QK (tokAt c j t)]) (hZ:=B1.set kx ⟨[.bool c.left, .str c.text,mv, .int .i64 j,QA 5 tb1],0⟩) (b:=tb1) (by rfl) (by rfl) Tryz.underlying26 Tryz.underlying26 (fun k e=>by cases e) Xa by54 qam (by rfl) (by decide) (by rfl) (i1.ok _) i1.eq Xc (by rw[show QG (B1.set kx ⟨[.bool c.left, .str c.text,mv, .int .i64 j,QA 5 tb1],0⟩) tb1=H1 from hH1.symm];exact zqB) (by rfl) (IsL.own (AHeap.set_same _ _ _) (by simp[QK]) (by rfl) (by rfl) (.exact 1) (Nat.le_refl _)) (by rfl) (by simp;omega) (by simp;omega) fun tb2 h12 o1 o2 o3=>?_;have hlv2:=QV 5 tb2;simp+decide only[ev,putD,Slots.put,Slots.get,if_true,if_false,true_and,↓Qk,qM,Qn,↓qC,qm,qdp,Nat.zero_add];refine qp (v:=QA 5 tb2) (by rfl) (by rfl) (o3 _ _ (ZR o1 (AHeap.set_same _ _ _))) sz26 hlv2 (by cases tb2<;>rfl) (by cases tb2<;>simp[QA]) (Nat.zero_le _) (by cases tb2<;>rfl) ?_;rw[show(QA 5 tb2).cells=[QA 5 tb2] by cases tb2<;>rfl];simp only[setAt,List.set_cons_zero,List.set_cons_succ];simp+decide only[qa,putD,Slots.keep,if_true,if_false];apply hK;clear hK K;have j1:ScInv kx B1 tb2 (l1++[tokAt c j t]):=⟨i1.hk,fun d=>by have:=ZP o1 (AHeap.set_same _ _ _) d;rwa [AHeap.set_set]at this,by rw[o2,List.map_append];rfl⟩
     have hfor:Sub (scH kx B1 tb2 c.left c.text mv j) (h12.set kx ⟨[.bool c.left, .str c.text,mv, .int .i64 j,QA 5 tb2],0⟩):=by
      have:=Sub.set_both o3 kx ⟨[.bool c.left, .str c.text,mv, .int .i64 j,QA 5 tb2],0⟩;rw[Wo o1 (AHeap.set_same _ _ _),AHeap.set_set]at this;exact this
     refine Awp.forget (h':=scH kx B1 tb2 c.left c.text mv j) hfor ?_;have r13:=fun o=>Qy wz (j1.at (lf:=c.left) (s:=c.text) (mv:=mv) (i:=j)) o;refine XA [0,2] (by rfl) ?_;simp+decide only[ev,putD,Slots.put,Slots.get,if_true,if_false,true_and,↓qh,qc,↓Qk,qM,Qn,↓qC,qm,Wu,↓qG,qY,qy ag3,↓qA,ql,qR,cond_false,qo,QY,List.getD_cons_zero,List.getD_cons_succ,Nat.zero_add,qi,Qz,r13];try simp(disch:=omega)only[wrap_i64]
     refine qp (v:= .int .i64 ((j:Int)+t.n)) (by rfl) (by rfl) j1.at sz3 (by rfl) (by rfl) (by simp) (Nat.zero_le _) (by rfl) ?_;simp only[setAt,AVal.cells,List.set_cons_zero,List.set_cons_succ];rw[j1.set,show(j:Int)+(t.n:Int)=((j+t.n:Nat):Int) by omega];simp+decide only[qa,putD,Slots.keep,if_true,if_false];try simp only[Qg,YO]
     exact⟨⟨j+t.n,l1++[tokAt c j t],tb2⟩,rfl,Sub.refl _,⟨j1,hn1,hstep.symm,by simp only[List.length_append,List.length_cons,List.length_nil];omega⟩,by simp only;omega⟩
  ·try simp only[decide_eq_false_iff_not]at hb2
   refine Xy ?_;change Awp _ _ _ _ _ _ _;have hjge:¬j<c.text.length:=by simpa using hb2
   obtain⟨H1,hH1⟩:∃H1,H1=scH kx B1 tb1 c.left c.text mv j:=⟨_,rfl⟩
   have eb_0q0:H1 k0q0=some ⟨[.int .i64 0, .int .i64 0, .int .i64 0],0⟩:=by rw[hH1];exact i1.other hB1k
   have hs_H1:Sub B H1:=by rw[hH1];exact hB1s.trans i1.above
   rw[if_pos (by omega)]at hstep;show Awp _ _ _ _ _ _ (scH kx B1 tb1 c.left c.text mv j)
   rw[<-hH1];refine awp_rseq [2] (by rfl) fun K hK=>?_;simp+decide only[ev,qH,qF,putD,Slots.put,Slots.get,if_false,true_and,↓Qp,↓qW,ZJ,evP,List.map_nil];refine qp (by rfl) (by rfl) zqA QI (by rfl) (by rfl) zqD (Nat.zero_le _) (by rfl) ?_;simp only[AVal.cells];simp+decide only[qa,ev,putD,Slots.get,Slots.keep,if_true,if_false,setAt,List.set_cons_zero,List.set_cons_succ,Nat.zero_add,Nat.reduceAdd];apply hK;clear hK K;refine qO ?_;refine QR (?_) ?_
   ·simp+decide only[QE,qj,Slots.get,if_true,and_true,qj,qg Xt QI,Qc,qf,List.getD_cons_zero,List.getD_cons_succ,Nat.zero_add,Nat.reduceAdd,qi,allLive,Bool.and_true,qf,List.getD_cons_zero,List.getD_cons_succ,Nat.zero_add,Nat.reduceAdd,qi,allLive,Bool.and_true]
   simp+decide only[Slots.get,if_true,YH,qj,qg Xt QI,Qc,qf,List.getD_cons_zero,List.getD_cons_succ,Nat.zero_add,Nat.reduceAdd,qi,allLive,Bool.and_true,qf,List.getD_cons_zero,List.getD_cons_succ,Nat.zero_add,Nat.reduceAdd,qi,allLive,Bool.and_true,Qz];have hSB:Sub (scH kx B tb1 c.left c.text mv j) H1:=by rw[hH1];exact scH_sub hB1s
   have hz0:(scH kx B tb1 c.left c.text mv j) k0q0=none:=i1.none hB1k a4;rw[hstep];exact⟨scH kx B tb1 c.left c.text mv j,zqB,rfl,i4,tb1,j,rfl,i1.down hB1s⟩
end Go.Proofs.YtlhhaagmakhilaaGreatDoor
namespace Go.Proofs.YtlhhaagmakhilaaGreatDoor
open Go.AM
open Go.Proofs
open Go.Col
set_option maxRecDepth 100000
theorem qfd{x:Rd}{l:List CardC}{c:CardC}(hx:x.cards=l++[c])(line col:Int)(t:Str):addE x line col t=⟨l++[qfi c line col t],line,col,qcp (c.text++t)⟩:=by
 unfold addE;rw[hx];simp
theorem bufV_some(es:Nat)(b:Buf):QA es (some b)= .slice (.own b.blk) 0 (b.cells.length / es) (.grow es):=rfl
theorem c_addR(wz:World)(h:AHeap)(kx:Nat)(B M:AHeap)(cb mb:Option Buf)(x:Rd)(hi:RdInv wz h kx B M cb mb x)(hx:x.cards≠[])(line col:Int)(t:Str)(hb:∀c∈x.cards,c.text.length<=549755813888/\c.marks.length<=549755813888)(hn:x.cards.length<=549755813888)(ht:t.length<=80):
 ACall Tryz.prog wz 80 [.ptr (.own kx) 0, .int .i64 line, .int .i64 col, .str t] (rdH kx B cb mb x)
  (fun v h'=>v= .tuple []/\∃cb' mb',h'=rdH kx B cb' mb' (addE x line col t)/\RdInv wz h kx B M cb' mb' (addE x line col t)):=by
 rcases hi.cards with⟨c1,_⟩|⟨done,c,kc,c1,c2,c3,c4⟩
 ·exact absurd c1 hx
 have hD:((done.map Zo).flatten).length=done.length*3:=by
  rw[Xz (es:=3) (by intro y hy;obtain⟨p,_,rfl⟩:=List.mem_map.1 hy;rfl),List.length_map]
 have hlen:x.cards.length=done.length+1:=by rw[c1];simp
 have hcm:c∈x.cards:=by rw[c1];simp
 obtain⟨b1,b2⟩:=hb c hcm;have hokc:=hi.okc;have hokm:=hi.okm;have hL:((done.map Zo).flatten++[.bool c.left, .str c.text,QA 3 mb]).length / 3=done.length+1:=by
  rw[List.length_append,hD];simp only[List.length_cons,List.length_nil];omega
 have hv:QA 3 cb= .slice (.own kc) 0 (done.length+1) (.grow 3):=by
  rw[c2,bufV_some,hL]
 subst c2;have hkc:kc≠kx:=fun e=>by
  have:=hokc.1;simp only[e,AHeap.set_same]at this;cases this
 have hBc:B kc=none:=by
  have:=hokc.1
  rwa [AHeap.set_ne _ _ hkc]at this
 have call:=c_add wz (QG (B.set kx ⟨Xn (some ⟨kc,(done.map Zo).flatten++[.bool c.left, .str c.text,QA 3 mb]⟩) x,0⟩) (some ⟨kc,(done.map Zo).flatten++[.bool c.left, .str c.text,QA 3 mb]⟩)) kx kc (done.map Zo).flatten done.length mb c x.line x.col x.odd line col t
  (by rw[show QG (B.set kx ⟨Xn (some ⟨kc,(done.map Zo).flatten++[.bool c.left, .str c.text,QA 3 mb]⟩) x,0⟩) (some ⟨kc,(done.map Zo).flatten++[.bool c.left, .str c.text,QA 3 mb]⟩)=(B.set kx ⟨Xn (some ⟨kc,(done.map Zo).flatten++[.bool c.left, .str c.text,QA 3 mb]⟩) x,0⟩).set kc ⟨(done.map Zo).flatten++[.bool c.left, .str c.text,QA 3 mb],0⟩from rfl,AHeap.set_ne _ _ hkc.symm,AHeap.set_same];unfold Xn;rw[hv])
  (AHeap.set_same _ _ _) hD hokm c3 (by omega) (by omega) (by omega)
 refine call.mono fun v h' hr=>?_;obtain⟨e1,mb',e2,o1,o2⟩:=hr;have hadd:=qfd c1 line col t;have hL':((done.map Zo).flatten++[.bool c.left, .str (qfi c line col t).text,QA 3 mb']).length / 3=done.length+1:=by
  rw[List.length_append,hD];simp only[List.length_cons,List.length_nil];omega
 have hcells:Xn (some ⟨kc,(done.map Zo).flatten++[.bool c.left, .str (qfi c line col t).text,QA 3 mb']⟩) (addE x line col t)=[.slice (.own kc) 0 (done.length+1) (.grow 3), .int .i64 line, .int .i64 col, .bool (qcp (c.text++t))]:=by
  unfold Xn;rw[hadd,bufV_some,hL']
 have hH:(((QG (B.set kx ⟨Xn (some ⟨kc,(done.map Zo).flatten++[.bool c.left, .str c.text,QA 3 mb]⟩) x,0⟩) (some ⟨kc,(done.map Zo).flatten++[.bool c.left, .str c.text,QA 3 mb]⟩)).set kx ⟨[.slice (.own kc) 0 (done.length+1) (.grow 3), .int .i64 line, .int .i64 col, .bool (qcp (c.text++t))],0⟩).set kc ⟨(done.map Zo).flatten++[.bool c.left, .str (qfi c line col t).text,QA 3 mb'],0⟩)
  =QG (B.set kx ⟨Xn (some ⟨kc,(done.map Zo).flatten++[.bool c.left, .str (qfi c line col t).text,QA 3 mb']⟩) (addE x line col t),0⟩) (some ⟨kc,(done.map Zo).flatten++[.bool c.left, .str (qfi c line col t).text,QA 3 mb']⟩):=by
  rw[hcells];simp only[QG];rw[AHeap.set_comm _ _ _ hkc.symm,AHeap.set_set,AHeap.set_set]
 rw[hH]at e2 o1;refine⟨e1,_,mb',e2,⟨hi.sub,hi.subM,hi.hk,?_,o1, .inr ⟨done,qfi c line col t,kc,by rw[hadd],?_,o2,c4⟩⟩⟩
 ·refine⟨(AHeap.set_ne _ _ hkc).trans hBc,?_,?_⟩
  ·rw[List.length_append,hD]
   simp only[List.length_cons,List.length_nil];omega
  ·have hlv:=hokc.2.2
   rw[qbY,Bool.and_eq_true]at hlv|-
   refine⟨hlv.1,?_⟩;show(true && (true && ((QA 3 mb').live && true)))=true
   rw[QV];rfl
 ·have hleft:(qfi c line col t).left=c.left:=rfl
  rw[hleft]
theorem bufPut{H:AHeap}{es:Nat}{b:Option Buf}{j:Nat}{c d:Blk}(hb:bufOk (H.set j c) es b):QG (H.set j d) b=(QG H b).set j d/\bufOk H es b/\QG H b j=H j:=by
 cases b with
 |none=>exact⟨rfl,trivial,rfl⟩
 |some b=>
  have hne:b.blk≠j:=fun e=>by
   have:=hb.1;rw[e,AHeap.set_same]at this;cases this
  have h1:H b.blk=none:=by have:=hb.1;rwa [AHeap.set_ne _ _ hne]at this
  exact⟨AHeap.set_comm _ _ _ hne,⟨h1,hb.2⟩,AHeap.set_ne _ _ hne.symm⟩
theorem RdInv.chunks{wz:World}{h:AHeap}{kx:Nat}{B M:AHeap}{cb mb:Option Buf}{x:Rd}(hi:RdInv wz h kx B M cb mb x):∃zs:List (List AVal),Yu cb=zs.flatten/\(∀z∈zs,z.length=3)/\zs.length=x.cards.length:=by
 rcases hi.cards with⟨c1,c2,_⟩|⟨done,c,kc,c1,c2,c3,c4⟩
 ·exact⟨[],by rw[c2];rfl,by simp,by rw[c1];rfl⟩
 ·refine⟨done.map Zo++[[.bool c.left, .str c.text,QA 3 mb]],by rw[c2];simp[Yu],?_,by rw[c1];simp⟩
  intro z hz;rw[List.mem_append]at hz;rcases hz with hz|hz
  ·obtain⟨p,_,rfl⟩:=List.mem_map.1 hz;rfl
  ·rw[List.mem_singleton.1 hz];rfl
theorem RdInv.push{wz:World}{h:AHeap}{kx:Nat}{B M:AHeap}{cb mb:Option Buf}{x:Rd}(hi:RdInv wz h kx B M cb mb x)(left:Bool){cb':Option Buf}{h5:AHeap}
 (o1:bufOk (QG (B.set kx ⟨Xn cb x,0⟩) mb) 3 cb') (o2:Yu cb'=Yu cb++[.bool left, .str [], .nilSlice]) (o3:Sub (QG (QG (B.set kx ⟨Xn cb x,0⟩) mb) cb') h5):
 RdInv wz h kx (QG B mb) (QG M mb) cb' none ⟨x.cards++[⟨left,[],[]⟩],x.line,x.col,x.odd⟩/\Sub (rdH kx (QG B mb) cb' none ⟨x.cards++[⟨left,[],[]⟩],x.line,x.col,x.odd⟩) (h5.set kx ⟨Xn cb' ⟨x.cards++[⟨left,[],[]⟩],x.line,x.col,x.odd⟩,0⟩)/\(∀j c,B j=some c->QG B mb j=some c)/\∀j c,B j=some c->M j=none->QG M mb j=none:=by
 obtain⟨q1,q2,q3⟩:=bufSwap hi.okc hi.okm;obtain⟨p1,p2,p3⟩:=bufPut (d:=⟨Xn cb x,0⟩) q2;have hsub:Sub B (QG B mb):=Sub.buf p2;rw[p1]at o1 o3;obtain⟨r1,r2,r3⟩:=bufPut (d:=⟨Xn cb' ⟨x.cards++[⟨left,[],[]⟩],x.line,x.col,x.odd⟩,0⟩) o1;obtain⟨s1,_,_⟩:=bufPut (d:=⟨Xn cb x,0⟩) o1;have pM:bufOk M 3 mb:=p2.sub hi.subM;have hsubM:Sub M (QG M mb):=Sub.buf pM;have hMB:Sub (QG M mb) (QG B mb):=by
  cases mb with
  |none=>exact hi.subM
  |some b=>exact Sub.set_both hi.subM _ _
 refine⟨⟨hi.sub.trans hsub,hMB,p3.trans hi.hk,?_,trivial, .inr ?_⟩,?_,fun j c hj=>hsub _ _ hj,fun j c hj hM=>?_⟩
 ·have:=ZP o1 (AHeap.set_same _ _ _) ⟨Xn cb' ⟨x.cards++[⟨left,[],[]⟩],x.line,x.col,x.odd⟩,0⟩
  rwa [AHeap.set_set]at this
 ·have hsome:∃kc,cb'=some ⟨kc,Yu cb++[.bool left, .str [], .nilSlice]⟩:=by
   cases cb' with
   |none=>simp[Yu]at o2
   |some b=>exact⟨b.blk,by rw[<-o2];rfl⟩
  obtain⟨kc',hcb'⟩:=hsome;rcases hi.cards with⟨c1,c2,c3⟩|⟨done,c,kc,c1,c2,c3,c4⟩
  ·refine⟨[],⟨left,[],[]⟩,kc',by rw[c1];rfl,by rw[hcb',c2];rfl,rfl,by simp⟩
  ·refine⟨done++[(c,QA 3 mb)],⟨left,[],[]⟩,kc',by rw[c1];simp,?_,rfl,?_⟩
   ·rw[hcb',c2]
    simp[Yu,Zo,QA]
   ·intro p hp
    rw[List.mem_append]at hp;rcases hp with hp|hp
    ·exact(c4 p hp).mono hsubM
    ·rw[List.mem_singleton.1 hp]
     exact IsL.buf pM (by decide) c3 (by intro y hy;obtain⟨m,_,rfl⟩:=List.mem_map.1 hy;rfl) (Sub.refl _)
 ·show Sub (QG ((QG B mb).set kx ⟨Xn cb' ⟨x.cards++[⟨left,[],[]⟩],x.line,x.col,x.odd⟩,0⟩) cb') _
  rw[r1];rw[s1]at o3;have:=Sub.set_both o3 kx ⟨Xn cb' ⟨x.cards++[⟨left,[],[]⟩],x.line,x.col,x.odd⟩,0⟩
  rwa [AHeap.set_set]at this
 ·cases mb with
  |none=>exact hM
  |some b=>
   have:j≠b.blk:=fun e=>by
    have:=p2.1;rw[<-e,hj]at this;cases this
   exact(AHeap.set_ne _ _ this).trans hM
end Go.Proofs.YtlhhaagmakhilaaGreatDoor
namespace Go.Proofs.YtlhhaagmakhilaaGreatDoor
open Go.AM
open Go.Proofs
open Go.Col
set_option maxRecDepth 100000
theorem take1{x:Rd}{r:RowC}(h1:r.more=false)(h2:x.odd=true):takeE x r=(x,⟨4,x.line,x.col⟩):=by unfold takeE;rw[h1,h2];rfl
theorem take2{x:Rd}{r:RowC}(h1:r.more=false)(h2:x.odd=false):takeE x r=(addE ⟨x.cards++[⟨decide (r.col<12),[],[]⟩],x.line,x.col,x.odd⟩ r.line r.col r.text,okF):=by unfold takeE;rw[h1,h2];rfl
theorem take3{x:Rd}{r:RowC}(h1:r.more=true)(h2:x.cards=[]):takeE x r=(x,⟨6,r.line,7⟩):=by unfold takeE;rw[h1,if_neg (by simp),if_neg (by simp),if_pos h2]
theorem take4{x:Rd}{r:RowC}(h1:r.more=true)(h2:x.cards≠[])(h3:r.col<12\/(x.odd=true/\r.text.getD 0 0≠34)):takeE x r=(x,⟨4,r.line,r.col⟩):=by unfold takeE;rw[h1,if_neg (by simp),if_neg (by simp),if_neg h2,if_pos h3]
theorem take5{x:Rd}{r:RowC}(h1:r.more=true)(h2:x.cards≠[])(h3:¬(r.col<12\/(x.odd=true/\r.text.getD 0 0≠34)))(h4:x.odd=true):takeE x r=(addE x r.line (r.col+1) (r.text.drop 1),okF):=by unfold takeE;rw[h1,if_neg (by simp),if_neg (by simp),if_neg h2,if_neg h3,if_pos h4]
theorem take6{x:Rd}{r:RowC}(h1:r.more=true)(h2:x.cards≠[])(h3:¬(r.col<12\/(x.odd=true/\r.text.getD 0 0≠34)))(h4:x.odd=false):takeE x r=(addE x r.line r.col r.text,okF):=by unfold takeE;rw[h1,if_neg (by simp),if_neg (by simp),if_neg h2,if_neg h3,if_neg (by rw[h4];decide)]
theorem c_take(wz:World)(h:AHeap)(kx:Nat)(B M:AHeap)(cb mb:Option Buf)(x:Rd)(hi:RdInv wz h kx B M cb mb x)(r:RowC)(hb:∀c∈x.cards,c.text.length<=549755813887/\c.marks.length<=549755813887)(hn:x.cards.length<=549755813887)(ht:r.text.length<=80)(ht0:r.text≠[])(hc0:0<=r.col)(hc1:r.col<=80):
 ACall Tryz.prog wz 62 [.ptr (.own kx) 0,rowA r] (rdH kx B cb mb x)
  (fun v h'=>v=Qz (takeE x r).2/\∃B' M' cb' mb',h'=rdH kx B' cb' mb' (takeE x r).1/\RdInv wz h kx B' M' cb' mb' (takeE x r).1/\Sub B B'/\∀j,B j≠none->M j=none->M' j=none):=by
 have hlvc:=QV 3 cb;have hmany:=hi.many;have hlen:=buf_len Tryz.prog Tryz.underlying101 3 cb;rw[hmany]at hlen;have htp:0<r.text.length:=List.length_pos_iff.2 ht0;refine qU (n:=100) (rs:=[.cell 4 35]) Tryz.func62 rfl rfl rfl rfl (Nat.le_of_ble_eq_true rfl) ?_;simp only[Qe];refine awp_rseq [0,3,4] (by rfl) fun K hK=>?_;refine WE (by rfl) (by rfl) (by rfl) fun k0q0 hk0q0=>?_;try have hf_0q0:(rdH kx B cb mb x) k0q0=none:=by first|assumption|(simp only[AHeap.set_none]at hk0q0;simp only[hk0q0])
 skip;refine Qj qbc (cs:=[.int .i64 0, .int .i64 0, .int .i64 0]) (by rfl) fun k0q1 hk0q1=>?_;have ne_0q1_0q0:k0q1≠k0q0:=by simp only[AHeap.set_none]at hk0q1;simp only[hk0q1,ne_eq,not_false_eq_true]
 try have hf_0q1:(rdH kx B cb mb x) k0q1=none:=by first|assumption|(simp only[AHeap.set_none]at hk0q1;simp only[hk0q1])
 simp+decide only[qa,ev,putD,Slots.put,Slots.get,Slots.keep,if_true,if_false,AVal.cells,Nat.zero_add,rowA];obtain⟨a1,a2,a3,a4⟩:=rdH_new hi hk0q0 ⟨[.int .i64 r.line, .bool r.more, .str r.text, .int .i64 r.col],0⟩;have hk1':rdH kx (B.set k0q0 ⟨[.int .i64 r.line, .bool r.more, .str r.text, .int .i64 r.col],0⟩) cb mb x k0q1=none:=by rw[<-a1];exact hk0q1
 obtain⟨b1,b2,b3,b4⟩:=rdH_new a2 hk1' ⟨[.int .i64 0, .int .i64 0, .int .i64 0],0⟩;have hheap:((rdH kx B cb mb x).set k0q0 ⟨[.int .i64 r.line, .bool r.more, .str r.text, .int .i64 r.col],0⟩).set k0q1 ⟨[.int .i64 0, .int .i64 0, .int .i64 0],0⟩=rdH kx ((B.set k0q0 ⟨[.int .i64 r.line, .bool r.more, .str r.text, .int .i64 r.col],0⟩).set k0q1 ⟨[.int .i64 0, .int .i64 0, .int .i64 0],0⟩) cb mb x:=by rw[a1,b1]
 have hat:(((rdH kx B cb mb x).set k0q0 ⟨[.int .i64 r.line, .bool r.more, .str r.text, .int .i64 r.col],0⟩).set k0q1 ⟨[.int .i64 0, .int .i64 0, .int .i64 0],0⟩) kx=some ⟨Xn cb x,0⟩:=by rw[hheap];exact b2.at
 have hrx:=fun o=>Qy wz hat o;apply hK;clear hK K;refine qK ?_;refine Ql ?_;refine awp_rseq [0,3,4,13] (by rfl) fun K hK=>?_;simp+decide only[qa,ev,qH,qF,putD,Slots.put,Slots.get,Slots.keep,if_true,if_false,true_and,↓qC,qm,fa120_1,↓qG,qY,qy ag4,↓YA,XU,Yi,↓qh,qc,↓Xf,agP,Qs,qL,qI,qz,implies_true,↓ZY,qM,Qn,qaY,qaZ,↓XC,qdr,Zl,Zm,↓Zr,Za,WS,qfb,↓QT,Qu,Qh,Xg,Xp,↓qd,qb,QO,ne_eq,not_false_eq_true,ne_0q1_0q0.symm,QP,List.getD_cons_zero,List.getD_cons_succ,Nat.zero_add,qD,hrx,Xn];apply hK;clear hK K;refine qJ (b:=_) rfl (fun hb1=>?_) (fun hb1=>?_)
 ·try simp only[Bool.not_eq_true',Bool.and_eq_true]at hb1
  refine awp_rseq [4] (by rfl) fun K hK=>?_;simp+decide only[ev,qH,qF,putD,Slots.put,Slots.get,if_true,if_false,true_and,↓qh,qc,↓Qk,qM,Qn,↓qC,qm,fa116_1,↓qG,qY,qg ag33 qbf,↓Qp,↓qW,UE,evP,List.map_cons,List.map_nil,qf,List.getD_cons_zero,List.getD_cons_succ,Nat.zero_add,Nat.reduceAdd,qi,allLive,Bool.and_true,hrx,Xn];refine qp (by rfl) (by rfl) zqA QI (by rfl) (by rfl) zqD (Nat.zero_le _) (by rfl) ?_;simp only[AHeap.set_set,AVal.cells];simp+decide only[qa,ev,putD,Slots.get,Slots.keep,if_true,if_false,setAt,List.set_cons_zero,List.set_cons_succ,Nat.zero_add,Nat.reduceAdd];apply hK;clear hK K;refine qO ?_;try simp only[Qi,Qw]
  refine Qa (rdH kx B cb mb x) zqC (?_) ?_
  ·simp+decide only[QE,qj,Slots.get,if_true,and_true,qj,qg Xt QI,Qc,qf,List.getD_cons_zero,List.getD_cons_succ,Nat.zero_add,Nat.reduceAdd,qi,allLive,Bool.and_true,qf,List.getD_cons_zero,List.getD_cons_succ,Nat.zero_add,Nat.reduceAdd,qi,allLive,Bool.and_true]
  simp+decide only[Slots.get,if_true,YH,qj,qg Xt QI,Qc,qf,List.getD_cons_zero,List.getD_cons_succ,Nat.zero_add,Nat.reduceAdd,qi,allLive,Bool.and_true,ne_eq,qf,List.getD_cons_zero,List.getD_cons_succ,Nat.zero_add,Nat.reduceAdd,qi,allLive,Bool.and_true,Qz];rw[take1 hb1.1 hb1.2];exact⟨rfl,B,M,cb,mb,rfl,hi,Sub.refl _,fun _ _ h=>h⟩
 ·try simp only[Bool.not_eq_false',Bool.and_eq_false_iff]at hb1
  refine awp_rseq [0,3,4,28] (by rfl) fun K hK=>?_;simp+decide only[qa,ev,putD,Slots.put,Slots.get,Slots.keep,if_true,if_false,true_and,↓qC,qm,fa120_1,↓qG,qY,qy ag4,↓YA,XU,Yi,↓qd,qb,QO,ne_eq,not_false_eq_true,ne_0q1_0q0.symm,QP,List.getD_cons_zero,List.getD_cons_succ,Nat.zero_add,qD];apply hK;clear hK K;refine qJ (b:=_) rfl (fun hb2=>?_) (fun hb2=>?_)
  ·try simp only[Bool.not_eq_true']at hb2
   rw[hheap];obtain⟨B₁,hB₁⟩:∃B₁,B₁=(B.set k0q0 ⟨[.int .i64 r.line, .bool r.more, .str r.text, .int .i64 r.col],0⟩).set k0q1 ⟨[.int .i64 0, .int .i64 0, .int .i64 0],0⟩:=⟨_,rfl⟩
   rw[<-hB₁]at b2|-
   have e0:B₁ k0q0=some ⟨[.int .i64 r.line, .bool r.more, .str r.text, .int .i64 r.col],0⟩:=by rw[hB₁,AHeap.set_ne _ _ ne_0q1_0q0.symm,AHeap.set_same]
   have e1:B₁ k0q1=some ⟨[.int .i64 0, .int .i64 0, .int .i64 0],0⟩:=by rw[hB₁,AHeap.set_same]
   have s0:=fun o=>Qy wz (b2.other e0) o;have sx:=fun o=>Qy wz b2.at o;obtain⟨q1,q2,q3⟩:=bufSwap b2.okc b2.okm;obtain⟨zs,z1,z2,z3⟩:=b2.chunks;refine YM 10 [0] [0,3,4] mixed (by kernel_rfl) (by rfl) fun K hK=>?_;simp only[List.take_succ_cons,List.take_zero,List.drop_succ_cons,List.drop_zero];simp+decide only[ev,qH,qF,putD,Slots.put,Slots.get,if_true,if_false,true_and,↓XK,qc,↓WH,qM,Qn,↓ZG,qm,qbl,↓Zv,XF,qy ag101,qeS,qy ag3,↓fp_binOp,ql,qB,cond_false,qo,XP,↓Us,↓qW,bld129_0,evP,List.map_cons,List.map_nil,List.getD_cons_zero,List.getD_cons_succ,Nat.zero_add,qi,Xn,hlvc,s0,sx];refine qcK (by rfl) ?_;refine Qm (cs:=[.bool (decide (r.col<12)), .str [], .nilSlice]) (by kernel_rfl) fun k5q9 hk5q9=>?_;try have hf_5q9:(rdH kx B cb mb x) k5q9=none:=by first|assumption|(simp only[AHeap.set_none]at hk5q9;simp only[hk5q9])
   rw[qa];try simp only[Yr]
   refine Xu (es:=3) (zs:=zs) (xs:=[[.bool (decide (r.col<12)), .str [], .nilSlice]]) (hZ:=QG (B₁.set kx ⟨Xn cb x,0⟩) mb) (b:=cb) (by rfl) (by rfl) Tryz.underlying101 Tryz.underlying101 (fun k e=>by cases e) qcz by129 ze129 (by rfl) (by decide) (by rfl) q3 z1 z2 (by rw[<-q1];exact Sub.set hk5q9) (by rfl) (IsL.own (AHeap.set_same _ _ _) (by simp) (by rfl) (by rfl) (.exact 1) (Nat.le_refl _)) (by rfl) (by simp;omega) (by simp;omega) fun cb' h5 o1 o2 o3=>?_;have hlv':=QV 3 cb';simp+decide only[ev,putD,Slots.put,Slots.get,if_true,if_false,true_and,↓Qk,qM,Qn,↓qC,qm,qbl,Nat.zero_add];refine qp (v:=QA 3 cb') (by rfl) (by rfl) (o3 _ _ (ZR o1 (ZR q2 (AHeap.set_same _ _ _)))) sz101 hlv' (by cases cb'<;>rfl) (by cases cb'<;>simp[Xn,QA]) (Nat.zero_le _) (by cases cb'<;>rfl) ?_;rw[show(QA 3 cb').cells=[QA 3 cb'] by cases cb'<;>rfl];simp only[setAt,Xn,List.set_cons_zero];simp+decide only[qa,putD,Slots.keep,if_true,if_false];apply hK;clear hK K;obtain⟨i1,u1,u2,u3⟩:=b2.push (decide (r.col<12)) o1 (by rw[o2,List.flatten_append,<-z1];rfl) o3;refine Awp.forget (h':=rdH kx (QG B₁ mb) cb' none ⟨x.cards++[⟨decide (r.col<12),[],[]⟩],x.line,x.col,x.odd⟩) u1 ?_;have t0:=fun o=>Qy wz (i1.other (u2 _ _ e0)) o;have hb':∀c∈x.cards++[⟨decide (r.col<12),[],[]⟩],c.text.length<=549755813888/\c.marks.length<=549755813888:=by
    intro c hc;rw[List.mem_append]at hc;rcases hc with hc|hc
    ·have:=hb c hc
     omega
    ·rw[List.mem_singleton.1 hc]
     exact⟨by simp,by simp⟩
   refine XA [4] (by rfl) ?_;simp+decide only[ev,putD,Slots.put,Slots.get,if_true,if_false,true_and,↓qh,qc,↓qC,qm,fa120_0,↓qG,qY,qy ag3,qeS,fa120_2,qy ag9,ne_eq,List.getD_cons_zero,List.getD_cons_succ,Nat.zero_add,qi,qE,Qz,t0];refine QN (by rfl) (by rfl) (c_addR wz h kx _ _ cb' none _ i1 (by simp) r.line r.col r.text hb' (by simp;omega) ht) fun x6q7 h6q7 hx6q7=>?_;obtain⟨-,cb2,mb2,rfl,i2⟩:=hx6q7;have hz:=i2.other (u2 _ _ e1);have hsB:Sub B (QG B₁ mb):=fun j c hj=>u2 _ _ (by rw[hB₁];exact Sub.trans_set (Sub.trans_set (Sub.refl _) a4) (by rwa [AHeap.set_ne _ _ ne_0q1_0q0]at b4) j c hj);have hsM:∀j,B j≠none->M j=none->QG M mb j=none:=fun j hj hM=>by
    cases hjc:B j with
    |none=>exact absurd hjc hj
    |some c=>exact u3 j c (by rw[hB₁];exact Sub.trans_set (Sub.trans_set (Sub.refl _) a4) (by rwa [AHeap.set_ne _ _ ne_0q1_0q0]at b4) j c hjc) hM
   have hfin:=take2 (x:=x) (r:=r) (by simpa using hb2) (by simpa[hb2]using hb1);simp+decide only[qa,putD,Slots.put,Slots.keep,if_true,if_false];change Awp _ _ _ _ _ _ _;refine awp_rseq [4] (by rfl) fun K hK=>?_;simp+decide only[ev,qH,qF,putD,Slots.put,Slots.get,if_false,true_and,↓Qp,↓qW,ZJ,evP,List.map_nil];refine qp (v:= .agg [.int .i64 0, .int .i64 0, .int .i64 0]) (by rfl) (by rfl) hz QI (by rfl) (by rfl) (by simp[]) (Nat.zero_le _) (by rfl) ?_;simp only[setAt,AVal.cells,List.set_cons_zero,List.set_cons_succ,Nat.zero_add,Nat.reduceAdd];rw[YC hz];simp+decide only[qa,putD,Slots.keep,if_true,if_false];apply hK;clear hK K;refine qO ?_;refine QR (?_) ?_
   ·simp+decide only[QE,qj,Slots.get,if_true,and_true,qj,qg Xt QI,qf,List.getD_cons_zero,List.getD_cons_succ,Nat.zero_add,Nat.reduceAdd,qi,allLive,Bool.and_true,qf,List.getD_cons_zero,List.getD_cons_succ,Nat.zero_add,Nat.reduceAdd,qi,allLive,Bool.and_true,Qy wz hz]
   simp+decide only[Slots.get,if_true,YH,qj,qg Xt QI,qf,List.getD_cons_zero,List.getD_cons_succ,Nat.zero_add,Nat.reduceAdd,qi,allLive,Bool.and_true,qf,List.getD_cons_zero,List.getD_cons_succ,Nat.zero_add,Nat.reduceAdd,qi,allLive,Bool.and_true,Qy wz hz];refine⟨_,Sub.refl _,?_⟩;rw[hfin];exact⟨rfl,_,_,_,_,rfl,i2,hsB,hsM⟩
  ·try simp only[Bool.not_eq_false']at hb2
   refine awp_rseq [0,3,4,53] (by rfl) fun K hK=>?_;simp+decide only[qa,ev,qH,qF,putD,Slots.put,Slots.get,Slots.keep,if_true,if_false,true_and,↓qh,qc,↓Qk,qM,Qn,↓qC,qm,qbl,↓qG,qY,qy ag101,↓Xo,QD,↓qA,ql,qB,cond_false,qo,XR,↓qd,qb,List.getD_cons_zero,Nat.zero_add,hrx,Xn,hlvc,hlen];apply hK;clear hK K;refine qJ (b:=_) rfl (fun hb3=>?_) (fun hb3=>?_)
   ·try simp only[decide_eq_true_eq]at hb3
    refine awp_rseq [4] (by rfl) fun K hK=>?_;simp+decide only[ev,putD,Slots.put,Slots.get,if_true,if_false,true_and,↓qC,qm,fa120_0,↓qG,qY,qy ag3,QO,ne_eq,not_false_eq_true,ne_0q1_0q0.symm,QP,List.getD_cons_zero,Nat.zero_add,qi];refine qN (V:=Qz ⟨6,r.line,7⟩) (by rfl) (by rfl) (c_fault wz _ 6 r.line 7) ?_;refine qp (by rfl) (by rfl) zqA QI (by rfl) (by rfl) zqD (Nat.zero_le _) (by rfl) ?_;simp only[AHeap.set_set,AVal.cells];simp+decide only[qa,ev,putD,Slots.put,Slots.get,Slots.keep,if_true,if_false,setAt,List.set_cons_zero,List.set_cons_succ,Nat.zero_add,Nat.reduceAdd,Qz];apply hK;clear hK K;refine qO ?_;try simp only[Qi,Qw]
    refine Qa (rdH kx B cb mb x) zqC (?_) ?_
    ·simp+decide only[QE,qj,Slots.get,if_true,and_true,qj,qg Xt QI,Qc,qf,List.getD_cons_zero,List.getD_cons_succ,Nat.zero_add,Nat.reduceAdd,qi,allLive,Bool.and_true,qf,List.getD_cons_zero,List.getD_cons_succ,Nat.zero_add,Nat.reduceAdd,qi,allLive,Bool.and_true]
    simp+decide only[Slots.get,if_true,YH,qj,qg Xt QI,Qc,qf,List.getD_cons_zero,List.getD_cons_succ,Nat.zero_add,Nat.reduceAdd,qi,allLive,Bool.and_true,ne_eq,qf,List.getD_cons_zero,List.getD_cons_succ,Nat.zero_add,Nat.reduceAdd,qi,allLive,Bool.and_true,Qz];rw[take3 (by simpa using hb2) (List.eq_nil_of_length_eq_zero (by omega))];exact⟨rfl,B,M,cb,mb,rfl,hi,Sub.refl _,fun _ _ h=>h⟩
   ·try simp only[decide_eq_false_iff_not]at hb3
    have hm:r.more=true:=by simpa using hb2
    have hne:x.cards≠[]:=fun e=>hb3 (by rw[e];rfl);refine awp_rseq [0,3,4,63] (by rfl) fun K hK=>?_;simp+decide only[qa,ev,qH,qF,putD,Slots.put,Slots.get,Slots.keep,if_true,if_false,true_and,↓qC,qm,qeS,↓qG,qY,qy ag3,↓qA,ql,qB,cond_false,qo,XP,↓qh,qc,↓Xf,agP,Qs,qL,qI,QZ,YF,qz,Qf,cv_cv,implies_true,↓ZY,qM,Qn,qaY,qaZ,↓XC,qdr,Zl,Zm,↓Zr,Za,WS,qdy,agL_ld3,qy ag4,fa120_2,qy ag9,↓ag_index,qcE,qbM Tryz.underlying9,cv_indexl,cp_indexl,↓Xb,Zc,Zd,qag,↓ag_pick,Qu,Qh,Zh,cp_nest1,Xp,ZK,cv_pick,cp_pick,↓QT,↓qd,qb,QO,ne_eq,not_false_eq_true,ne_0q1_0q0.symm,QP,List.getD_cons_zero,List.getD_cons_succ,Nat.zero_add,qD,qi,qE,hrx,Xn,Int.toNat_zero];repeat (with_reducible refine And.intro ?_ ?_;· first|trivial|omega|(intro hg;simp only[Bool.and_eq_true,Bool.or_eq_true,Bool.not_eq_true',Bool.and_eq_false_iff,Bool.or_eq_false_iff,Bool.not_eq_false',decide_eq_true_eq,decide_eq_false_iff_not,XV]at hg;omega))
    apply hK;clear hK K;refine qJ (b:=_) rfl (fun hb4=>?_) (fun hb4=>?_)
    ·try simp only[decide_eq_true_eq,decide_eq_false_iff_not,Bool.not_eq_true',Bool.and_eq_true,Bool.or_eq_true]at hb4
     refine awp_rseq [4] (by rfl) fun K hK=>?_;simp+decide only[ev,putD,Slots.put,Slots.get,if_true,if_false,true_and,↓qC,qm,fa120_0,↓qG,qY,qy ag3,qeS,QO,ne_eq,not_false_eq_true,ne_0q1_0q0.symm,QP,List.getD_cons_zero,List.getD_cons_succ,Nat.zero_add,qi];refine qN (V:=Qz ⟨4,r.line,r.col⟩) (by rfl) (by rfl) (c_fault wz _ 4 r.line r.col) ?_;refine qp (by rfl) (by rfl) zqA QI (by rfl) (by rfl) zqD (Nat.zero_le _) (by rfl) ?_;simp only[AHeap.set_set,AVal.cells];simp+decide only[qa,ev,putD,Slots.put,Slots.get,Slots.keep,if_true,if_false,setAt,List.set_cons_zero,List.set_cons_succ,Nat.zero_add,Nat.reduceAdd,Qz];apply hK;clear hK K;refine qO ?_;try simp only[Qi,Qw]
     refine Qa (rdH kx B cb mb x) zqC (?_) ?_
     ·simp+decide only[QE,qj,Slots.get,if_true,and_true,qj,qg Xt QI,Qc,qf,List.getD_cons_zero,List.getD_cons_succ,Nat.zero_add,Nat.reduceAdd,qi,allLive,Bool.and_true,qf,List.getD_cons_zero,List.getD_cons_succ,Nat.zero_add,Nat.reduceAdd,qi,allLive,Bool.and_true]
     simp+decide only[Slots.get,if_true,YH,qj,qg Xt QI,Qc,qf,List.getD_cons_zero,List.getD_cons_succ,Nat.zero_add,Nat.reduceAdd,qi,allLive,Bool.and_true,ne_eq,qf,List.getD_cons_zero,List.getD_cons_succ,Nat.zero_add,Nat.reduceAdd,qi,allLive,Bool.and_true,Qz];rw[take4 hm hne (hb4.imp id (fun e=>⟨e.1,fun q=>e.2 (by rw[q];rfl)⟩))];exact⟨rfl,B,M,cb,mb,rfl,hi,Sub.refl _,fun _ _ h=>h⟩
    ·try simp only[decide_eq_true_eq,decide_eq_false_iff_not,Bool.not_eq_false',Bool.and_eq_false_iff,Bool.or_eq_false_iff]at hb4
     have hnq:¬(r.col<12\/(x.odd=true/\r.text.getD 0 0≠34)):=by
      rintro(e|⟨e1,e2⟩)
      ·exact hb4.1 e
      ·rcases hb4.2 with e|e
       ·rw[e1]at e;cases e
       ·exact e2 ((Zi _ 34).mp e)
     refine awp_rseq [0,3,4,84] (by rfl) fun K hK=>?_;simp+decide only[qa,ev,putD,Slots.put,Slots.get,Slots.keep,if_true,if_false,true_and,↓qh,qc,↓Qk,qM,Qn,↓qC,qm,qdr,↓qG,qY,qy ag4,↓qd,qb,List.getD_cons_zero,List.getD_cons_succ,Nat.zero_add,qD,hrx,Xn];apply hK;clear hK K;refine qJ (b:=_) rfl (fun hb5=>?_) (fun hb5=>?_)
     ·skip
      rw[hheap];obtain⟨B₁,hB₁⟩:∃B₁,B₁=(B.set k0q0 ⟨[.int .i64 r.line, .bool r.more, .str r.text, .int .i64 r.col],0⟩).set k0q1 ⟨[.int .i64 0, .int .i64 0, .int .i64 0],0⟩:=⟨_,rfl⟩
      rw[<-hB₁]at b2|-
      have e0:B₁ k0q0=some ⟨[.int .i64 r.line, .bool r.more, .str r.text, .int .i64 r.col],0⟩:=by rw[hB₁,AHeap.set_ne _ _ ne_0q1_0q0.symm,AHeap.set_same]
      have e1:B₁ k0q1=some ⟨[.int .i64 0, .int .i64 0, .int .i64 0],0⟩:=by rw[hB₁,AHeap.set_same]
      have s0:=fun o=>Qy wz (b2.other e0) o;have sx:=fun o=>Qy wz b2.at o;have hcut:(r.text.drop (1:Int).toNat).take ((r.text.length:Int).toNat-(1:Int).toNat)=r.text.drop 1:=by
       rw[Int.toNat_natCast,show Int.toNat 1=1 from rfl,List.take_of_length_le (by simp)]
      refine qaL 9 mixed (by kernel_rfl) (by rfl) (by rfl) ?_;simp+decide only[ev,qH,qF,putD,Slots.put,Slots.get,if_true,if_false,true_and,↓qh,qc,↓qC,qm,fa120_0,↓qG,qY,qy ag3,qeS,↓qA,ql,qB,cond_false,qo,QY,fa120_2,qy ag9,ne_eq,List.getD_cons_zero,List.getD_cons_succ,Nat.zero_add,qi,qE,Qz,s0];try simp(disch:=omega)only[wrap_i64]
      try simp+decide only[ev,qH,qF,putD,Slots.put,Slots.get,if_true,if_false,true_and,↓Ua,Zu,evO,qdi Tryz.underlying9,UN,qeZ,WZ,hcut]
      repeat (with_reducible refine And.intro ?_ ?_;· first|trivial|omega|(intro hg;simp only[Bool.and_eq_true,Bool.or_eq_true,Bool.not_eq_true',Bool.and_eq_false_iff,Bool.or_eq_false_iff,Bool.not_eq_false',decide_eq_true_eq,decide_eq_false_iff_not,XV]at hg;omega))
      refine QN (by rfl) (by rfl) (c_addR wz h kx _ _ cb mb _ b2 hne r.line (r.col+1) (r.text.drop 1) (by intro c hc;have:=hb c hc;omega) (by omega) (by simp;omega)) fun x12q9 h12q9 hx12q9=>?_;obtain⟨-,cb2,mb2,rfl,i2⟩:=hx12q9;have hz:=i2.other e1;have hsB:Sub B B₁:=fun j c hj=>by rw[hB₁];exact Sub.trans_set (Sub.trans_set (Sub.refl _) a4) (by rwa [AHeap.set_ne _ _ ne_0q1_0q0]at b4) j c hj
      have hsM:∀j,B j≠none->M j=none->M j=none:=fun _ _ h=>h;have hfin:=take5 (x:=x) (r:=r) hm hne hnq hb5;simp+decide only[qa,putD,Slots.put,if_false];change Awp _ _ _ _ _ _ _;refine awp_rseq [4] (by rfl) fun K hK=>?_;simp+decide only[ev,qH,qF,putD,Slots.put,Slots.get,if_false,true_and,↓Qp,↓qW,ZJ,evP,List.map_nil];refine qp (v:= .agg [.int .i64 0, .int .i64 0, .int .i64 0]) (by rfl) (by rfl) hz QI (by rfl) (by rfl) (by simp[]) (Nat.zero_le _) (by rfl) ?_;simp only[setAt,AVal.cells,List.set_cons_zero,List.set_cons_succ,Nat.zero_add,Nat.reduceAdd];rw[YC hz];simp+decide only[qa,putD,Slots.keep,if_true,if_false];apply hK;clear hK K;refine qO ?_;refine QR (?_) ?_
      ·simp+decide only[QE,qj,Slots.get,if_true,and_true,qj,qg Xt QI,qf,List.getD_cons_zero,List.getD_cons_succ,Nat.zero_add,Nat.reduceAdd,qi,allLive,Bool.and_true,qf,List.getD_cons_zero,List.getD_cons_succ,Nat.zero_add,Nat.reduceAdd,qi,allLive,Bool.and_true,Qy wz hz]
      simp+decide only[Slots.get,if_true,YH,qj,qg Xt QI,qf,List.getD_cons_zero,List.getD_cons_succ,Nat.zero_add,Nat.reduceAdd,qi,allLive,Bool.and_true,qf,List.getD_cons_zero,List.getD_cons_succ,Nat.zero_add,Nat.reduceAdd,qi,allLive,Bool.and_true,Qy wz hz];refine⟨_,Sub.refl _,?_⟩;rw[hfin];exact⟨rfl,_,_,_,_,rfl,i2,hsB,hsM⟩
     ·skip
      rw[hheap];obtain⟨B₁,hB₁⟩:∃B₁,B₁=(B.set k0q0 ⟨[.int .i64 r.line, .bool r.more, .str r.text, .int .i64 r.col],0⟩).set k0q1 ⟨[.int .i64 0, .int .i64 0, .int .i64 0],0⟩:=⟨_,rfl⟩
      rw[<-hB₁]at b2|-
      have e0:B₁ k0q0=some ⟨[.int .i64 r.line, .bool r.more, .str r.text, .int .i64 r.col],0⟩:=by rw[hB₁,AHeap.set_ne _ _ ne_0q1_0q0.symm,AHeap.set_same]
      have e1:B₁ k0q1=some ⟨[.int .i64 0, .int .i64 0, .int .i64 0],0⟩:=by rw[hB₁,AHeap.set_same]
      have s0:=fun o=>Qy wz (b2.other e0) o;have sx:=fun o=>Qy wz b2.at o;refine XA [4] (by rfl) ?_;simp+decide only[ev,putD,Slots.put,Slots.get,if_true,if_false,true_and,↓qh,qc,↓qC,qm,fa120_0,↓qG,qY,qy ag3,qeS,fa120_2,qy ag9,ne_eq,List.getD_cons_zero,List.getD_cons_succ,Nat.zero_add,qi,qE,Qz,s0];refine QN (by rfl) (by rfl) (c_addR wz h kx _ _ cb mb _ b2 hne r.line r.col r.text (by intro c hc;have:=hb c hc;omega) (by omega) ht) fun x1q7 h1q7 hx1q7=>?_;obtain⟨-,cb2,mb2,rfl,i2⟩:=hx1q7;have hz:=i2.other e1;have hsB:Sub B B₁:=fun j c hj=>by rw[hB₁];exact Sub.trans_set (Sub.trans_set (Sub.refl _) a4) (by rwa [AHeap.set_ne _ _ ne_0q1_0q0]at b4) j c hj
      have hsM:∀j,B j≠none->M j=none->M j=none:=fun _ _ h=>h;have hfin:=take6 (x:=x) (r:=r) hm hne hnq hb5;simp+decide only[qa,putD,Slots.put,Slots.keep,if_true,if_false];change Awp _ _ _ _ _ _ _;refine awp_rseq [4] (by rfl) fun K hK=>?_;simp+decide only[ev,qH,qF,putD,Slots.put,Slots.get,if_false,true_and,↓Qp,↓qW,ZJ,evP,List.map_nil];refine qp (v:= .agg [.int .i64 0, .int .i64 0, .int .i64 0]) (by rfl) (by rfl) hz QI (by rfl) (by rfl) (by simp[]) (Nat.zero_le _) (by rfl) ?_;simp only[setAt,AVal.cells,List.set_cons_zero,List.set_cons_succ,Nat.zero_add,Nat.reduceAdd];rw[YC hz];simp+decide only[qa,putD,Slots.keep,if_true,if_false];apply hK;clear hK K;refine qO ?_;refine QR (?_) ?_
      ·simp+decide only[QE,qj,Slots.get,if_true,and_true,qj,qg Xt QI,qf,List.getD_cons_zero,List.getD_cons_succ,Nat.zero_add,Nat.reduceAdd,qi,allLive,Bool.and_true,qf,List.getD_cons_zero,List.getD_cons_succ,Nat.zero_add,Nat.reduceAdd,qi,allLive,Bool.and_true,Qy wz hz]
      simp+decide only[Slots.get,if_true,YH,qj,qg Xt QI,qf,List.getD_cons_zero,List.getD_cons_succ,Nat.zero_add,Nat.reduceAdd,qi,allLive,Bool.and_true,qf,List.getD_cons_zero,List.getD_cons_succ,Nat.zero_add,Nat.reduceAdd,qi,allLive,Bool.and_true,Qy wz hz];refine⟨_,Sub.refl _,?_⟩;rw[hfin];exact⟨rfl,_,_,_,_,rfl,i2,hsB,hsM⟩
end Go.Proofs.YtlhhaagmakhilaaGreatDoor
namespace Go.Proofs.YtlhhaagmakhilaaGreatDoor
open Go.AM
open Go.Proofs
open Go.Col
set_option maxRecDepth 100000
theorem c_clipM(wz:World)(h:AHeap)(v:AVal)(xs:List (List AVal))(hv:IsL wz h 3 v xs):ACall Tryz.prog wz 63 [v] h (fun r h'=>r=Yt v/\h'=h):=by
 have hlen:=hv.len Tryz.underlying124;have h3:=hv.slice3 Tryz.underlying124 sz127 .i64 .i64 none rfl;refine qU (n:=9) (rs:=[.tmp 2]) Tryz.func63 rfl rfl rfl rfl (Nat.le_of_ble_eq_true rfl) ?_;simp only[Qe];refine awp_rseq [0] (by rfl) fun K hK=>?_;simp+decide only[qa,ev,qH,qF,putD,Slots.put,Slots.keep,if_true,if_false,true_and,↓qd,qb];apply hK;clear hK K;refine awp_rseq [2] (by rfl) fun K hK=>?_;simp+decide only[qa,ev,putD,Slots.put,Slots.get,Slots.keep,if_true,if_false,true_and,↓qh,qc,↓Xo,QD,↓Ua,Zu,evO,↓qd,qb,hlen,h3];apply hK;clear hK K;refine qO ?_;refine Qa _ (Sub.refl _) (qZ (Qd)) ?_;simp+decide only[Slots.get,if_true,and_true,Qr];all_goals first|rfl|exact⟨rfl,rfl⟩|(simp+decide only[if_true,if_false, *];done)|(trace_state;fail)
theorem c_clipC(wz:World)(h:AHeap)(v:AVal)(xs:List (List AVal))(hv:IsL wz h 3 v xs):ACall Tryz.prog wz 64 [v] h (fun r h'=>r=Yt v/\h'=h):=by
 have hlen:=hv.len Tryz.underlying101;have h3:=hv.slice3 Tryz.underlying101 qcz .i64 .i64 none rfl;refine qU (n:=9) (rs:=[.tmp 2]) Tryz.func64 rfl rfl rfl rfl (Nat.le_of_ble_eq_true rfl) ?_;simp only[Qe];refine awp_rseq [0] (by rfl) fun K hK=>?_;simp+decide only[qa,ev,qH,qF,putD,Slots.put,Slots.keep,if_true,if_false,true_and,↓qd,qb];apply hK;clear hK K;refine awp_rseq [2] (by rfl) fun K hK=>?_;simp+decide only[qa,ev,putD,Slots.put,Slots.get,Slots.keep,if_true,if_false,true_and,↓qh,qc,↓Xo,QD,↓Ua,Zu,evO,↓qd,qb,hlen,h3];apply hK;clear hK K;refine qO ?_;refine Qa _ (Sub.refl _) (qZ (Qd)) ?_;simp+decide only[Slots.get,if_true,and_true,Qr];all_goals first|rfl|exact⟨rfl,rfl⟩|(simp+decide only[if_true,if_false, *];done)|(trace_state;fail)
structure RdSm(N:Nat)(x:Rd):Prop where
 many:x.cards.length<=N
 small:∀c∈x.cards,c.text.length<=80*N/\c.marks.length<=N
theorem RdSm.next{N:Nat}{x:Rd}(h:RdSm N x):RdSm (N+1) x:=⟨by have:=h.many;omega,fun c hc=>by have:=h.small c hc;omega⟩
theorem addC_small{c:CardC}{N:Nat}(h:c.text.length<=80*N/\c.marks.length<=N)(line col:Int)(t:Str)(ht:t.length<=80):(qfi c line col t).text.length<=80*(N+1)/\(qfi c line col t).marks.length<=N+1:=by
 have h1:=trimR_le t;unfold qfi;simp only[List.length_append];constructor
 ·split<;>omega
 ·split<;>(try split)<;>(try simp only[List.length_append,List.length_cons,List.length_nil])<;>omega
theorem addE_small{N:Nat}{x:Rd}(h:RdSm N x)(line col:Int)(t:Str)(ht:t.length<=80):RdSm (N+1) (addE x line col t):=by
 rcases List.eq_nil_or_concat x.cards with e|⟨l,c,e⟩
 ·have:addE x line col t=x:=by unfold addE;rw[e];rfl
  rw[this];exact h.next
 ·rw[List.concat_eq_append]at e
  rw[qfd e];have hm:=h.many;rw[e]at hm;simp only[List.length_append,List.length_cons,List.length_nil]at hm;refine⟨by simp;omega,fun d hd=>?_⟩;rw[List.mem_append]at hd;rcases hd with hd|hd
  ·have:=h.small d (by rw[e];simp[hd])
   omega
  ·rw[List.mem_singleton.1 hd]
   exact addC_small (h.small c (by rw[e];simp)) line col t ht
theorem qdJ{N:Nat}{x:Rd}(h:RdSm N x){r:RowC}(ht:r.text.length<=80):RdSm (N+1) (takeE x r).1:=by
 unfold takeE;split
 ·exact h.next
 split
 ·have hp:RdSm N x:=h
  have h':RdSm (N+1) ⟨x.cards++[⟨decide (r.col<12),[],[]⟩],x.line,x.col,x.odd⟩:=by
   refine⟨by have:=h.many;simp;omega,fun c hc=>?_⟩;rw[List.mem_append]at hc;rcases hc with hc|hc
   ·exact h.next.small c hc
   ·rw[List.mem_singleton.1 hc]
    simp
  refine⟨?_,?_⟩
  ·have:=h.many
   rw[qfd (x:=⟨x.cards++[⟨decide (r.col<12),[],[]⟩],x.line,x.col,x.odd⟩) rfl];simp;omega
  ·intro c hc
   rw[qfd (x:=⟨x.cards++[⟨decide (r.col<12),[],[]⟩],x.line,x.col,x.odd⟩) rfl]at hc;simp only[List.mem_append,List.mem_singleton]at hc;rcases hc with hc|rfl
   ·exact h.next.small c hc
   ·exact addC_small ⟨by simp,by simp⟩ _ _ _ ht
 split
 ·exact h.next
 split
 ·exact h.next
 split
 ·exact addE_small h _ _ _ (by simp;omega)
 ·exact addE_small h _ _ _ ht
theorem lineE_small{s:Str}{line:Int}{dbg:Bool}:(Ur s line dbg).1.text.length<=65/\((Ur s line dbg).2.1=true->(Ur s line dbg).1.text≠[]/\0<=(Ur s line dbg).1.col/\(Ur s line dbg).1.col<=73):=by
 by_cases h80:80<s.length
 ·have:Ur s line dbg=(noRow,false,⟨5,line,81⟩):=by unfold Ur;rw[if_pos h80]
  rw[this];simp[noRow]
 ·cases hb:qck s with
  |some i=>
   have:Ur s line dbg=(noRow,false,⟨4,line,(i:Int)+1⟩):=by unfold Ur;rw[if_neg h80,hb]
   rw[this];simp[noRow]
  |none=>
   rw[lineE_none h80 hb];have h1:(rowE s line).text.length<=65:=Nat.le_trans (trimL_le _) (by simp;omega);have h2:(rowE s line).col=73-(rowE s line).text.length:=rfl;split
   ·exact⟨h1,by simp⟩
   split
   ·refine⟨h1,fun h=>?_⟩
    simp only[Bool.and_eq_true,Bool.not_eq_true',decide_eq_false_iff_not]at h;exact⟨h.2,by simp only;omega,by simp only;omega⟩
   split
   ·refine⟨h1,fun h=>?_⟩
    simp only[Bool.not_eq_true',decide_eq_false_iff_not]at h;exact⟨h,by simp only;omega,by simp only;omega⟩
   ·exact⟨h1,by simp⟩
theorem qdM:∀s:Str,(XW s).length<=s.length+1
 |[]=>by simp[XW]
 |b::s=>by
  have:=qdM s;unfold XW;split
  ·simp;omega
  ·split<;>simp_all<;>omega
theorem qcW(s:Str):(Yw s).length<=s.length:=by
 unfold Yw;split<;>simp
def IsCards(wz:World)(h:AHeap)(v:AVal)(cs:List CardC):Prop:=∃ps:List (CardC×AVal),ps.map (·.1)=cs/\IsL wz h 3 v (ps.map Zo)/\∀p∈ps,IsL wz h 3 p.2 (p.1.marks.map Un)
theorem IsCards.mono{wz:World}{h h':AHeap}{v:AVal}{cs:List CardC}(hc:IsCards wz h v cs)(hs:Sub h h'):IsCards wz h' v cs:=by
 obtain⟨ps,h1,h2,h3⟩:=hc;exact⟨ps,h1,h2.mono hs,fun p hp=>(h3 p hp).mono hs⟩
end Go.Proofs.YtlhhaagmakhilaaGreatDoor
namespace Go.Proofs.YtlhhaagmakhilaaGreatDoor
open Go.AM
open Go.Proofs
open Go.Col
set_option maxRecDepth 100000
def ReadR(wz:World)(h:AHeap)(text:Str)(dbg:Bool)(v:AVal)(h':AHeap):Prop:=∃cv,v= .tuple [cv,Qz (UG text dbg).2]/\IsCards wz h' cv (UG text dbg).1/\Sub h h'
structure RdL where
 i:Nat
 B:AHeap
 M:AHeap
 cb:Option Buf
 mb:Option Buf
 x:Rd
theorem WB(f:FaultC):(decide (f.e=0) && (decide (f.line=0) && decide (f.col=0)))=decide (f=okF):=by
 obtain⟨a,b,c⟩:=f;rw[Bool.eq_iff_iff];simp[okF]
theorem readL_skip{s:Str}{l:List Str}{n:Int}{x:Rd}{dbg:Bool}{r:RowC}{f:FaultC}(hp:Ur s n dbg=(r,false,f))(hf:f=okF):Wp dbg (s::l) n x=Wp dbg l (n+1) x:=by
 rw[Wp,hp];simp only;rw[if_pos ⟨hf,trivial⟩]
theorem readL_fault{s:Str}{l:List Str}{n:Int}{x:Rd}{dbg:Bool}{r:RowC}{cn:Bool}{f:FaultC}(hp:Ur s n dbg=(r,cn,f))(hf:f≠okF):Wp dbg (s::l) n x=(x,f):=by
 rw[Wp,hp];simp only;rw[if_neg (fun e=>hf e.1),if_neg hf]
theorem readL_bad{s:Str}{l:List Str}{n:Int}{x:Rd}{dbg:Bool}{r:RowC}{f:FaultC}(hp:Ur s n dbg=(r,true,f))(hf:f=okF)(hg:(takeE x r).2≠okF):Wp dbg (s::l) n x=((takeE x r).1,(takeE x r).2):=by
 rw[Wp,hp];simp only;rw[if_neg (fun e=>by cases e.2),if_pos hf,if_neg hg]
theorem readL_take{s:Str}{l:List Str}{n:Int}{x:Rd}{dbg:Bool}{r:RowC}{f:FaultC}(hp:Ur s n dbg=(r,true,f))(hf:f=okF)(hg:(takeE x r).2=okF):Wp dbg (s::l) n x=Wp dbg l (n+1) (takeE x r).1:=by
 rw[Wp,hp];simp only;rw[if_neg (fun e=>by cases e.2),if_pos hf,if_pos hg]
theorem readE_fault{text:Str}{dbg:Bool}(hl:text.length<=1048576){x:Rd}{f:FaultC}(h:Wp dbg (XW (Yw text)) 1 .start=(x,f))(hf:f≠okF):UG text dbg=([],f):=by
 unfold UG;rw[if_neg (by omega),h];simp only;rw[if_pos hf]
theorem splitNL_mem:∀(s:Str),∀l∈XW s,l.length<=s.length
 |[],l,h=>by simp[XW]at h;subst h;simp
 |b::s,l,h=>by
  have ih:=splitNL_mem s;unfold XW at h;split at h
  ·rcases List.mem_cons.1 h with rfl|h
   ·simp
   ·have:=ih l h;simp;omega
  ·split at h
   ·rename_i e
    simp only[List.mem_singleton]at h;subst h;simp
   ·rename_i l0 ls e
    rcases List.mem_cons.1 h with rfl|h
    ·have:=ih l0 (by rw[e];simp);simp;omega
    ·have:=ih l (by rw[e];simp[h]);simp;omega
theorem readE_odd{text:Str}{dbg:Bool}(hl:text.length<=1048576){x:Rd}(h:Wp dbg (XW (Yw text)) 1 .start=(x,okF))(ho:x.odd=true):UG text dbg=([],⟨4,x.line,x.col⟩):=by
 unfold UG;rw[if_neg (by omega),h];simp only;rw[if_neg (by simp),if_pos ho]
theorem readE_ok{text:Str}{dbg:Bool}(hl:text.length<=1048576){x:Rd}(h:Wp dbg (XW (Yw text)) 1 .start=(x,okF))(ho:x.odd=false):UG text dbg=(x.cards,okF):=by
 unfold UG;rw[if_neg (by omega),h];simp only;rw[if_neg (by simp),if_neg (by rw[ho];decide)]
theorem readEnd0(wz:World)(h B0:AHeap)(hs0:Sub h B0)(kr kx:Nat)(text:Str)(dbg:Bool)(hl:text.length<=1048576)(er:B0 kr=some ⟨[.int .i64 0, .int .i64 0, .int .i64 0],0⟩)(hr:h kr=none)
 (B M:AHeap) (cb mb:Option Buf) (x:Rd) (ri:RdInv wz B0 kx B M cb mb x) (hcards:x.cards=[]) (hrl:Wp dbg (XW (Yw text)) 1 .start=(x,okF)):
 Awp Tryz.prog wz 82 (WP 5 (unScope (WP 1 (qcu Tryz.f49)))) (qeL (qcB Tryz.prog wz [.tmp 4, .cell 5 35] (ReadR wz h text dbg))) [(5, .ptr (.own kr) 0),(6, .ptr (.own kx) 0)] (rdH kx B cb mb x):=by
 obtain⟨rfl,rfl⟩:cb=none/\mb=none:=by
  rcases ri.cards with e|⟨done,c,kc,e,_⟩
  ·exact e.2
  ·rw[hcards]at e;simp at e
 have rix:=fun o=>Qy wz ri.at o;have hnil:QA 3 none= .nilSlice:=rfl;change Awp _ _ _ (Code.seq _ _) _ _ _;refine qK ?_;refine awp_rseq [5,6,55] (by rfl) fun K hK=>?_;simp+decide only[qa,ev,putD,Slots.put,Slots.get,Slots.keep,if_true,if_false,true_and,↓qC,qm,qdr,↓qG,qY,qy ag4,List.getD_cons_zero,List.getD_cons_succ,Nat.zero_add,qD,rix,Xn,hnil];apply hK;clear hK K;refine qJ (b:=_) rfl (fun hb1=>?_) (fun hb1=>?_)
 ·skip
  have hres:=readE_odd hl hrl hb1;refine Zk 4 [4,5] mixed (by kernel_rfl) (by rfl) (by rfl) fun K hK=>?_;simp+decide only[ev,qH,qF,putD,Slots.put,Slots.get,if_true,if_false,true_and,↓qC,qm,fa116_1,↓qG,qY,qg ag33 qbf,↓Qp,↓qW,UE,evP,List.map_cons,List.map_nil,↓qd,qb,qf,List.getD_cons_zero,List.getD_cons_succ,Nat.zero_add,Nat.reduceAdd,qi,allLive,Bool.and_true,rix,Xn,hnil];refine qp (v:= .agg [.int .i64 4, .int .i64 x.line, .int .i64 x.col]) (by rfl) (by rfl) (ri.other (ri.sub _ _ er)) QI (by rfl) (by rfl) (by simp[]) (Nat.zero_le _) (by rfl) ?_;simp only[setAt,AVal.cells,List.set_cons_zero,List.set_cons_succ,Nat.zero_add,Nat.reduceAdd];simp+decide only[qa,putD,Slots.keep,if_true,if_false];apply hK;clear hK K;refine qO ?_;try simp only[Qi,YY]
  refine Qa h (Sub.trans_set (hs0.trans ri.above) hr) (?_) ?_
  ·simp+decide only[QE,qw,qj,Slots.get,if_true,if_false,and_true,qw,qj,qg Xt QI,Qc,qf,List.getD_cons_zero,List.getD_cons_succ,Nat.zero_add,Nat.reduceAdd,qi,allLive,Bool.and_true,qf,List.getD_cons_zero,List.getD_cons_succ,Nat.zero_add,Nat.reduceAdd,qi,allLive,Bool.and_true]
  simp+decide only[Slots.get,if_true,if_false,Xj,qw,qj,qg Xt QI,Qc,qf,List.getD_cons_zero,List.getD_cons_succ,Nat.zero_add,Nat.reduceAdd,qi,allLive,Bool.and_true,qf,List.getD_cons_zero,List.getD_cons_succ,Nat.zero_add,Nat.reduceAdd,qi,allLive,Bool.and_true];exact⟨.nilSlice,by rw[hres];rfl,by rw[hres];exact⟨[],rfl, .nil,by simp⟩,Sub.refl _⟩
 ·skip
  have hres:=readE_ok hl hrl hb1;refine qP ?_;change Awp _ _ _ _ _ _ _;refine qK ?_;refine awp_rseq [5,6,61,62] (by rfl) fun K hK=>?_;simp+decide only[qa,ev,qH,qF,putD,Slots.put,Slots.get,Slots.keep,if_true,if_false,true_and,↓qC,qm,qbl,↓qG,qY,qy ag101,↓Xo,QD,qdY Tryz.underlying101,↓qh,qc,List.getD_cons_zero,Nat.zero_add,QU,rix,Xn,hnil];apply hK;clear hK K;refine Ql ?_;refine Xv [5,6,61,62] (fun g:Unit=>[(5, .ptr (.own kr) 0),(6, .ptr (.own kx) 0),(61, .int .i64 0),(62, .int .i64 0)]) (fun g:Unit=>rdH kx B none none x) (fun g:Unit=>True) (fun g:Unit=>0) () (by rfl) (Sub.refl _) trivial ?_;intro _ _;refine awp_rseq [5,6,61,62,63] (by rfl) fun K hK=>?_;simp+decide only[qa,ev,putD,Slots.put,Slots.get,Slots.keep,if_true,if_false,true_and,↓qA,ql,qR,cond_false,qo,XP];apply hK;clear hK K;refine qK (qJ (b:=_) rfl (fun hb2=>?_) (fun hb2=>?_))
  ·exact absurd hb2 (by decide)
  ·try simp only[decide_eq_false_iff_not]at hb2
   refine Xy ?_;change Awp _ _ _ _ _ _ _;refine awp_rseq [4,5] (by rfl) fun K hK=>?_;simp+decide only[ev,putD,Slots.put,Slots.get,if_true,if_false,true_and,↓qC,qm,qbl,↓qG,qY,qy ag101,List.getD_cons_zero,Nat.zero_add,QU,rix,Xn,hnil];refine qN (V:= .nilSlice) (by rfl) (by rfl) ((c_clipC wz _ .nilSlice [] .nil)) ?_;simp+decide only[ev,qH,qF,putD,Slots.put,Slots.get,if_true,if_false,true_and,↓Qp,↓qW,ZJ,evP,List.map_nil,↓qd,qb];refine qp (v:= .agg [.int .i64 0, .int .i64 0, .int .i64 0]) (by rfl) (by rfl) (ri.other (ri.sub _ _ er)) QI (by rfl) (by rfl) (by simp[]) (Nat.zero_le _) (by rfl) ?_;simp only[setAt,AVal.cells,List.set_cons_zero,List.set_cons_succ,Nat.zero_add,Nat.reduceAdd];simp+decide only[qa,putD,Slots.keep,if_true,if_false];apply hK;clear hK K;refine qO ?_;try simp only[YY]
   refine Qa h (Sub.trans_set (hs0.trans ri.above) hr) (?_) ?_
   ·simp+decide only[QE,qw,qj,Slots.get,if_true,if_false,and_true,qw,qj,qg Xt QI,Qc,qf,List.getD_cons_zero,List.getD_cons_succ,Nat.zero_add,Nat.reduceAdd,qi,allLive,Bool.and_true,qf,List.getD_cons_zero,List.getD_cons_succ,Nat.zero_add,Nat.reduceAdd,qi,allLive,Bool.and_true]
   simp+decide only[Slots.get,if_true,if_false,Xj,qw,qj,qg Xt QI,Qc,qf,List.getD_cons_zero,List.getD_cons_succ,Nat.zero_add,Nat.reduceAdd,qi,allLive,Bool.and_true,qf,List.getD_cons_zero,List.getD_cons_succ,Nat.zero_add,Nat.reduceAdd,qi,allLive,Bool.and_true];exact⟨.nilSlice,by rw[hres];rfl,by rw[hres,hcards];exact⟨[],rfl, .nil,by simp⟩,Sub.refl _⟩
theorem okCap{wz:World}{h:AHeap}{v:AVal}{xs:List (List AVal)}(hb:IsL wz h 3 v xs):(Yt v).okIn (fun k=>(h k).isSome):=by
 cases hb with
 |nil=>trivial
 |mk l o n c xs hn hw hc hl hcap=>
  cases l with
  |base b=>trivial
  |own k=>
   simp only[Yt,AVal.okIn];intro h0;cases hk:h k with
   |some b=>rfl
   |none=>
    obtain⟨m,rfl⟩:∃m,n=m+1:=⟨n-1,by omega⟩
    rw[show(m+1)*3=(m*3+2)+1 by omega,qf]at hc;rw[<-hc]at hl;simp[allLive,rd,hk,AVal.live]at hl
def qdF(p:CardC×AVal):CardC×AVal:=(p.1,Yt p.2)
theorem qeR(l:List (CardC×AVal)):(l.map Zo).flatten.length=l.length*3:=by
 rw[Xz (es:=3) (by intro y hy;obtain⟨p,_,rfl⟩:=List.mem_map.1 hy;rfl),List.length_map]
theorem flat_set:∀(l:List (CardC×AVal)) (i:Nat) (v:AVal) (hi:i<l.length),setAt (l.map Zo).flatten (i*3+2) [v]=((l.set i ((l[i]).1,v)).map Zo).flatten
 |p::l,0,v,_=>rfl
 |p::l,i+1,v,hi=>by
  have ih:=flat_set l i v (by simpa using hi);simp only[setAt]at ih|-
  simp only[List.map_cons,List.flatten_cons,List.set_cons_succ,List.getElem_cons_succ];rw[<-ih,List.set_append_right _ _ (by rw[cell3_wide];omega),cell3_wide,show(i+1)*3+2-3=i*3+2 by omega]
theorem flat_get(l:List (CardC×AVal))(i:Nat)(hi:i<l.length):(l.map Zo).flatten.getD (i*3+2) .dead=(l[i]).2:=by
 rw[List.getD,qem (es:=3) (by intro y hy;obtain⟨p,_,rfl⟩:=List.mem_map.1 hy;rfl) (by rw[List.length_map];exact hi) (by decide)];simp[List.getD,hi,Zo]
def psi(ps:List (CardC×AVal))(i:Nat):List (CardC×AVal):=(ps.take i).map qdF++ps.drop i
theorem psi_len(ps:List (CardC×AVal))(i:Nat):(psi ps i).length=ps.length:=by
 unfold psi;simp;omega
theorem psi_get(ps:List (CardC×AVal))(i:Nat)(hi:i<ps.length):(psi ps i)[i]'(by rw[psi_len];exact hi)=ps[i]:=by
 unfold psi;rw[List.getElem_append_right (by simp;omega)];simp[Nat.min_eq_left (Nat.le_of_lt hi)]
theorem psi_next(ps:List (CardC×AVal))(i:Nat)(hi:i<ps.length):(psi ps i).set i (qdF ps[i])=psi ps (i+1):=by
 unfold psi;have hl:((ps.take i).map qdF).length=i:=by simp;omega
 rw[List.set_append_right _ _ (by omega),hl,Nat.sub_self,List.drop_eq_getElem_cons hi,List.set_cons_zero,List.take_add_one,List.getElem?_eq_getElem hi,Option.toList_some,List.map_append,List.append_assoc];rfl
theorem bufOk_blk{H:AHeap}{es:Nat}{b:Option Buf}{c:Buf}(h:bufOk H es b)(e:b=some c):H c.blk=none:=by subst e;exact h.1
theorem bufH_blk{H:AHeap}{b:Option Buf}{c:Buf}(e:b=some c):QG H b=H.set c.blk ⟨c.cells,0⟩:=by subst e;rfl
theorem readEnd1(wz:World)(h B0:AHeap)(hs0:Sub h B0)(kr kx:Nat)(text:Str)(dbg:Bool)(hl:text.length<=1048576)(er:B0 kr=some ⟨[.int .i64 0, .int .i64 0, .int .i64 0],0⟩)(hr:h kr=none)
 (B M:AHeap) (cb mb:Option Buf) (x:Rd) (ri:RdInv wz B0 kx B M cb mb x) (hcards:x.cards≠[]) (hsm:x.cards.length<=1099511627776) (hrl:Wp dbg (XW (Yw text)) 1 .start=(x,okF)):
 Awp Tryz.prog wz 82 (WP 5 (unScope (WP 1 (qcu Tryz.f49)))) (qeL (qcB Tryz.prog wz [.tmp 4, .cell 5 35] (ReadR wz h text dbg))) [(5, .ptr (.own kr) 0),(6, .ptr (.own kx) 0)] (rdH kx B cb mb x):=by
 obtain⟨ps,kc,hps,hcb,hv,hL,hMM,hMk⟩:∃(ps:List (CardC×AVal)) (kc:Nat),ps.map (·.1)=x.cards/\cb=some ⟨kc,(ps.map Zo).flatten⟩/\QA 3 cb= .slice (.own kc) 0 ps.length (.grow 3)/\(∀p∈ps,IsL wz (QG M mb) 3 p.2 (p.1.marks.map Un))/\QG M mb kc=none/\Sub (QG M mb) (rdH kx B cb mb x):=by
  rcases ri.cards with⟨e,_⟩|⟨done,c,kc,e1,e2,e3,e4⟩
  ·exact absurd e hcards
  ·obtain⟨q1,q2,q3⟩:=bufSwap ri.okc ri.okm
   obtain⟨p1,p2,p3⟩:=bufPut (d:=⟨Xn cb x,0⟩) q2;have pM:=p2.sub ri.subM;have hf:(done.map Zo).flatten++[.bool c.left, .str c.text,QA 3 mb]=((done++[(c,QA 3 mb)]).map Zo).flatten:=by simp[Zo]
   have hkc:(QG (B.set kx ⟨Xn cb x,0⟩) mb) kc=none:=bufOk_blk q3 e2;have hkx:kc≠kx:=fun e=>by
    rw[p1,e,AHeap.set_same]at hkc;cases hkc
   have hMB:Sub (QG M mb) (QG B mb):=by
    cases mb with
    |none=>exact ri.subM
    |some b=>exact Sub.set_both ri.subM _ _
   have hkcB:QG B mb kc=none:=by rwa [p1,AHeap.set_ne _ _ hkx]at hkc
   refine⟨done++[(c,QA 3 mb)],kc,by rw[e1];simp,by rw[e2,hf],?_,fun p hp=>?_,hMB.none hkcB,?_⟩
   ·rw[e2,bufV_some,hf,qeR]
    simp
   ·rw[List.mem_append]at hp
    rcases hp with hp|hp
    ·exact(e4 p hp).mono (Sub.buf pM)
    ·rw[List.mem_singleton.1 hp]
     exact IsL.buf pM (by decide) e3 (by intro y hy;obtain⟨m,_,rfl⟩:=List.mem_map.1 hy;rfl) (Sub.refl _)
   ·refine Sub.trans hMB ?_
    unfold rdH;rw[q1,bufH_blk e2];refine Sub.trans ?_ (Sub.set hkc);rw[p1];exact Sub.set (by rw[p3];exact ri.hk)
 have hkcx:(rdH kx B cb mb x) kc=some ⟨(ps.map Zo).flatten,0⟩:=by
  have:=ri.okm;unfold rdH;exact ZR ri.okm (by rw[hcb];exact AHeap.set_same _ _ _)
 have hkx:=ri.at;have hne:kx≠kc:=fun e=>by
  rw[<-e,hkx]at hkcx;have:=congrArg (fun o=>(o.map fun b=>b.cells.length).getD 0) hkcx;simp only[Option.map_some,Option.getD_some,Xn,List.length_cons,List.length_nil,qeR]at this;omega
 have hlenp:ps.length=x.cards.length:=by rw[<-hps,List.length_map]
 have hkr:=ri.other (ri.sub _ _ er);have hrc:kr≠kc:=fun e=>by
  rw[e,hkcx]at hkr;have:=congrArg (fun o=>(o.map fun b=>b.cells.length).getD 0) hkr;simp only[Option.map_some,Option.getD_some,List.length_cons,List.length_nil,qeR]at this;have h1:ps.length=1:=by omega
  match ps,h1 with
  |[p],_=>simp[Zo]at hkr
 have hhc:h kc=none:=by
  cases hc:h kc with
  |none=>rfl
  |some b=>
   have:=ri.sub _ _ (hs0 _ _ hc);have h2:=ri.okc;rw[hcb]at h2;have:=(AHeap.set_ne B ⟨Xn (some ⟨kc,(ps.map Zo).flatten⟩) x,0⟩ hne.symm).symm.trans h2.1
   simp_all
 obtain⟨H0,hH0⟩:∃H0,H0=rdH kx B cb mb x:=⟨_,rfl⟩
 have hsub:Sub h H0:=by rw[hH0];exact hs0.trans ri.above
 rw[<-hH0]at hkcx hkx hkr hMk|-
 have rix:=fun o=>Qy wz hkx o;change Awp _ _ _ (Code.seq _ _) _ _ _;refine qK ?_;refine awp_rseq [5,6,55] (by rfl) fun K hK=>?_;simp+decide only[qa,ev,putD,Slots.put,Slots.get,Slots.keep,if_true,if_false,true_and,↓qC,qm,qdr,↓qG,qY,qy ag4,List.getD_cons_zero,List.getD_cons_succ,Nat.zero_add,qD,rix,Xn,hv];apply hK;clear hK K;refine qJ (b:=_) rfl (fun hb1=>?_) (fun hb1=>?_)
 ·skip
  have hres:=readE_odd hl hrl hb1;refine Zk 4 [4,5] mixed (by kernel_rfl) (by rfl) (by rfl) fun K hK=>?_;simp+decide only[ev,qH,qF,putD,Slots.put,Slots.get,if_true,if_false,true_and,↓qC,qm,fa116_1,↓qG,qY,qg ag33 qbf,↓Qp,↓qW,UE,evP,List.map_cons,List.map_nil,↓qd,qb,qf,List.getD_cons_zero,List.getD_cons_succ,Nat.zero_add,Nat.reduceAdd,qi,allLive,Bool.and_true,rix,Xn,hv];refine qp (v:= .agg [.int .i64 4, .int .i64 x.line, .int .i64 x.col]) (by rfl) (by rfl) hkr QI (by rfl) (by rfl) (by simp[]) (Nat.zero_le _) (by rfl) ?_;simp only[setAt,AVal.cells,List.set_cons_zero,List.set_cons_succ,Nat.zero_add,Nat.reduceAdd];simp+decide only[qa,putD,Slots.keep,if_true,if_false];apply hK;clear hK K;refine qO ?_;try simp only[Qi,YY]
  refine Qa h (Sub.trans_set hsub hr) (?_) ?_
  ·simp+decide only[QE,qw,qj,Slots.get,if_true,if_false,and_true,qw,qj,qg Xt QI,Qc,qf,List.getD_cons_zero,List.getD_cons_succ,Nat.zero_add,Nat.reduceAdd,qi,allLive,Bool.and_true,qf,List.getD_cons_zero,List.getD_cons_succ,Nat.zero_add,Nat.reduceAdd,qi,allLive,Bool.and_true]
  simp+decide only[Slots.get,if_true,if_false,Xj,qw,qj,qg Xt QI,Qc,qf,List.getD_cons_zero,List.getD_cons_succ,Nat.zero_add,Nat.reduceAdd,qi,allLive,Bool.and_true,qf,List.getD_cons_zero,List.getD_cons_succ,Nat.zero_add,Nat.reduceAdd,qi,allLive,Bool.and_true];exact⟨.nilSlice,by rw[hres];rfl,by rw[hres];exact⟨[],rfl, .nil,by simp⟩,Sub.refl _⟩
 ·skip
  have hres:=readE_ok hl hrl hb1;refine qP ?_;change Awp _ _ _ _ _ _ _;refine qK ?_;refine awp_rseq [5,6,61,62] (by rfl) fun K hK=>?_;simp+decide only[qa,ev,qH,qF,putD,Slots.put,Slots.get,Slots.keep,if_true,if_false,true_and,↓qC,qm,qbl,↓qG,qY,qy ag101,↓Xo,QD,ZI Tryz.underlying101,↓qh,qc,List.getD_cons_zero,Nat.zero_add,WY,rix,Xn,hv];apply hK;clear hK K;refine Ql ?_;refine Xv [5,6,61,62] (fun i:Nat=>[(5, .ptr (.own kr) 0),(6, .ptr (.own kx) 0),(61, .int .i64 ps.length),(62, .int .i64 i)]) (fun i:Nat=>H0.set kc ⟨((psi ps i).map Zo).flatten,0⟩) (fun i:Nat=>i<=ps.length) (fun i:Nat=>ps.length-i) 0 (by rfl) (by rw[show psi ps 0=ps from rfl,YC hkcx];exact Sub.refl _) (Nat.zero_le _) ?_;intro i hi;have hkxi:=(AHeap.set_ne H0 ⟨((psi ps i).map Zo).flatten,0⟩ hne).trans hkx;have rii:=fun o=>Qy wz hkxi o;refine awp_rseq [5,6,61,62,63] (by rfl) fun K hK=>?_;simp+decide only[qa,ev,putD,Slots.put,Slots.get,Slots.keep,if_true,if_false,true_and,↓qA,ql,qR,cond_false,qo,XP];apply hK;clear hK K;refine qK (qJ (b:=_) rfl (fun hb2=>?_) (fun hb2=>?_))
  ·try simp only[decide_eq_true_eq]at hb2
   have hi':i<ps.length:=by omega
   have hg:((psi ps i).map Zo).flatten.getD (i*3+2) .dead=(ps[i]).2:=by rw[flat_get _ _ (by rw[psi_len];exact hi'),psi_get ps i hi']
   have hMi:Sub (QG M mb) (H0.set kc ⟨((psi ps i).map Zo).flatten,0⟩):=Sub.trans_set hMk hMM;have hLi:=(hL _ (List.getElem_mem hi')).mono hMi;have hlv:=hLi.live;have hok:AVal.okIn (fun k=>((H0.set kc ⟨((psi ps i).map Zo).flatten,0⟩) k).isSome) (Yt (ps[i]).2):=okCap hLi;refine qP ?_;change Awp _ _ _ _ _ _ _;refine qK ?_;refine Ql ?_;refine awp_rseq [5,6,13,61,62] (by rfl) fun K hK=>?_;simp+decide only[qa,ev,putD,Slots.put,Slots.get,Slots.keep,if_true,if_false,true_and,↓qh,qc,↓qd,qb];apply hK;clear hK K;refine awp_draw_F 12 [] mixed (by kernel_rfl) (by rfl) ?_;simp only[List.take_succ_cons,List.take_zero,List.drop_succ_cons,List.drop_zero];simp+decide only[ev,putD,Slots.put,Slots.get,if_true,if_false,true_and,↓ZG,qm,qbl,↓Zv,XF,qy ag101,↓XK,qc,↓qdn,Qb Tryz.underlying101 qcz,UL,qbk,qy ag124,QP,List.getD_cons_zero,Nat.zero_add,WY,rii,Xn,hv,Int.toNat_natCast,hg,hlv];repeat (with_reducible refine And.intro ?_ ?_;· first|trivial|omega|(intro hg;simp only[Bool.and_eq_true,Bool.or_eq_true,Bool.not_eq_true',Bool.and_eq_false_iff,Bool.or_eq_false_iff,Bool.not_eq_false',decide_eq_true_eq,decide_eq_false_iff_not,XV]at hg;omega))
   refine Xk (V:=Yt (ps[i]).2) (by rfl) (by rfl) (by first|trivial|(simp+decide only[AVal.okIn,Xw,and_true,true_and,Qz,Un,Wl,qft,rowA,AHeap.set_same,Option.isSome_some];done)|(simp[AVal.okIn,Xw,AHeap.set];done)) (fun g hg=>c_clipM wz _ _ _ (by first|exact hLi|exact hLi.mono hg)) ?_;simp+decide only[Yr,ev,putD,Slots.put,Slots.get,if_true,if_false,true_and,↓qdn,Qb Tryz.underlying101 qcz,UL,↓ZG,qm,qbk,Nat.zero_add,Int.toNat_natCast];repeat (with_reducible refine And.intro ?_ ?_;· first|trivial|omega|(intro hg;simp only[Bool.and_eq_true,Bool.or_eq_true,Bool.not_eq_true',Bool.and_eq_false_iff,Bool.or_eq_false_iff,Bool.not_eq_false',decide_eq_true_eq,decide_eq_false_iff_not,XV]at hg;omega))
   have hcl:=hLi.clip;have hset:setAt ((psi ps i).map Zo).flatten (i*3+2) [Yt (ps[i]).2]=((psi ps (i+1)).map Zo).flatten:=by
    rw[flat_set _ _ _ (by rw[psi_len];exact hi'),psi_get ps i hi',<-psi_next ps i hi'];rfl
   refine qp (v:=Yt (ps[i]).2) (by rfl) (by rfl) (AHeap.set_same _ _ _) sz124 hcl.live (by rw[hcl.cells];rfl) (by simp only[];rw[qeR,psi_len];omega) (Nat.zero_le _) (by rw[hcl.cells];simp[QC,hcl.scal]) ?_;rw[AHeap.set_set,hcl.cells];simp only[];rw[hset];simp+decide only[qa,putD];change Awp _ _ _ _ _ _ _;refine XA [5,6,61,62] (by rfl) ?_;simp+decide only[qa,ev,qH,qF,putD,Slots.put,Slots.get,Slots.keep,if_true,if_false,true_and,↓qA,ql,qB,cond_false,qo,QY,↓qh,qc];try simp(disch:=omega)only[wrap_i64]
   try simp only[Qg]
   exact⟨i+1,rfl,Sub.refl _,by omega,by omega⟩
  ·try simp only[decide_eq_false_iff_not]at hb2
   obtain rfl:i=ps.length:=by omega
   have hpsi:psi ps ps.length=ps.map qdF:=by simp[psi]
   rw[hpsi]at hkxi rii|-
   have hlive:∀p∈ps,IsL wz (H0.set kc ⟨((ps.map qdF).map Zo).flatten,0⟩) 3 (Yt p.2) (p.1.marks.map Un):=fun p hp=>((hL p hp).mono (Sub.trans_set hMk hMM)).clip;have hLc:IsL wz (H0.set kc ⟨((ps.map qdF).map Zo).flatten,0⟩) 3 (.slice (.own kc) 0 ps.length (.grow 3)) ((ps.map qdF).map Zo):=by
    have:=IsL.own (wz:=wz) (es:=3) (xs:=(ps.map qdF).map Zo) (AHeap.set_same H0 kc ⟨((ps.map qdF).map Zo).flatten,0⟩) (by intro y hy;obtain⟨p,_,rfl⟩:=List.mem_map.1 hy;rfl) rfl (ZW.2 (by
     intro y hy;obtain⟨p,hp,rfl⟩:=List.mem_map.1 hy;obtain⟨q,hq,rfl⟩:=List.mem_map.1 hp;show(true && (true && ((Yt q.2).live && true)))=true
     rw[(hlive q hq).live];rfl)) (.grow 3) rfl
    simpa using this
   have hkr':=(AHeap.set_ne H0 ⟨((ps.map qdF).map Zo).flatten,0⟩ hrc).trans hkr;refine Xy ?_;change Awp _ _ _ _ _ _ _;refine awp_rseq [4,5] (by rfl) fun K hK=>?_;simp+decide only[ev,putD,Slots.put,Slots.get,if_true,if_false,true_and,↓qC,qm,qbl,↓qG,qY,qy ag101,List.getD_cons_zero,Nat.zero_add,WY,rii,Xn,hv];refine qN (V:= .slice (.own kc) 0 ps.length (.exact ps.length)) (by rfl) (by rfl) (c_clipC wz _ _ _ hLc) ?_;simp+decide only[ev,qH,qF,putD,Slots.put,Slots.get,if_true,if_false,true_and,↓Qp,↓qW,ZJ,evP,List.map_nil,↓qd,qb];refine qp (v:= .agg [.int .i64 0, .int .i64 0, .int .i64 0]) (by rfl) (by rfl) hkr' QI (by rfl) (by rfl) (by simp[]) (Nat.zero_le _) (by rfl) ?_;simp only[setAt,AVal.cells,List.set_cons_zero,List.set_cons_succ,Nat.zero_add,Nat.reduceAdd];rw[YC hkr'];simp+decide only[qa,putD,Slots.keep,if_true,if_false];apply hK;clear hK K;refine qO ?_;try simp only[YY]
   refine Qa (H0.set kc ⟨((ps.map qdF).map Zo).flatten,0⟩) (Sub.refl _) (?_) ?_
   ·simp+decide only[QE,qw,qj,Slots.get,if_true,if_false,and_true,qw,qj,qg Xt QI,qf,List.getD_cons_zero,List.getD_cons_succ,Nat.zero_add,Nat.reduceAdd,qi,allLive,Bool.and_true,qf,List.getD_cons_zero,List.getD_cons_succ,Nat.zero_add,Nat.reduceAdd,qi,allLive,Bool.and_true,Qy wz hkr']
   simp+decide only[Slots.get,if_true,if_false,Xj,qw,qj,qg Xt QI,qf,List.getD_cons_zero,List.getD_cons_succ,Nat.zero_add,Nat.reduceAdd,qi,allLive,Bool.and_true,qf,List.getD_cons_zero,List.getD_cons_succ,Nat.zero_add,Nat.reduceAdd,qi,allLive,Bool.and_true,Qy wz hkr'];exact⟨_,by rw[hres];rfl,by rw[hres];exact⟨ps.map qdF,by rw[List.map_map];exact hps,hLc.clip,fun p hp=>by obtain⟨q,hq,rfl⟩:=List.mem_map.1 hp;exact hlive q hq⟩,Sub.trans_set hsub hhc⟩
theorem readEnd(wz:World)(h B0:AHeap)(hs0:Sub h B0)(kr kx:Nat)(text:Str)(dbg:Bool)(hl:text.length<=1048576)(er:B0 kr=some ⟨[.int .i64 0, .int .i64 0, .int .i64 0],0⟩)(hr:h kr=none)
 (B M:AHeap) (cb mb:Option Buf) (x:Rd) (ri:RdInv wz B0 kx B M cb mb x) (hsm:x.cards.length<=1099511627776) (hrl:Wp dbg (XW (Yw text)) 1 .start=(x,okF)):
 Awp Tryz.prog wz 82 (WP 5 (unScope (WP 1 (qcu Tryz.f49)))) (qeL (qcB Tryz.prog wz [.tmp 4, .cell 5 35] (ReadR wz h text dbg))) [(5, .ptr (.own kr) 0),(6, .ptr (.own kx) 0)] (rdH kx B cb mb x):=by
 by_cases hc:x.cards=[]
 ·exact readEnd0 wz h B0 hs0 kr kx text dbg hl er hr B M cb mb x ri hc hrl
 ·exact readEnd1 wz h B0 hs0 kr kx text dbg hl er hr B M cb mb x ri hc hsm hrl
end Go.Proofs.YtlhhaagmakhilaaGreatDoor
