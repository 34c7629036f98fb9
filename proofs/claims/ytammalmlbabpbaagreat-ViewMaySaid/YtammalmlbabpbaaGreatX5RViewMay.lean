/- Texts of this proof, laid together. -/
import Derived.Test.YtammalmlbabpbaaGreatX4RViewMay
set_option linter.unusedVariables false
set_option linter.unusedSimpArgs false
namespace Go.Proofs.YtammalmlbabpbaaGreat.J
open Go Go.RowKit
section
/- Walks: the template of a list, texts; is the renderer alive? -/
set_option maxRecDepth 10000
set_option maxHeartbeats 4000000
theorem C3:Fn Tryz.prog 25 [] (.agg (HS.cs true)):=by
  refine AC.of_J Tryz.func25 rfl Tryz.ntmps25 rfl fun w0 A0=>?_
  refine Zs (JL.alloc P5 rfl rfl fun b0=>Zn (Zs (Zq rfl (QW.build (idx:=[0]) pl25 z25 rfl (.cons .const .nil) rfl rfl rfl rfl) (Zq rfl (QW.buildSlice (xs:=[eS5.cs true]) (idx:=[0]) sl23 el25 z25 rfl (.cons (Ev.le (z:=.agg (eS5.cs true)) (.r rfl) (.aggL (.cons lr (.cons lr (.cons lr (.cons (.nil true false _) (.nil))))))) .nil) rfl rfl rfl rfl rfl rfl rfl rfl rfl) (Zq rfl (QW.build (idx:=[0,2,3]) pl25 z25 rfl (.cons .const (.cons .const (.cons (.r rfl) .nil))) rfl rfl rfl rfl) (JL.alloc z25 rfl rfl fun b1=>?_))))))
  first|refine Qa 0 Ha (.r rfl) rfl (.r rfl) (by first|rfl|assumption) rfl rfl rfl ?_|refine Qa 0 Ha (.r rfl) rfl (.r rfl) (by first|rfl|assumption) rfl xl rfl ?_|refine Qa 0 Ha (.r rfl) rfl (.r rfl) (by first|rfl|assumption) xl rfl rfl ?_|refine Qa 0 Ha (.r rfl) rfl (.r rfl) (by first|rfl|assumption) xl xl rfl ?_|refine JL.store_box 0 Ha (.r rfl) rfl (.r rfl) (by first|rfl|assumption) rfl rfl rfl rfl ?_|refine JL.store_box 0 Ha (.r rfl) rfl (.r rfl) (by first|rfl|assumption) xl rfl rfl rfl ?_
  refine Zn (Zs (Zq rfl (QW.build (idx:=[0]) pl25 z25 rfl (.cons .const .nil) rfl rfl rfl rfl) (Zq rfl (QW.build (idx:=[0,3]) Ss P5 rfl (.cons .const (.cons (.r rfl) .nil)) rfl rfl rfl rfl) (Zq rfl (QW.buildSlice (xs:=[txP.cs true]) (idx:=[0]) LG el29 P5 rfl (.cons (Ev.le (z:=.agg (txP.cs true)) (.r rfl) (.aggL (.cons lr (.cons lr (.cons lr (.cons lr (.cons lr (.cons (.nil true false _) (.cons lr (.cons lr (.cons lr (.cons (.nil true false _) (.cons (.nil true false _) (.cons (.nil true false _) (.nil))))))))))))))) .nil) rfl rfl rfl rfl rfl rfl rfl rfl rfl) (Zq rfl (QW.build (idx:=[0,1,5]) Ss P5 rfl (.cons .const (.cons .const (.cons (.r rfl) .nil))) rfl rfl rfl rfl) (JL.alloc P5 rfl rfl fun b2=>?_))))))
  first|refine Qa 0 Xz (.r rfl) rfl (.r rfl) (by first|rfl|assumption) rfl rfl rfl ?_|refine Qa 0 Xz (.r rfl) rfl (.r rfl) (by first|rfl|assumption) rfl (TmT.cs_length _ _) rfl ?_|refine Qa 0 Xz (.r rfl) rfl (.r rfl) (by first|rfl|assumption) (TmT.cs_length _ _) rfl rfl ?_|refine Qa 0 Xz (.r rfl) rfl (.r rfl) (by first|rfl|assumption) (TmT.cs_length _ _) (TmT.cs_length _ _) rfl ?_|refine JL.store_box 0 Xz (.r rfl) rfl (.r rfl) (by first|rfl|assumption) rfl rfl rfl rfl ?_|refine JL.store_box 0 Xz (.r rfl) rfl (.r rfl) (by first|rfl|assumption) (TmT.cs_length _ _) rfl rfl rfl ?_
  refine Zn (Zs (Zq rfl (by first|exact Qe 1 Ha (.r rfl) rfl rfl rfl|exact Qe 1 Ha (.r rfl) rfl (Qo xl rfl) xl) ?_))
  refine Zq rfl (by first|exact Qe 0 Xz (.r rfl) rfl rfl rfl|exact Qe 0 Xz (.r rfl) rfl (Qo (TmT.cs_length _ _) rfl) (TmT.cs_length _ _)) ?_
  refine Zq rfl (QW.buildSlice (xs:=[liP.cs true]) (idx:=[0]) LG el29 P5 rfl (.cons (Ev.le (z:=.agg (liP.cs true)) (.r rfl) (.aggL (.cons lr (.cons lr (.cons lr (.cons lr (.cons lr (.cons (.nil true false _) (.cons lr (.cons lr (.cons lr (.cons (.nil true false _) (.cons (.nil true false _) (.cons (Yi (TmT.css_sz true [txP])) (.nil))))))))))))))) .nil) rfl rfl rfl rfl rfl rfl rfl rfl rfl) (Zq rfl (QW.build (idx:=[0,3,5]) Ss P5 rfl (.cons .const (.cons (.r rfl) (.cons (.r rfl) .nil))) rfl rfl rfl rfl) (Zq rfl (QW.buildSlice (xs:=[eaP.cs true]) (idx:=[0]) LG el29 P5 rfl (.cons (Ev.le (z:=.agg (eaP.cs true)) (.r rfl) (.aggL (.cons lr (.cons lr (.cons lr (.cons lr (.cons lr (.cons (.nil true false _) (.cons lr (.cons lr (.cons lr (.cons (Yi (EX.css_sz true [eS5])) (.cons (.nil true false _) (.cons (Yi (TmT.css_sz true [liP])) (.nil))))))))))))))) .nil) rfl rfl rfl rfl rfl rfl rfl rfl rfl) (Zq rfl (QW.build (idx:=[0,1,5]) Ss P5 rfl (.cons .const (.cons .const (.cons (.r rfl) .nil))) rfl rfl rfl rfl) ?_)))
  first|refine Qa 2 Xz (.r rfl) rfl (.r rfl) (by first|rfl|assumption) rfl rfl rfl ?_|refine Qa 2 Xz (.r rfl) rfl (.r rfl) (by first|rfl|assumption) rfl (TmT.cs_length _ _) rfl ?_|refine Qa 2 Xz (.r rfl) rfl (.r rfl) (by first|rfl|assumption) (TmT.cs_length _ _) rfl rfl ?_|refine Qa 2 Xz (.r rfl) rfl (.r rfl) (by first|rfl|assumption) (TmT.cs_length _ _) (TmT.cs_length _ _) rfl ?_|refine JL.store_box 2 Xz (.r rfl) rfl (.r rfl) (by first|rfl|assumption) rfl rfl rfl rfl ?_|refine JL.store_box 2 Xz (.r rfl) rfl (.r rfl) (by first|rfl|assumption) (TmT.cs_length _ _) rfl rfl rfl ?_
  exact Zn (J.ret (Zr [.k,.k,.k] (RetEv.one rfl (by first|exact REv.cell 2 Xz rfl rfl rfl rfl (.aggL (.cons lr (.cons lr (.cons lr (.cons lr (.cons lr (.cons (.nil true false _) (.cons lr (.cons lr (.cons lr (.cons (.nil true false _) (.cons (.nil true false _) (.cons (Yi (TmT.css_sz true [eaP])) (.nil))))))))))))))|exact REv.cell 2 Xz rfl rfl (Qo (TmT.cs_length _ _) rfl) (TmT.cs_length _ _) (.aggL (.cons lr (.cons lr (.cons lr (.cons lr (.cons lr (.cons (.nil true false _) (.cons lr (.cons lr (.cons lr (.cons (.nil true false _) (.cons (.nil true false _) (.cons (Yi (TmT.css_sz true [eaP])) (.nil)))))))))))))))) rfl ⟨rfl,rfl⟩))
theorem T1{fr c:Bool}{l:List QM}(hl:l.length≤16):Fn Tryz.prog 26 [.sl fr c W2 (Q2 l)] (.agg ((tV l).cs true)):=by
  refine AC.of_J Tryz.func26 rfl Tryz.ntmps26 rfl fun w0 A0=>?_
  refine Zs (JL.alloc Yc rfl rfl fun b2=>Zn (Zs (Zq rfl (QW.build (idx:=[0]) Ki Yc rfl (.cons .const .nil) rfl rfl rfl rfl) (JL.alloc Yc rfl rfl fun b3=>?_))))
  first|refine Qa 0 Ql (.r rfl) rfl (.r rfl) (by first|rfl|assumption) rfl rfl rfl ?_|refine Qa 0 Ql (.r rfl) rfl (.r rfl) (by first|rfl|assumption) rfl vl rfl ?_|refine Qa 0 Ql (.r rfl) rfl (.r rfl) (by first|rfl|assumption) vl rfl rfl ?_|refine Qa 0 Ql (.r rfl) rfl (.r rfl) (by first|rfl|assumption) vl vl rfl ?_|refine JL.store_box 0 Ql (.r rfl) rfl (.r rfl) (by first|rfl|assumption) rfl rfl rfl rfl ?_|refine JL.store_box 0 Ql (.r rfl) rfl (.r rfl) (by first|rfl|assumption) vl rfl rfl rfl ?_
  refine Zn (J.seq (Zs (Zq rfl (QW.assign .const) (Zn (J.block (J.reown (Up eV _) (Ub (ι:=Nat×Value) [0,2,3] (fun⟨i,v⟩=>[(4,.c (.int .i64 (i:Int)))]) (fun⟨i,v⟩ oo=>List.set (List.set oo 2 (.arr v eV (V.css true ((l.take i).map V.tx)))) 0 (.box b3 [.c (.int .i64 4),.c (.int .u64 0),.c (Q4 []),.c (.slice none 0 0),.c v])) (fun⟨i,v⟩=>i≤l.length) (fun⟨i,v⟩=>l.length-i) ⟨0,.slice none 0 0⟩ (Nat.zero_le _) (QR (.cons rfl lr (.cons rfl lr (.cons rfl lr (.cons rfl lr .nil)))) (Reown.refl _) (fun _ h=>by first|exact h|simp[h])) ?_)))))))
  intro⟨i,v⟩ hi
  refine J.conv (by(try simp only[nl,Qj,Qv,Qw,Qu,QZ,AV.cellsOf,Qc,Qd,Nat.reduceAdd]);rfl) ?_
  refine J.seq (Zs (Zm rfl (Zm rfl (Zq rfl (by first|exact Qh UE (.r rfl) wl|exact Qh UE (.r rfl) (TmT.css_length _ _)|exact Qh UE (.r rfl) (SetT.css_length _ _)|exact Qh UE (.r rfl) (TrT.css_length _ _)|exact Qh UE (.r rfl) (AtT.css_length _)|exact QB UE (.r rfl)|exact QW.len_nil UE (.r rfl)) ?_))))
  refine Zq rfl (QW.lss (.r rfl) (.r rfl)) (Zn ?_)
  refine J.cond (.r rfl) (fun c1=>?_) (fun c1=>?_)
  · skip
    have hlt:i<l.length:=by simpa[Q2]using c1
    refine Zk (J.seq (J.block (QU mixed (Zf 0 [] rfl (fun _=>Qf Ut (.r rfl) rfl) (Zo 1 0 [12] rfl (fun _ ho_=>Qb 0 WK (.r rfl) ho_ rfl) (Zf 2 [] rfl (fun _=>QW.move (.r rfl)) (Zf 3 [] rfl (fun _=>QW.move (.r rfl)) (Zf 4 [14,15] rfl (fun _=>Qi UE UY rfl (.r rfl) (.r rfl) (by first|rfl|omega|(simp;done)) (by first|exact Xn hlt|(simp[Q2,hlt]))) ?_))))))))
    refine Zf 5 [16] rfl (fun _=>QA UY (.r rfl) rfl) (Zf 6 [17] rfl (fun _=>QW.build (idx:=[0,2]) Ki Yc rfl (.cons .const (.cons (.r rfl) .nil)) rfl rfl rfl rfl) (Zf 7 [18] rfl (fun _=>QW.buildSlice (xs:=[(V.tx l[i]).cs true]) (idx:=[0]) QS GQ Yc rfl (.cons (Ev.le (z:=.agg ((V.tx l[i]).cs true)) (.r rfl) (.aggL (.cons lr (.cons lr (.cons lr (.cons (.nil true false _) (.cons (.nil true false _) (.nil)))))))) .nil) rfl rfl rfl rfl rfl rfl rfl rfl rfl) (JX.one 8 [true,true,true,true,true,true,true,true] rfl (by kernel_rfl) (by kernel_rfl) rfl rfl (by kernel_rfl) rfl fun bs8_ pe_ ex_=>?_)))
    refine JL.conv (by(try simp only[Uc,Uk,Q6,QV,Flt.val,Flt.bx,nx,nl,Qj,Qv,Qw,Qu,QZ,AV.cellsOf,Qc,Qd,Nat.reduceAdd]);rfl) ?_
    refine JL.append 2 QS GQ rfl (.r rfl) rfl (Wv QS (.r rfl)) (by rw[V.css_length,List.length_map,List.length_take];show(_+1)*80≤_;unfold Qr;omega) rfl fun v20=>?_
    refine JL.nil ?_
    refine thenQ.n ⟨[_],_,rfl,rfl,rfl,rfl,rfl,QK 3 rfl,⟨rfl,rfl⟩,trivial,?_⟩
    refine JX.conv (S':=[8,7,6,5,4,3,2,1,0]) rfl (by(try simp only[QV]);rfl) (by(try simp only[Uc,Uk,Q6,QV,Flt.val,Flt.bx,nx,nl,Qj,Qv,Qw,Qu,QZ,AV.cellsOf,Qc,Qd,Nat.reduceAdd]);rfl) ?_
    refine Zf 9 [] rfl (fun _=>Qf Ut (.r rfl) rfl) (JX.one 10 [true] rfl (by kernel_rfl) (by kernel_rfl) rfl rfl (by kernel_rfl) rfl fun bs10_ pe_ ex_=>?_)
    refine JL.conv (by(try simp only[Uc,Uk,Q6,QV,Flt.val,Flt.bx,nx,nl,Qj,Qv,Qw,Qu,QZ,AV.cellsOf,Qc,Qd,Nat.reduceAdd]);rfl) ?_
    refine JL.isSlice 2 rfl fun hs1=>JL.store_box 0 WK (.r rfl) rfl (.r rfl) (by first|rfl|assumption) rfl rfl rfl rfl ?_
    refine JL.nil ?_
    refine thenQ.n ⟨[],_,rfl,rfl,rfl,rfl,rfl,QK 3 rfl,trivial,trivial,?_⟩
    refine JX.conv (S':=[10,9,8,7,6,5,4,3,2,1,0]) rfl (by(try simp only[QV]);rfl) (by(try simp only[Uc,Uk,Q6,QV,Flt.val,Flt.bx,nx,nl,Qj,Qv,Qw,Qu,QZ,AV.cellsOf,Qc,Qd,Nat.reduceAdd]);rfl) ?_
    refine JX.fin (by kernel_rfl) (by kernel_rfl) fun bs_=>?_
    refine QX.conv (by(try simp only[Uc,Uk,Q6,QV,Flt.val,Flt.bx,nx,nl,Qj,Qv,Qw,Qu,QZ,AV.cellsOf,Qc,Qd,Nat.reduceAdd]);rfl) ?_
    refine blkQ.n (thenQ.n (Qg (Zm rfl (Zq rfl (QW.add (.r rfl) .const (by first|exact Wj (by first|rfl|omega|(simp;done)) (by omega)|exact YW (by omega)|rfl)) ?_))))
    refine Za rfl (Zn ?_)
    rw[show V.css true ((l.take i).map V.tx)++[(V.tx l[i]).cs true]=V.css true ((l.take (i+1)).map V.tx) by rw[List.take_succ_eq_append_getElem hlt,List.map_append,V.css_eq,V.css_eq,List.map_append];rfl]
    exact⟨⟨i+1,v20⟩,hlt,by show l.length-(i+1)<l.length-i;omega,QR (.cons rfl lr (.cons rfl lr (.cons rfl lr (.cons rfl lr .nil)))) (Reown.refl _) (fun _ h=>by first|exact h|simp[h])⟩
  obtain rfl:i=l.length:=by(simp[Q2]at c1;omega)
  rw[List.take_length]
  refine J.exit (Qy (Qy (Q1 (thenQ.n (J.seq (J.closeArr 2 rfl (by rw[V.css_length,List.length_map];show _*80≤_;unfold Qr;omega) rfl (fun _ h=>by cases h) ?_))))))
  refine Qg (Zq rfl (QW.buildSlice (idx:=[0]) (xs:=[[AV.c (Q4 [108])]]) (zs:=[AV.c (Q4 [108])]) UE el9 z9 rfl (.cons .const .nil) rfl rfl rfl rfl rfl rfl rfl rfl rfl) (Zq rfl (by first|exact Qe 0 Ql (.r rfl) rfl rfl rfl|exact Qe 0 Ql (.r rfl) rfl (Qo vl rfl) vl) ?_))
  refine Zq rfl (QW.buildSlice (xs:=[(lV l).cs true]) (idx:=[0]) QS GQ Yc rfl (.cons (Ev.le (z:=.agg ((lV l).cs true)) (.r rfl) (.aggL (.cons lr (.cons lr (.cons lr (.cons (.nil true false _) (.cons (.fact (by simp) (.refl _)) (.nil)))))))) .nil) rfl rfl rfl rfl rfl rfl rfl rfl rfl) ?_
  refine Zq rfl (QW.build (idx:=[0,3,4]) Ki Yc rfl (.cons .const (.cons (.r rfl) (.cons (.r rfl) .nil))) rfl rfl rfl rfl) ?_
  first|refine Qa 1 Ql (.r rfl) rfl (.r rfl) (by first|rfl|assumption) rfl rfl rfl ?_|refine Qa 1 Ql (.r rfl) rfl (.r rfl) (by first|rfl|assumption) rfl vl rfl ?_|refine Qa 1 Ql (.r rfl) rfl (.r rfl) (by first|rfl|assumption) vl rfl rfl ?_|refine Qa 1 Ql (.r rfl) rfl (.r rfl) (by first|rfl|assumption) vl vl rfl ?_|refine JL.store_box 1 Ql (.r rfl) rfl (.r rfl) (by first|rfl|assumption) rfl rfl rfl rfl ?_|refine JL.store_box 1 Ql (.r rfl) rfl (.r rfl) (by first|rfl|assumption) vl rfl rfl rfl ?_
  exact Zn (J.ret (Zr [.k,.k] (RetEv.one rfl (by first|exact REv.cell 1 Ql rfl rfl rfl rfl (.aggL (.cons lr (.cons lr (.cons lr (.cons (Yi (fun y hy=>by rw[List.mem_singleton.1 hy];rfl)) (.cons (Yi (V.css_sz true [lV l])) (.nil)))))))|exact REv.cell 1 Ql rfl rfl (Qo vl rfl) vl (.aggL (.cons lr (.cons lr (.cons lr (.cons (Yi (fun y hy=>by rw[List.mem_singleton.1 hy];rfl)) (.cons (Yi (V.css_sz true [lV l])) (.nil))))))))) rfl ⟨rfl,rfl⟩))
theorem LR(n:Int):Fn Tryz.prog 18 [.c (.int .i64 n)] (.c (.int .i64 n)):=by
  refine AC.of_J Tryz.func18 rfl Tryz.ntmps18 rfl fun w0 A0=>?_
  exact Zs (Zq rfl (QW.assign .const) (Zn (Zs (Zm rfl (Za rfl (Zn (J.ret (Zr [] (RetEv.one rfl (REv.tmp rfl lr)) rfl ⟨rfl,rfl⟩))))))))
theorem RO{l:List QM}{f:Int}{fr fr2:Bool}(h:l.length≤16)(h2:∀x∈l,x.length≤128)(hf:3+2*l.length≤f)(hf2:f≤4096):Fn Tryz.prog 14 [.agg (HS.cs fr),.agg ((tV l).cs fr2),.c (.int .i64 f)] (HQ (ulT l,0)):=by
  have:=LB (fr:=fr) (fr2:=fr2) R3 (tV_wf h h2) (f:=f) ⟨by omega,by omega⟩
  rwa [BT h h2 hf hf2]at this
theorem DR:Fn Tryz.prog 23 [] (.c (.bool true)):=by
  refine AC.of_J Tryz.func23 rfl Tryz.ntmps23 rfl fun w0 A0=>?_
  refine Zs (Zq rfl (QW.assign .const) (Zn (Zs (Zq rfl (QW.call gofn25 .nil (C3)) (Zq rfl (QW.call Dw (.cons (.r rfl) .nil) (Et (t:=HS) R3)) (Zq rfl (QW.buildSlice (idx:=[0,1]) UE el9 z9 rfl (.cons .const (.cons .const .nil)) rfl rfl rfl rfl rfl rfl rfl rfl rfl) (Zq rfl (QW.call gofn26 (.cons (.r rfl) .nil) (T1 (l:=[[97],[98]]) (by decide))) ?_)))))))
  refine Zq rfl (QW.call Pe (.cons (.r rfl) (.cons (.r rfl) (.cons .const .nil))) (RO (l:=[[97],[98]]) (fr:=true) (fr2:=true) (f:=99) (by decide) (by decide) (by decide) (by decide))) ?_
  refine Zm rfl (Zx rfl (Zx rfl (JL.alloc z46 rfl rfl fun b1=>?_)))
  first|refine Qa 0 QJ (.r rfl) rfl (.r rfl) (by first|rfl|assumption) rfl rfl rfl ?_|refine Qa 0 QJ (.r rfl) rfl (.r rfl) (by first|rfl|assumption) rfl (TrT.cs_length _ _) rfl ?_|refine Qa 0 QJ (.r rfl) rfl (.r rfl) (by first|rfl|assumption) rfl rfl rfl ?_|refine Qa 0 QJ (.r rfl) rfl (.r rfl) (by first|rfl|assumption) (TrT.cs_length _ _) rfl rfl ?_|refine Qa 0 QJ (.r rfl) rfl (.r rfl) (by first|rfl|assumption) (TrT.cs_length _ _) (TrT.cs_length _ _) rfl ?_|refine Qa 0 QJ (.r rfl) rfl (.r rfl) (by first|rfl|assumption) (TrT.cs_length _ _) rfl rfl ?_|refine Qa 0 QJ (.r rfl) rfl (.r rfl) (by first|rfl|assumption) rfl rfl rfl ?_|refine Qa 0 QJ (.r rfl) rfl (.r rfl) (by first|rfl|assumption) rfl (TrT.cs_length _ _) rfl ?_|refine Qa 0 QJ (.r rfl) rfl (.r rfl) (by first|rfl|assumption) rfl rfl rfl ?_|refine JL.store_box 0 QJ (.r rfl) rfl (.r rfl) (by first|rfl|assumption) rfl rfl rfl rfl ?_|refine JL.store_box 0 QJ (.r rfl) rfl (.r rfl) (by first|rfl|assumption) (TrT.cs_length _ _) rfl rfl rfl ?_|refine JL.store_box 0 QJ (.r rfl) rfl (.r rfl) (by first|rfl|assumption) rfl rfl rfl rfl ?_
  refine Za rfl (Zn (Zs (Zm rfl (Zq rfl (QW.call Dv (.cons (.r rfl) .nil) (LR _)) (Zq rfl (QW.eql (.r rfl) .const) (Zm rfl (Zg rfl (fun hg=>(Qf KA (.r rfl) rfl)) (Zg rfl (fun hg=>(Qb 0 UY (.when rfl hg) rfl rfl)) (Zg rfl (fun hg=>(WG (.when rfl hg) .const)) ?_)))))))))
  refine Zq rfl (QW.pick_and (.r rfl) (.r rfl)) (Zm rfl (Zg rfl (fun hg=>(Qf WN (.r rfl) rfl)) (Zg rfl (fun hg=>(Qb 0 KU (.when rfl hg) rfl rfl)) (Zg rfl (fun hg=>(by first|exact Qh Uu (.when rfl hg) wl|exact Qh Uu (.when rfl hg) (TmT.css_length _ _)|exact Qh Uu (.when rfl hg) (SetT.css_length _ _)|exact Qh Uu (.when rfl hg) (TrT.css_length _ _)|exact Qh Uu (.when rfl hg) (AtT.css_length _)|exact QB Uu (.when rfl hg)|exact QW.len_nil Uu (.when rfl hg))) ?_))))
  refine Zg rfl (fun hg=>(QW.eql (.when rfl hg) .const)) (Zq rfl (QW.pick_and (.r rfl) (.r rfl)) (Zm rfl (Zg rfl (fun hg=>(Qf WN (.r rfl) rfl)) (Zg rfl (fun hg=>(Qb 0 KU (.when rfl hg) rfl rfl)) (Zg rfl (fun hg=>(Qi Uu QJ rfl (.when rfl hg) .const (by first|rfl|omega|(simp;done)) (by rfl))) ?_)))))
  refine Zg rfl (fun hg=>(QN KA (.when rfl hg) rfl)) (Zg rfl (fun hg=>(QA UY (.when rfl hg) rfl)) (Zg rfl (fun hg=>(WG (.when rfl hg) .const)) (Zq rfl (QW.pick_and (.r rfl) (.r rfl)) (Zm rfl (Zg rfl (fun hg=>(Qf WN (.r rfl) rfl)) (Zg rfl (fun hg=>(Qb 0 KU (.when rfl hg) rfl rfl)) (Zg rfl (fun hg=>(Qi Uu QJ rfl (.when rfl hg) .const (by first|rfl|omega|(simp;done)) (by rfl))) ?_)))))))
  refine Zg rfl (fun hg=>(QN WN (.when rfl hg) rfl)) (Zg rfl (fun hg=>(QA KU (.when rfl hg) rfl)) (Zg rfl (fun hg=>(by first|exact Qh Uu (.when rfl hg) wl|exact Qh Uu (.when rfl hg) (TmT.css_length _ _)|exact Qh Uu (.when rfl hg) (SetT.css_length _ _)|exact Qh Uu (.when rfl hg) (TrT.css_length _ _)|exact Qh Uu (.when rfl hg) (AtT.css_length _)|exact QB Uu (.when rfl hg)|exact QW.len_nil Uu (.when rfl hg))) ?_))
  refine Zg rfl (fun hg=>(QW.eql (.when rfl hg) .const)) (Zq rfl (QW.pick_and (.r rfl) (.r rfl)) (Zm rfl (Zg rfl (fun hg=>(Qf WN (.r rfl) rfl)) (Zg rfl (fun hg=>(Qb 0 KU (.when rfl hg) rfl rfl)) (Zg rfl (fun hg=>(Qi Uu QJ rfl (.when rfl hg) .const (by first|rfl|omega|(simp;done)) (by rfl))) ?_)))))
  refine Zg rfl (fun hg=>(QN WN (.when rfl hg) rfl)) (Zg rfl (fun hg=>(QA KU (.when rfl hg) rfl)) (Zg rfl (fun hg=>(Qi Uu QJ rfl (.when rfl hg) .const (by first|rfl|omega|(simp;done)) (by rfl))) ?_))
  exact Zg rfl (fun hg=>(QN N0 (.when rfl hg) rfl)) (Zg rfl (fun hg=>(QA UY (.when rfl hg) rfl)) (Zg rfl (fun hg=>(WG (.when rfl hg) .const)) (Zq rfl (QW.pick_and (.r rfl) (.r rfl)) (Za rfl (Zn (J.ret (Zr [.k] (RetEv.one rfl (REv.tmp rfl lr)) rfl ⟨UX (by first|decide|simp|rfl),rfl⟩)))))))

end
section
/- Laws of the tree of a state, in plain Lean. -/
theorem el_tag{t:TmT}{s:ScT}{f g:Int}{y:TrT}(h:t.elE s f=.ok (y,g)):y.tag=t.tag:=by
  obtain⟨w,t,k,x,a,l⟩:=t
  obtain⟨key,f1,-,h⟩:=UM (show Yp t k a (QE l) s f=.ok (y,g)from h)
  split at h
  · cases h
  · obtain⟨ats,f2,-,h⟩:=UM h
    obtain⟨ks,f3,-,h⟩:=UM h
    cases h;rfl
theorem Hh{t:TmT}{st:V}(hw:t.wf)(hs:st.wf)(f:Int):(∃c,¬c=0∧t.renT st f=(.nil,c))∨
    ∃y g,t.err=0∧st.err=0∧(0≤f∧f≤4096)∧t.elE ⟨st,.nil,.nil⟩ f=.ok (y,g)∧y.err=0∧t.renT st f=(y,0)∧y.wf∧1+g≤f∧0≤g:=by
  by_cases h1:t.err=0
  · by_cases h2:st.err=0
    · by_cases h3:f<0∨4096<f
      · exact .inl ⟨4,by decide,(if_neg (fun hc=>hc h1)).trans ((if_neg (fun hc=>hc h2)).trans (if_pos h3))⟩
      · have hr:t.renT st f=t.treeT st f:=(if_neg (fun hc=>hc h1)).trans ((if_neg (fun hc=>hc h2)).trans (if_neg h3))
        cases he:t.elE ⟨st,.nil,.nil⟩ f with
        |error c=>exact .inl ⟨c,FH _ _ _ (TmT.fine_of h1) c he,by rw[hr];unfold TmT.treeT;rw[he]⟩
        |ok p=>
          obtain⟨y,g⟩:=p
          obtain⟨g1,g2,g3⟩:=H5 (TmT.fine_of h1) hw (H4 h1) ⟨⟨hs,h2⟩,W3,W3⟩ (by omega) he
          by_cases h4:y.err=0
          · exact .inr ⟨y,g,h1,h2,⟨by omega,by omega⟩,rfl,h4,by rw[hr];unfold TmT.treeT;rw[he];exact if_neg (fun hc=>hc h4),g1,g2,g3⟩
          · exact .inl ⟨y.err,h4,by rw[hr];unfold TmT.treeT;rw[he];exact if_pos h4⟩
    · exact .inl ⟨st.err,h2,(if_neg (fun hc=>hc h1)).trans (if_pos h2)⟩
  · exact .inl ⟨t.err,h1,if_pos h1⟩
theorem ren_wf{t:TmT}{st:V}(hw:t.wf)(hs:st.wf)(f:Int):(t.renT st f).1.wf:=by
  rcases Hh hw hs f with ⟨c,-,h⟩|⟨y,g,-,-,-,-,-,h,h2,-⟩
  · rw[h];exact TrT.wf_nil
  · rw[h];exact h2
theorem ren_no{t:TmT}{st:V}(hw:t.wf)(hs:st.wf){f c:Int}{y:TrT}(h:t.renT st f=(y,c))(hc:¬c=0):y=.nil:=by
  rcases Hh hw hs f with ⟨d,-,h2⟩|⟨z,g,-,-,-,-,-,h2,-,-⟩
  · rw[h]at h2;cases h2;rfl
  · rw[h]at h2;cases h2;exact absurd rfl hc
theorem Sr{t:TmT}{st:V}(hw:t.wf)(hs:st.wf){f:Int}{y:TrT}(h:t.renT st f=(y,0)):y.err=0∧y.tag=t.tag:=by
  rcases Hh hw hs f with ⟨d,hd,h2⟩|⟨z,g,-,-,-,he,h4,h2,-,-⟩
  · rw[h]at h2;cases h2;exact absurd rfl hd
  · rw[h]at h2;cases h2;exact⟨h4,el_tag he⟩

end
section
/- Walks: are two trees one, in all fields? -/
set_option maxRecDepth 10000
set_option maxHeartbeats 4000000
theorem Tx{a b:List AtT}{k:Nat}(ha:k<a.length)(hb:k<b.length):AtT.sames (a.drop k) (b.drop k)=(a[k].same b[k]&&AtT.sames (a.drop (k+1)) (b.drop (k+1))):=by
  rw[List.drop_eq_getElem_cons ha,List.drop_eq_getElem_cons hb,AtT.sames]
theorem RE{a b:List TrT}{k:Nat}(ha:k<a.length)(hb:k<b.length):TrT.sames (a.drop k) (b.drop k)=(a[k].same b[k]&&TrT.sames (a.drop (k+1)) (b.drop (k+1))):=by
  rw[List.drop_eq_getElem_cons ha,List.drop_eq_getElem_cons hb,TrT.sames]
theorem NG{fr fr2:Bool}(a b:List AtT)(ha:a.length*32≤Qr)(hb:b.length*32≤Qr):Fn Tryz.prog 55 [.sl fr false DJ (AtT.css a),.sl fr2 false DJ (AtT.css b)] (.c (.bool (AtT.sames a b))):=by
  have h1:a.length≤9223372036854775805:=by unfold Qr at ha;omega
  have h2:b.length≤9223372036854775805:=by unfold Qr at hb;omega
  refine AC.of_J Tryz.func55 rfl Tryz.ntmps55 rfl fun w0 A0=>?_
  refine Zs (Zq rfl (QW.assign .const) (Zn (J.seq (Zs (Zm rfl (Zq rfl (by first|exact Qh WM (.r rfl) (TrT.css_length _ _)|exact Qh WM (.r rfl) (AtT.css_length _)|exact QB WM (.r rfl)|exact QW.len_nil WM (.r rfl)) ?_))))))
  refine Zm rfl (Zq rfl (by first|exact Qh WM (.r rfl) (TrT.css_length _ _)|exact Qh WM (.r rfl) (AtT.css_length _)|exact QB WM (.r rfl)|exact QW.len_nil WM (.r rfl)) ?_)
  refine Zq rfl (QW.neq (.r rfl) (.r rfl)) (Zn ?_)
  refine J.cond (.r rfl) (fun c1=>?_) (fun c1=>?_)
  · skip
    have hne:¬a.length=b.length:=by(simp[AtT.css_length]at c1;omega)
    exact Zs (Zq rfl (QW.assign .const) (Zn (J.ret (thenQ.r (Zr [] (RetEv.one rfl (REv.tmp rfl lr)) rfl ⟨UX (by rw[AtT.sames_len hne]),rfl⟩)))))
  have hl:a.length=b.length:=by(simp[AtT.css_length]at c1;omega)
  refine Zk (J.seq (Zs (Zq rfl (QW.assign .const) (Zn (J.block (Ub (ι:=Nat) [0,1] (fun k=>[(5,.c (.int .i64 (k:Int)))]) (fun _ oo=>oo) (fun k=>k≤a.length∧AtT.sames a b=AtT.sames (a.drop k) (b.drop k)) (fun k=>a.length-k) 0 (⟨Nat.zero_le _,rfl⟩) (QR (.cons rfl lr (.cons rfl lr (.cons rfl lr .nil))) (Reown.refl _) (fun _ h=>by first|exact h|simp[h])) ?_))))))
  intro k ⟨hk,heqs⟩
  refine J.conv (by(try simp only[nl,Qj,Qv,Qw,Qu,QZ,AV.cellsOf,Qc,Qd,Nat.reduceAdd]);rfl) ?_
  refine J.seq (Zs (Zm rfl (Zm rfl (Zq rfl (by first|exact Qh WM (.r rfl) (TrT.css_length _ _)|exact Qh WM (.r rfl) (AtT.css_length _)|exact QB WM (.r rfl)|exact QW.len_nil WM (.r rfl)) ?_))))
  refine Zq rfl (QW.lss (.r rfl) (.r rfl)) (Zn ?_)
  refine J.cond (.r rfl) (fun c2=>?_) (fun c2=>?_)
  · skip
    have hlt:k<a.length:=by simpa[AtT.css_length]using c2
    have hlt2:k<b.length:=by omega
    refine Zk (J.seq (J.block (J.seq (Q9 8 mixed (by kernel_rfl) (by kernel_rfl) (by kernel_rfl) rfl ?_))))
    refine .cons [] rfl rfl rfl (.q rfl (QW.move (.r rfl))) ?_
    refine .cons [] rfl rfl rfl (.q rfl (QW.move (.r rfl))) ?_
    refine .cons [17,18] rfl rfl rfl (.q rfl (Qi WM Kn rfl (.r rfl) (.r rfl) (by first|rfl|omega|(simp;done)) (by first|exact AtT.css_getE hlt|exact AtT.css_getE hlt2))) ?_
    refine .cons [19] rfl rfl rfl (.q rfl (by first|exact Qn Kn (.r rfl) rfl rfl|exact Qn Kn (.r rfl) (QI rfl rfl) rfl)) ?_
    refine .cons [] rfl rfl rfl (.q rfl (QW.move (.r rfl))) ?_
    refine .cons [] rfl rfl rfl (.q rfl (QW.move (.r rfl))) ?_
    refine .cons [21,22] rfl rfl rfl (.q rfl (Qi WM Kn rfl (.r rfl) (.r rfl) (by first|rfl|omega|(simp;done)) (by first|exact AtT.css_getE hlt|exact AtT.css_getE hlt2))) ?_
    refine .cons [23] rfl rfl rfl (.q rfl (by first|exact Qn Kn (.r rfl) rfl rfl|exact Qn Kn (.r rfl) (QI rfl rfl) rfl)) ?_
    refine .nil ?_
    refine Zq rfl (DY (by kernel_rfl) (by kernel_rfl) (by kernel_rfl) Ry UY (by kernel_rfl) (.r rfl) (.r rfl)) ?_
    refine Zn ?_
    refine J.cond (.r rfl) (fun c3=>?_) (fun c3=>?_)
    · skip
      have hno:a[k].same b[k]=false:=by(simp at c3;rw[AtT.same,Bool.eq_false_iff];intro hc;simp at hc;rcases c3 with h|h;exact h hc.1;exact h hc.2)
      exact Zs (Zq rfl (QW.assign .const) (Zn (J.ret (blkQ.r (thenQ.r (thenQ.r (blkQ.r (thenQ.r (Zr [] (RetEv.one rfl (REv.tmp rfl lr)) rfl ⟨UX (by rw[heqs,Tx hlt hlt2,hno];rfl),rfl⟩)))))))))
    have hyes:a[k].same b[k]=true:=by(simp at c3;simpa[AtT.same]using c3)
    refine J.skip (blkQ.n (thenQ.n (Qg (Zm rfl (Zq rfl (QW.add (.r rfl) .const (by first|exact Wj (by first|rfl|omega|(simp;done)) (by omega)|exact YW (by omega)|rfl)) ?_)))))
    refine Za rfl (Zn ?_)
    rw[Tx hlt hlt2,hyes,Bool.true_and]at heqs
    exact⟨k+1,⟨hlt,heqs⟩,by omega,QR (.cons rfl lr (.cons rfl lr (.cons rfl lr .nil))) (Reown.refl _) (fun _ h=>by first|exact h|simp[h])⟩
  have hge:a.length≤k:=by simpa[AtT.css_length]using c2
  exact J.exit (Qy (Qy (Q1 (thenQ.n (Zs (Zq rfl (QW.assign .const) (Zn (J.ret (Zr [] (RetEv.one rfl (REv.tmp rfl lr)) rfl ⟨UX (by rw[heqs,List.drop_of_length_le hge,List.drop_of_length_le (by omega)];rfl),rfl⟩)))))))))
theorem T4:∀(n:Nat) {v u:TrT} {fr fr2:Bool},v.wf→u.wf→v.sz≤n→Fn Tryz.prog 21 [.agg (v.cs fr),.agg (u.cs fr2)] (.c (.bool (v.same u))):=by
  intro n
  induction n with
  |zero=>intro v u fr fr2 hw hw2 h;exact absurd h (by have:=v.sz_pos;omega)
  |succ n ih=>
    intro v u fr fr2 hw hw2 hn
    obtain⟨t,k,x,a,l⟩:=v
    obtain⟨t',k',x',a',l'⟩:=u
    obtain⟨-,-,-,ha,-,hl96,hwi⟩:=hw.inv
    obtain⟨-,-,-,ha',-,hl96',hwi'⟩:=hw2.inv
    have h1:l.length≤9223372036854775805:=by unfold Qr at hl96;omega
    have h2:l'.length≤9223372036854775805:=by unfold Qr at hl96';omega
    refine AC.of_J Tryz.func21 rfl Tryz.ntmps21 rfl fun w0 A0=>?_
    refine Zs (Qp (.r rfl) rfl fun b2=>Qp (.r rfl) rfl fun b3=>Zq rfl (QW.assign .const) (Zn (J.seq (Zs (Zd KA rfl (Zl 1 UY rfl (Zd KA rfl ?_)))))))
    refine Zl 0 UY rfl (Zq rfl (WU (.r rfl) (.r rfl)) (Zm rfl (Zg rfl (fun hg=>(Qf Gm (.r rfl) rfl)) (Zg rfl (fun hg=>(Qb 1 UY (.when rfl hg) rfl rfl)) (Zg rfl (fun hg=>(Qf Gm (.r rfl) rfl)) (Zg rfl (fun hg=>(Qb 0 UY (.when rfl hg) rfl rfl)) (Zg rfl (fun hg=>(WU (.when rfl hg) (.when rfl hg))) (Zq rfl (QW.pick_or (.r rfl) (.r rfl)) (Zm rfl ?_)))))))))
    refine Zg rfl (fun hg=>(Qf N0 (.r rfl) rfl)) (Zg rfl (fun hg=>(Qb 1 UY (.when rfl hg) rfl rfl)) (Zg rfl (fun hg=>(Qf N0 (.r rfl) rfl)) (Zg rfl (fun hg=>(Qb 0 UY (.when rfl hg) rfl rfl)) (Zg rfl (fun hg=>(WU (.when rfl hg) (.when rfl hg))) (Zq rfl (QW.pick_or (.r rfl) (.r rfl)) (Zm rfl (Zg rfl (fun hg=>(Qf Hu (.r rfl) rfl)) (Zg rfl (fun hg=>(Qb 1 CD (.when rfl hg) rfl rfl)) (Zg rfl (fun hg=>(Qf Hu (.r rfl) rfl)) ?_)))))))))
    refine Zg rfl (fun hg=>(Qb 0 CD (.when rfl hg) rfl rfl)) (Zg rfl (fun hg=>(QW.call gofn55 (.cons (.when rfl hg) (.cons (.when rfl hg) .nil)) (NG _ _ ha ha'))) (Zg rfl (fun hg=>(QW.not (.when rfl hg))) (Zq rfl (QW.pick_or (.r rfl) (.r rfl)) (Zm rfl (Zg rfl (fun hg=>(Qf WN (.r rfl) rfl)) (Zg rfl (fun hg=>(Qb 1 KU (.when rfl hg) rfl rfl)) (Zg rfl (fun hg=>(by first|exact Qh Uu (.when rfl hg) (TrT.css_length _ _)|exact Qh Uu (.when rfl hg) (AtT.css_length _)|exact QB Uu (.when rfl hg)|exact QW.len_nil Uu (.when rfl hg))) ?_)))))))
    refine Zg rfl (fun hg=>(Qf WN (.r rfl) rfl)) (Zg rfl (fun hg=>(Qb 0 KU (.when rfl hg) rfl rfl)) (Zg rfl (fun hg=>(by first|exact Qh Uu (.when rfl hg) (TrT.css_length _ _)|exact Qh Uu (.when rfl hg) (AtT.css_length _)|exact QB Uu (.when rfl hg)|exact QW.len_nil Uu (.when rfl hg))) ?_))
    refine Zg rfl (fun hg=>(QW.neq (.when rfl hg) (.when rfl hg))) (Zq rfl (QW.pick_or (.r rfl) (.r rfl)) (Zn ?_))
    refine J.cond (.r rfl) (fun c1=>?_) (fun c1=>?_)
    · skip
      simp[TrT.css_length]at c1
      exact Zs (Zq rfl (QW.assign .const) (Zn (J.ret (thenQ.r (Zr [.k,.k] (RetEv.one rfl (REv.tmp rfl lr)) rfl ⟨UX (by rcases c1 with (((h|h)|h)|h)|h;all_goals first|(simp[TrT.same,h];done)|(rw[TrT.same,TrT.sames_len (by omega)];simp)),rfl⟩)))))
    simp[TrT.css_length]at c1
    obtain⟨⟨⟨⟨e1,e2⟩,e3⟩,e4⟩,e5⟩:=c1
    have hl:l.length=l'.length:=by omega
    refine Zk (J.seq (Zs (Zq rfl (QW.assign .const) (Zn (J.block (Ub (ι:=Nat) [2,3] (fun j=>[(5,.c (.int .i64 (j:Int)))]) (fun _ oo=>oo) (fun j=>j≤l.length∧TrT.sames l l'=TrT.sames (l.drop j) (l'.drop j)) (fun j=>l.length-j) 0 (⟨Nat.zero_le _,rfl⟩) (QR (.cons rfl lr (.cons rfl lr (.cons rfl lr .nil))) (Reown.refl _) (fun _ h=>by first|exact h|simp[h])) ?_))))))
    intro j ⟨hj,hs⟩
    refine J.conv (by(try simp only[nl,Qj,Qv,Qw,Qu,QZ,AV.cellsOf,Qc,Qd,Nat.reduceAdd]);rfl) ?_
    refine J.seq (Zs (Zm rfl (Zd WN rfl (Zl 1 KU rfl (Zq rfl (by first|exact Qh Uu (.r rfl) (TrT.css_length _ _)|exact Qh Uu (.r rfl) (AtT.css_length _)|exact QB Uu (.r rfl)|exact QW.len_nil Uu (.r rfl)) ?_)))))
    refine Zq rfl (QW.lss (.r rfl) (.r rfl)) (Zn ?_)
    refine J.cond (.r rfl) (fun c2=>?_) (fun c2=>?_)
    · skip
      have hlt:j<l.length:=by simpa[TrT.css_length]using c2
      have hlt2:j<l'.length:=by omega
      refine Zk (J.seq (J.block (J.seq (Q9 10 mixed (by kernel_rfl) (by kernel_rfl) (by kernel_rfl) rfl ?_))))
      refine .cons [] rfl rfl rfl (.q rfl (Qf WN (.r rfl) rfl)) ?_
      refine .cons [49] rfl rfl rfl (.q rfl (Qb 1 KU (.r rfl) rfl rfl)) ?_
      refine .cons [] rfl rfl rfl (.q rfl (QW.move (.r rfl))) ?_
      refine .cons [50,51] rfl rfl rfl (.q rfl (Qi Uu QJ rfl (.r rfl) (.r rfl) (by first|rfl|omega|(simp;done)) (by first|exact TrT.css_getE _ hlt|exact TrT.css_getE _ hlt2))) ?_
      refine .cons [52] rfl rfl rfl (.q rfl (by first|exact Qn QJ (.r rfl) rfl rfl|exact Qn QJ (.r rfl) (QI (TrT.cs_length _ _) rfl) (TrT.cs_length _ _))) ?_
      refine .cons [] rfl rfl rfl (.q rfl (Qf WN (.r rfl) rfl)) ?_
      refine .cons [54] rfl rfl rfl (.q rfl (Qb 0 KU (.r rfl) rfl rfl)) ?_
      refine .cons [] rfl rfl rfl (.q rfl (QW.move (.r rfl))) ?_
      refine .cons [55,56] rfl rfl rfl (.q rfl (Qi Uu QJ rfl (.r rfl) (.r rfl) (by first|rfl|omega|(simp;done)) (by first|exact TrT.css_getE _ hlt|exact TrT.css_getE _ hlt2))) ?_
      refine .cons [57] rfl rfl rfl (.q rfl (by first|exact Qn QJ (.r rfl) rfl rfl|exact Qn QJ (.r rfl) (QI (TrT.cs_length _ _) rfl) (TrT.cs_length _ _))) ?_
      refine .nil ?_
      refine Zq rfl (QW.call Pd (.cons (.r rfl) (.cons (.r rfl) .nil)) (ih (hwi _ (List.getElem_mem _)) (hwi' _ (List.getElem_mem _)) (TrT.sz_get hn hlt))) (Zq rfl (QW.not (.r rfl)) (Zn ?_))
      refine J.cond (.r rfl) (fun c3=>?_) (fun c3=>?_)
      · skip
        have hno:l[j].same l'[j]=false:=by simpa using c3
        exact Zs (Zq rfl (QW.assign .const) (Zn (J.ret (blkQ.r (thenQ.r (thenQ.r (blkQ.r (thenQ.r (Zr [.k,.k] (RetEv.one rfl (REv.tmp rfl lr)) rfl ⟨UX (by rw[RE hlt hlt2,hno]at hs;simp[TrT.same,hs]),rfl⟩)))))))))
      have hyes:l[j].same l'[j]=true:=by simpa using c3
      refine J.skip (blkQ.n (thenQ.n (Qg (Zm rfl (Zq rfl (QW.add (.r rfl) .const (by first|exact Wj (by first|rfl|omega|(simp;done)) (by omega)|exact YW (by omega)|rfl)) ?_)))))
      refine Za rfl (Zn ?_)
      rw[RE hlt hlt2,hyes,Bool.true_and]at hs
      exact⟨j+1,⟨hlt,hs⟩,by omega,QR (.cons rfl lr (.cons rfl lr (.cons rfl lr .nil))) (Reown.refl _) (fun _ h=>by first|exact h|simp[h])⟩
    have hge:l.length≤j:=by simpa[TrT.css_length]using c2
    refine J.exit (Qy (Qy (Q1 (thenQ.n (Zs (Zq rfl (QW.assign .const) (Zn (J.ret ?_))))))))
    have hz:TrT.sames l l'=true:=by
      rw[hs,List.drop_of_length_le hge,List.drop_of_length_le (by omega),TrT.sames]
    exact Zr [.k,.k] (RetEv.one rfl (REv.tmp rfl lr)) rfl ⟨UX (by simp[TrT.same,hz,e1,e2,e3,e4]),rfl⟩
theorem RM{v u:TrT}{fr fr2:Bool}(hw:v.wf)(hw2:u.wf):Fn Tryz.prog 21 [.agg (v.cs fr),.agg (u.cs fr2)] (.c (.bool (v.same u))):=T4 _ hw hw2 (Nat.le_refl _)

end
section
/- ViewMay, ViewFuel. -/
set_option maxRecDepth 10000
set_option maxHeartbeats 4000000
theorem TY{t:TmT}{st:V}{f:Int}(hw:t.wf)(hs:st.wf)(h64: -9223372036854775808≤f∧f≤9223372036854775807):Fn Tryz.prog 4 [.agg (t.cs false),.agg (st.cs false),.c (.int .i64 f)] (.c (.bool true)):=by
  obtain⟨⟨⟨yt,yk,yx,ya,yl⟩,c⟩,hR⟩:∃r,t.renT st f=r:=⟨_,rfl⟩
  have hyw:=ren_wf hw hs f
  rw[hR]at hyw
  refine AC.of_J Tryz.func4 rfl Tryz.ntmps4 rfl fun w0 A0=>?_
  refine Zs (Qp (.r rfl) rfl fun b3=>Qp (.r rfl) rfl fun b4=>Zq rfl (QW.assign .const) (Zn (J.seq (Zs (Zq rfl (QW.call gofn23 .nil (DR)) (Zq rfl (QW.not (.r rfl)) (Zn ?_)))))))
  refine J.cond (.r rfl) (fun c1=>?_) (fun c1=>?_)
  · skip
    exact absurd c1 (by simp)
    --closed
  skip
  refine Zk (J.seq (QU mixed (Zo 0 1 [] rfl (fun _ ho_=>by first|exact Qe 1 Xz (.r rfl) ho_ rfl rfl|exact Qe 1 Xz (.r rfl) ho_ (Qo (TmT.cs_length _ _) rfl) (TmT.cs_length _ _)) ?_)))
  refine Zf 1 [12] rfl (fun _=>QW.call Dw (.cons (.r rfl) .nil) (Et hw)) (Zo 2 0 [] rfl (fun _ ho_=>by first|exact Qe 0 Ql (.r rfl) ho_ rfl rfl|exact Qe 0 Ql (.r rfl) ho_ (Qo vl rfl) vl) ?_)
  refine Zf 3 [] rfl (fun _=>QW.move (.r rfl)) (Zf 4 [13,14,15] rfl (fun _=>QW.call Pe (.cons (.r rfl) (.cons (.r rfl) (.cons (.r rfl) .nil))) ((hR▸LB (fr:=true) (fr2:=false) hw hs h64))) (Zf 5 [16] rfl (fun _=>QW.move (.r rfl)) (Zf 6 [11] rfl (fun _=>QW.extract (.r rfl) rfl) (Zf 7 [11] rfl (fun _=>QW.extract (.r rfl) rfl) (JX.a 8 rfl (AllocOp.mk z46 rfl) rfl rfl rfl rfl rfl (JX.one 9 [true,false,true,true,true,true,true,true,true] rfl (by kernel_rfl) (by kernel_rfl) rfl rfl (by kernel_rfl) rfl fun bs9_ pe_ ex_=>?_))))))
  refine JL.conv (by(try simp only[Uc,Uk,Q6,QV,Flt.val,Flt.bx,nx,nl,Qj,Qv,Qw,Qu,QZ,AV.cellsOf,Qc,Qd,Nat.reduceAdd]);rfl) ?_
  first|refine Qa 2 QJ (.r rfl) rfl (.r rfl) (by first|rfl|assumption) rfl rfl rfl ?_|refine Qa 2 QJ (.r rfl) rfl (.r rfl) (by first|rfl|assumption) rfl (TrT.cs_length _ _) rfl ?_|refine Qa 2 QJ (.r rfl) rfl (.r rfl) (by first|rfl|assumption) rfl rfl rfl ?_|refine Qa 2 QJ (.r rfl) rfl (.r rfl) (by first|rfl|assumption) (TrT.cs_length _ _) rfl rfl ?_|refine Qa 2 QJ (.r rfl) rfl (.r rfl) (by first|rfl|assumption) (TrT.cs_length _ _) (TrT.cs_length _ _) rfl ?_|refine Qa 2 QJ (.r rfl) rfl (.r rfl) (by first|rfl|assumption) (TrT.cs_length _ _) rfl rfl ?_|refine Qa 2 QJ (.r rfl) rfl (.r rfl) (by first|rfl|assumption) rfl rfl rfl ?_|refine Qa 2 QJ (.r rfl) rfl (.r rfl) (by first|rfl|assumption) rfl (TrT.cs_length _ _) rfl ?_|refine Qa 2 QJ (.r rfl) rfl (.r rfl) (by first|rfl|assumption) rfl rfl rfl ?_|refine JL.store_box 2 QJ (.r rfl) rfl (.r rfl) (by first|rfl|assumption) rfl rfl rfl rfl ?_|refine JL.store_box 2 QJ (.r rfl) rfl (.r rfl) (by first|rfl|assumption) (TrT.cs_length _ _) rfl rfl rfl ?_|refine JL.store_box 2 QJ (.r rfl) rfl (.r rfl) (by first|rfl|assumption) rfl rfl rfl rfl ?_
  refine JL.nil ?_
  refine thenQ.n ⟨[],_,rfl,rfl,rfl,rfl,rfl,QK 3 rfl,trivial,⟨trivial,trivial⟩,?_⟩
  refine JX.conv (S':=[9,8,6,5,4,3,2,1,0]) rfl (by(try simp only[QV]);rfl) (by(try simp only[Uc,Uk,Q6,QV,Flt.val,Flt.bx,nx,nl,Qj,Qv,Qw,Qu,QZ,AV.cellsOf,Qc,Qd,Nat.reduceAdd]);rfl) ?_
  refine Zf 10 [18] rfl (fun _=>QW.assign (.r rfl)) (JX.fin (by kernel_rfl) (by kernel_rfl) fun bs_=>?_)
  refine QX.conv (by(try simp only[Uc,Uk,Q6,QV,Flt.val,Flt.bx,nx,nl,Qj,Qv,Qw,Qu,QZ,AV.cellsOf,Qc,Qd,Nat.reduceAdd]);rfl) ?_
  refine thenQ.n (J.seq (Zs (Zm rfl (Zq rfl (QW.call Dv (.cons (.r rfl) .nil) (LR _)) (Zq rfl (QW.neq (.r rfl) .const) (Zn ?_))))))
  refine J.cond (.r rfl) (fun c2=>?_) (fun c2=>?_)
  · skip
    have hc:¬c=0:=by simpa using c2
    have hn:=ren_no hw hs hR hc
    refine Zs (Zq rfl (by first|exact Qe 2 QJ (.r rfl) rfl rfl rfl|exact Qe 2 QJ (.r rfl) rfl (Qo (TrT.cs_length _ _) rfl) (TrT.cs_length _ _)|exact Qe 2 QJ (.r rfl) rfl (Qo rfl rfl) rfl) ?_)
    exact Zq rfl (QW.build (idx:=[]) T9 z46 rfl .nil rfl rfl rfl rfl) (Zq rfl (QW.call Pd (.cons (.r rfl) (.cons (Ev.le (.r rfl) (.aggL (.cons lr (.cons lr (.cons lr (.cons (.nil true false _) (.cons (.nil true false _) .nil))))))) .nil)) (RM (fr:=true) (fr2:=true) (u:=.nil) hyw TrT.wf_nil)) (Za rfl (Zn (J.ret (thenQ.r (Zr [.k,.k,.k] (RetEv.one rfl (REv.tmp rfl lr)) rfl ⟨UX (by rw[hn];first|exact TrT.same_refl _|simp[TrT.same_refl]),rfl⟩))))))
  obtain rfl:c=0:=by simpa using c2
  obtain⟨hy1,hy2⟩:=Sr hw hs hR
  refine Zk (Zs (Zq rfl (by first|exact Qe 2 QJ (.r rfl) rfl rfl rfl|exact Qe 2 QJ (.r rfl) rfl (Qo (TrT.cs_length _ _) rfl) (TrT.cs_length _ _)|exact Qe 2 QJ (.r rfl) rfl (Qo rfl rfl) rfl) ?_))
  refine Zq rfl (QW.call Pc (.cons (.r rfl) .nil) (MS hyw)) (Zq rfl (QW.call Dv (.cons (.r rfl) .nil) (LR _)) (Zq rfl (QW.eql (.r rfl) .const) (Zm rfl (Zg rfl (fun hg=>(Qf KA (.r rfl) rfl)) (Zg rfl (fun hg=>(Qb 2 UY (.when rfl hg) rfl rfl)) (Zg rfl (fun hg=>(Qf Pk (.r rfl) rfl)) (Zg rfl (fun hg=>(Qb 1 UY (.when rfl hg) rfl TmT.at1)) (Zg rfl (fun hg=>(WG (.when rfl hg) (.when rfl hg))) (Zq rfl (QW.pick_and (.r rfl) (.r rfl)) ?_)))))))))
  exact Za rfl (Zn (J.ret (Zr [.k,.k,.k] (RetEv.one rfl (REv.tmp rfl lr)) rfl ⟨UX (by first|(rw[hy1];simp;exact hy2)|(simp[hy1];exact hy2)),rfl⟩)))

end
end Go.Proofs.YtammalmlbabpbaaGreat.J
