/- Texts of this proof, laid together. -/
import Derived.Test.YtammalmlbabpbaaGreatX4RViewFuel
set_option linter.unusedVariables false
set_option linter.unusedSimpArgs false
namespace Go.Proofs.YtammalmlbabpbaaGreat.J
open Go Go.RowKit
section
/- Walks: the template of a list, texts; is the renderer alive? -/
set_option maxRecDepth 10000
set_option maxHeartbeats 4000000
theorem Fd:Fn Tryz.prog 25 [] (.agg (HX.cs true)):=by
  refine AC.of_J Tryz.func25 rfl Tryz.ntmps25 rfl fun w0 A0=>?_
  refine Zs (JL.alloc Sg rfl rfl fun b0=>Zn (Zs (Zq rfl (QW.build (idx:=[0]) pl25 z25 rfl (.cons .const .nil) rfl rfl rfl rfl) (Zq rfl (QW.buildSlice (xs:=[eS5.cs true]) (idx:=[0]) sl23 el25 z25 rfl (.cons (Ev.le (z:=.agg (eS5.cs true)) (.r rfl) (.aggL (.cons lr (.cons lr (.cons lr (.cons (.nil true false _) (.nil))))))) .nil) rfl rfl rfl rfl rfl rfl rfl rfl rfl) (Zq rfl (QW.build (idx:=[0,2,3]) pl25 z25 rfl (.cons .const (.cons .const (.cons (.r rfl) .nil))) rfl rfl rfl rfl) (JL.alloc z25 rfl rfl fun b1=>?_))))))
  first|refine Qa 0 Hh (.r rfl) rfl (.r rfl) (by first|rfl|assumption) rfl rfl rfl ?_|refine Qa 0 Hh (.r rfl) rfl (.r rfl) (by first|rfl|assumption) rfl xl rfl ?_|refine Qa 0 Hh (.r rfl) rfl (.r rfl) (by first|rfl|assumption) xl rfl rfl ?_|refine Qa 0 Hh (.r rfl) rfl (.r rfl) (by first|rfl|assumption) xl xl rfl ?_|refine JL.store_box 0 Hh (.r rfl) rfl (.r rfl) (by first|rfl|assumption) rfl rfl rfl rfl ?_|refine JL.store_box 0 Hh (.r rfl) rfl (.r rfl) (by first|rfl|assumption) xl rfl rfl rfl ?_
  refine Zn (Zs (Zq rfl (QW.build (idx:=[0]) pl25 z25 rfl (.cons .const .nil) rfl rfl rfl rfl) (Zq rfl (QW.build (idx:=[0,3]) SD Sg rfl (.cons .const (.cons (.r rfl) .nil)) rfl rfl rfl rfl) (Zq rfl (QW.buildSlice (xs:=[txP.cs true]) (idx:=[0]) LM el29 Sg rfl (.cons (Ev.le (z:=.agg (txP.cs true)) (.r rfl) (.aggL (.cons lr (.cons lr (.cons lr (.cons lr (.cons lr (.cons (.nil true false _) (.cons lr (.cons lr (.cons lr (.cons (.nil true false _) (.cons (.nil true false _) (.cons (.nil true false _) (.nil))))))))))))))) .nil) rfl rfl rfl rfl rfl rfl rfl rfl rfl) (Zq rfl (QW.build (idx:=[0,1,5]) SD Sg rfl (.cons .const (.cons .const (.cons (.r rfl) .nil))) rfl rfl rfl rfl) (JL.alloc Sg rfl rfl fun b2=>?_))))))
  first|refine Qa 0 YP (.r rfl) rfl (.r rfl) (by first|rfl|assumption) rfl rfl rfl ?_|refine Qa 0 YP (.r rfl) rfl (.r rfl) (by first|rfl|assumption) rfl (TmT.cs_length _ _) rfl ?_|refine Qa 0 YP (.r rfl) rfl (.r rfl) (by first|rfl|assumption) (TmT.cs_length _ _) rfl rfl ?_|refine Qa 0 YP (.r rfl) rfl (.r rfl) (by first|rfl|assumption) (TmT.cs_length _ _) (TmT.cs_length _ _) rfl ?_|refine JL.store_box 0 YP (.r rfl) rfl (.r rfl) (by first|rfl|assumption) rfl rfl rfl rfl ?_|refine JL.store_box 0 YP (.r rfl) rfl (.r rfl) (by first|rfl|assumption) (TmT.cs_length _ _) rfl rfl rfl ?_
  refine Zn (Zs (Zq rfl (by first|exact Qd 1 Hh (.r rfl) rfl rfl rfl|exact Qd 1 Hh (.r rfl) rfl (Qm xl rfl) xl) ?_))
  refine Zq rfl (by first|exact Qd 0 YP (.r rfl) rfl rfl rfl|exact Qd 0 YP (.r rfl) rfl (Qm (TmT.cs_length _ _) rfl) (TmT.cs_length _ _)) ?_
  refine Zq rfl (QW.buildSlice (xs:=[liP.cs true]) (idx:=[0]) LM el29 Sg rfl (.cons (Ev.le (z:=.agg (liP.cs true)) (.r rfl) (.aggL (.cons lr (.cons lr (.cons lr (.cons lr (.cons lr (.cons (.nil true false _) (.cons lr (.cons lr (.cons lr (.cons (.nil true false _) (.cons (.nil true false _) (.cons (Yl (TmT.css_sz true [txP])) (.nil))))))))))))))) .nil) rfl rfl rfl rfl rfl rfl rfl rfl rfl) (Zq rfl (QW.build (idx:=[0,3,5]) SD Sg rfl (.cons .const (.cons (.r rfl) (.cons (.r rfl) .nil))) rfl rfl rfl rfl) (Zq rfl (QW.buildSlice (xs:=[eaP.cs true]) (idx:=[0]) LM el29 Sg rfl (.cons (Ev.le (z:=.agg (eaP.cs true)) (.r rfl) (.aggL (.cons lr (.cons lr (.cons lr (.cons lr (.cons lr (.cons (.nil true false _) (.cons lr (.cons lr (.cons lr (.cons (Yl (EX.css_sz true [eS5])) (.cons (.nil true false _) (.cons (Yl (TmT.css_sz true [liP])) (.nil))))))))))))))) .nil) rfl rfl rfl rfl rfl rfl rfl rfl rfl) (Zq rfl (QW.build (idx:=[0,1,5]) SD Sg rfl (.cons .const (.cons .const (.cons (.r rfl) .nil))) rfl rfl rfl rfl) ?_)))
  first|refine Qa 2 YP (.r rfl) rfl (.r rfl) (by first|rfl|assumption) rfl rfl rfl ?_|refine Qa 2 YP (.r rfl) rfl (.r rfl) (by first|rfl|assumption) rfl (TmT.cs_length _ _) rfl ?_|refine Qa 2 YP (.r rfl) rfl (.r rfl) (by first|rfl|assumption) (TmT.cs_length _ _) rfl rfl ?_|refine Qa 2 YP (.r rfl) rfl (.r rfl) (by first|rfl|assumption) (TmT.cs_length _ _) (TmT.cs_length _ _) rfl ?_|refine JL.store_box 2 YP (.r rfl) rfl (.r rfl) (by first|rfl|assumption) rfl rfl rfl rfl ?_|refine JL.store_box 2 YP (.r rfl) rfl (.r rfl) (by first|rfl|assumption) (TmT.cs_length _ _) rfl rfl rfl ?_
  exact Zn (J.ret (Zr [.k,.k,.k] (RetEv.one rfl (by first|exact REv.cell 2 YP rfl rfl rfl rfl (.aggL (.cons lr (.cons lr (.cons lr (.cons lr (.cons lr (.cons (.nil true false _) (.cons lr (.cons lr (.cons lr (.cons (.nil true false _) (.cons (.nil true false _) (.cons (Yl (TmT.css_sz true [eaP])) (.nil))))))))))))))|exact REv.cell 2 YP rfl rfl (Qm (TmT.cs_length _ _) rfl) (TmT.cs_length _ _) (.aggL (.cons lr (.cons lr (.cons lr (.cons lr (.cons lr (.cons (.nil true false _) (.cons lr (.cons lr (.cons lr (.cons (.nil true false _) (.cons (.nil true false _) (.cons (Yl (TmT.css_sz true [eaP])) (.nil)))))))))))))))) rfl ⟨rfl,rfl⟩))
theorem T7{fr c:Bool}{l:List QM}(hl:l.length≤16):Fn Tryz.prog 26 [.sl fr c W4 (Q2 l)] (.agg ((tV l).cs true)):=by
  refine AC.of_J Tryz.func26 rfl Tryz.ntmps26 rfl fun w0 A0=>?_
  refine Zs (JL.alloc Yf rfl rfl fun b2=>Zn (Zs (Zq rfl (QW.build (idx:=[0]) Kn Yf rfl (.cons .const .nil) rfl rfl rfl rfl) (JL.alloc Yf rfl rfl fun b3=>?_))))
  first|refine Qa 0 Ql (.r rfl) rfl (.r rfl) (by first|rfl|assumption) rfl rfl rfl ?_|refine Qa 0 Ql (.r rfl) rfl (.r rfl) (by first|rfl|assumption) rfl vl rfl ?_|refine Qa 0 Ql (.r rfl) rfl (.r rfl) (by first|rfl|assumption) vl rfl rfl ?_|refine Qa 0 Ql (.r rfl) rfl (.r rfl) (by first|rfl|assumption) vl vl rfl ?_|refine JL.store_box 0 Ql (.r rfl) rfl (.r rfl) (by first|rfl|assumption) rfl rfl rfl rfl ?_|refine JL.store_box 0 Ql (.r rfl) rfl (.r rfl) (by first|rfl|assumption) vl rfl rfl rfl ?_
  refine Zn (J.seq (Zs (Zq rfl (QW.assign .const) (Zn (J.block (J.reown (Ur eV _) (Ub (ι:=Nat×Value) [0,2,3] (fun⟨i,v⟩=>[(4,.c (.int .i64 (i:Int)))]) (fun⟨i,v⟩ oo=>List.set (List.set oo 2 (.arr v eV (V.css true ((l.take i).map V.tx)))) 0 (.box b3 [.c (.int .i64 4),.c (.int .u64 0),.c (Q4 []),.c (.slice none 0 0),.c v])) (fun⟨i,v⟩=>i≤l.length) (fun⟨i,v⟩=>l.length-i) ⟨0,.slice none 0 0⟩ (Nat.zero_le _) (QT (.cons rfl lr (.cons rfl lr (.cons rfl lr (.cons rfl lr .nil)))) (Reown.refl _) (fun _ h=>by first|exact h|simp[h])) ?_)))))))
  intro⟨i,v⟩ hi
  refine J.conv (by(try simp only[nl,Qj,Qv,Qw,Qu,QY,AV.cellsOf,Qb,Qc,Nat.reduceAdd]);rfl) ?_
  refine J.seq (Zs (Zm rfl (Zm rfl (Zq rfl (by first|exact Qh UH (.r rfl) wl|exact Qh UH (.r rfl) (TmT.css_length _ _)|exact Qh UH (.r rfl) (SetT.css_length _ _)|exact Qh UH (.r rfl) (TrT.css_length _ _)|exact Qh UH (.r rfl) (AtT.css_length _)|exact QC UH (.r rfl)|exact QW.len_nil UH (.r rfl)) ?_))))
  refine Zq rfl (QW.lss (.r rfl) (.r rfl)) (Zn ?_)
  refine J.cond (.r rfl) (fun c1=>?_) (fun c1=>?_)
  · skip
    have hlt:i<l.length:=by simpa[Q2]using c1
    refine Zk (J.seq (J.block (QO mixed (Zf 0 [] rfl (fun _=>Qf Uv (.r rfl) rfl) (Zo 1 0 [12] rfl (fun _ ho_=>Qe 0 WL (.r rfl) ho_ rfl) (Zf 2 [] rfl (fun _=>QW.move (.r rfl)) (Zf 3 [] rfl (fun _=>QW.move (.r rfl)) (Zf 4 [14,15] rfl (fun _=>Qi UH U0 rfl (.r rfl) (.r rfl) (by first|rfl|omega|(simp;done)) (by first|exact Xq hlt|(simp[Q2,hlt]))) ?_))))))))
    refine Zf 5 [16] rfl (fun _=>QB U0 (.r rfl) rfl) (Zf 6 [17] rfl (fun _=>QW.build (idx:=[0,2]) Kn Yf rfl (.cons .const (.cons (.r rfl) .nil)) rfl rfl rfl rfl) (Zf 7 [18] rfl (fun _=>QW.buildSlice (xs:=[(V.tx l[i]).cs true]) (idx:=[0]) QU GX Yf rfl (.cons (Ev.le (z:=.agg ((V.tx l[i]).cs true)) (.r rfl) (.aggL (.cons lr (.cons lr (.cons lr (.cons (.nil true false _) (.cons (.nil true false _) (.nil)))))))) .nil) rfl rfl rfl rfl rfl rfl rfl rfl rfl) (JX.one 8 [true,true,true,true,true,true,true,true] rfl (by kernel_rfl) (by kernel_rfl) rfl rfl (by kernel_rfl) rfl fun bs8_ pe_ ex_=>?_)))
    refine JL.conv (by(try simp only[Uc,Ui,Q5,QR,Flt.val,Flt.bx,nx,nl,Qj,Qv,Qw,Qu,QY,AV.cellsOf,Qb,Qc,Nat.reduceAdd]);rfl) ?_
    refine JL.append 2 QU GX rfl (.r rfl) rfl (Ww QU (.r rfl)) (by rw[V.css_length,List.length_map,List.length_take];show(_+1)*80≤_;unfold Qr;omega) rfl fun v20=>?_
    refine JL.nil ?_
    refine thenQ.n ⟨[_],_,rfl,rfl,rfl,rfl,rfl,QK 3 rfl,⟨rfl,rfl⟩,trivial,?_⟩
    refine JX.conv (S':=[8,7,6,5,4,3,2,1,0]) rfl (by(try simp only[QR]);rfl) (by(try simp only[Uc,Ui,Q5,QR,Flt.val,Flt.bx,nx,nl,Qj,Qv,Qw,Qu,QY,AV.cellsOf,Qb,Qc,Nat.reduceAdd]);rfl) ?_
    refine Zf 9 [] rfl (fun _=>Qf Uv (.r rfl) rfl) (JX.one 10 [true] rfl (by kernel_rfl) (by kernel_rfl) rfl rfl (by kernel_rfl) rfl fun bs10_ pe_ ex_=>?_)
    refine JL.conv (by(try simp only[Uc,Ui,Q5,QR,Flt.val,Flt.bx,nx,nl,Qj,Qv,Qw,Qu,QY,AV.cellsOf,Qb,Qc,Nat.reduceAdd]);rfl) ?_
    refine JL.isSlice 2 rfl fun hs1=>JL.store_box 0 WL (.r rfl) rfl (.r rfl) (by first|rfl|assumption) rfl rfl rfl rfl ?_
    refine JL.nil ?_
    refine thenQ.n ⟨[],_,rfl,rfl,rfl,rfl,rfl,QK 3 rfl,trivial,trivial,?_⟩
    refine JX.conv (S':=[10,9,8,7,6,5,4,3,2,1,0]) rfl (by(try simp only[QR]);rfl) (by(try simp only[Uc,Ui,Q5,QR,Flt.val,Flt.bx,nx,nl,Qj,Qv,Qw,Qu,QY,AV.cellsOf,Qb,Qc,Nat.reduceAdd]);rfl) ?_
    refine JX.fin (by kernel_rfl) (by kernel_rfl) fun bs_=>?_
    refine QX.conv (by(try simp only[Uc,Ui,Q5,QR,Flt.val,Flt.bx,nx,nl,Qj,Qv,Qw,Qu,QY,AV.cellsOf,Qb,Qc,Nat.reduceAdd]);rfl) ?_
    refine blkQ.n (thenQ.n (Qg (Zm rfl (Zq rfl (QW.add (.r rfl) .const (by first|exact Wl (by first|rfl|omega|(simp;done)) (by omega)|exact YZ (by omega)|rfl)) ?_))))
    refine Za rfl (Zn ?_)
    rw[show V.css true ((l.take i).map V.tx)++[(V.tx l[i]).cs true]=V.css true ((l.take (i+1)).map V.tx) by rw[List.take_succ_eq_append_getElem hlt,List.map_append,V.css_eq,V.css_eq,List.map_append];rfl]
    exact⟨⟨i+1,v20⟩,hlt,by show l.length-(i+1)<l.length-i;omega,QT (.cons rfl lr (.cons rfl lr (.cons rfl lr (.cons rfl lr .nil)))) (Reown.refl _) (fun _ h=>by first|exact h|simp[h])⟩
  obtain rfl:i=l.length:=by(simp[Q2]at c1;omega)
  rw[List.take_length]
  refine J.exit (Qz (Qz (Q1 (thenQ.n (J.seq (J.closeArr 2 rfl (by rw[V.css_length,List.length_map];show _*80≤_;unfold Qr;omega) rfl (fun _ h=>by cases h) ?_))))))
  refine Qg (Zq rfl (QW.buildSlice (idx:=[0]) (xs:=[[AV.c (Q4 [108])]]) (zs:=[AV.c (Q4 [108])]) UH el9 z9 rfl (.cons .const .nil) rfl rfl rfl rfl rfl rfl rfl rfl rfl) (Zq rfl (by first|exact Qd 0 Ql (.r rfl) rfl rfl rfl|exact Qd 0 Ql (.r rfl) rfl (Qm vl rfl) vl) ?_))
  refine Zq rfl (QW.buildSlice (xs:=[(lV l).cs true]) (idx:=[0]) QU GX Yf rfl (.cons (Ev.le (z:=.agg ((lV l).cs true)) (.r rfl) (.aggL (.cons lr (.cons lr (.cons lr (.cons (.nil true false _) (.cons (.fact (by simp) (.refl _)) (.nil)))))))) .nil) rfl rfl rfl rfl rfl rfl rfl rfl rfl) ?_
  refine Zq rfl (QW.build (idx:=[0,3,4]) Kn Yf rfl (.cons .const (.cons (.r rfl) (.cons (.r rfl) .nil))) rfl rfl rfl rfl) ?_
  first|refine Qa 1 Ql (.r rfl) rfl (.r rfl) (by first|rfl|assumption) rfl rfl rfl ?_|refine Qa 1 Ql (.r rfl) rfl (.r rfl) (by first|rfl|assumption) rfl vl rfl ?_|refine Qa 1 Ql (.r rfl) rfl (.r rfl) (by first|rfl|assumption) vl rfl rfl ?_|refine Qa 1 Ql (.r rfl) rfl (.r rfl) (by first|rfl|assumption) vl vl rfl ?_|refine JL.store_box 1 Ql (.r rfl) rfl (.r rfl) (by first|rfl|assumption) rfl rfl rfl rfl ?_|refine JL.store_box 1 Ql (.r rfl) rfl (.r rfl) (by first|rfl|assumption) vl rfl rfl rfl ?_
  exact Zn (J.ret (Zr [.k,.k] (RetEv.one rfl (by first|exact REv.cell 1 Ql rfl rfl rfl rfl (.aggL (.cons lr (.cons lr (.cons lr (.cons (Yl (fun y hy=>by rw[List.mem_singleton.1 hy];rfl)) (.cons (Yl (V.css_sz true [lV l])) (.nil)))))))|exact REv.cell 1 Ql rfl rfl (Qm vl rfl) vl (.aggL (.cons lr (.cons lr (.cons lr (.cons (Yl (fun y hy=>by rw[List.mem_singleton.1 hy];rfl)) (.cons (Yl (V.css_sz true [lV l])) (.nil))))))))) rfl ⟨rfl,rfl⟩))
theorem GG(n:Int):Fn Tryz.prog 18 [.c (.int .i64 n)] (.c (.int .i64 n)):=by
  refine AC.of_J Tryz.func18 rfl Tryz.ntmps18 rfl fun w0 A0=>?_
  exact Zs (Zq rfl (QW.assign .const) (Zn (Zs (Zm rfl (Za rfl (Zn (J.ret (Zr [] (RetEv.one rfl (REv.tmp rfl lr)) rfl ⟨rfl,rfl⟩))))))))
theorem RV{l:List QM}{f:Int}{fr fr2:Bool}(h:l.length≤16)(h2:∀x∈l,x.length≤128)(hf:3+2*l.length≤f)(hf2:f≤4096):Fn Tryz.prog 14 [.agg (HX.cs fr),.agg ((tV l).cs fr2),.c (.int .i64 f)] (HV (ulT l,0)):=by
  have:=XV (fr:=fr) (fr2:=fr2) Ta (tV_wf h h2) (f:=f) ⟨by omega,by omega⟩
  rwa [B6 h h2 hf hf2]at this
theorem DX:Fn Tryz.prog 23 [] (.c (.bool true)):=by
  refine AC.of_J Tryz.func23 rfl Tryz.ntmps23 rfl fun w0 A0=>?_
  refine Zs (Zq rfl (QW.assign .const) (Zn (Zs (Zq rfl (QW.call gofn25 .nil (Fd)) (Zq rfl (QW.call L6 (.cons (.r rfl) .nil) (Lj (t:=HX) Ta)) (Zq rfl (QW.buildSlice (idx:=[0,1]) UH el9 z9 rfl (.cons .const (.cons .const .nil)) rfl rfl rfl rfl rfl rfl rfl rfl rfl) (Zq rfl (QW.call gofn26 (.cons (.r rfl) .nil) (T7 (l:=[[97],[98]]) (by decide))) ?_)))))))
  refine Zq rfl (QW.call N7 (.cons (.r rfl) (.cons (.r rfl) (.cons .const .nil))) (RV (l:=[[97],[98]]) (fr:=true) (fr2:=true) (f:=99) (by decide) (by decide) (by decide) (by decide))) ?_
  refine Zm rfl (Zx rfl (Zx rfl (JL.alloc z46 rfl rfl fun b1=>?_)))
  first|refine Qa 0 QE (.r rfl) rfl (.r rfl) (by first|rfl|assumption) rfl rfl rfl ?_|refine Qa 0 QE (.r rfl) rfl (.r rfl) (by first|rfl|assumption) rfl (TrT.cs_length _ _) rfl ?_|refine Qa 0 QE (.r rfl) rfl (.r rfl) (by first|rfl|assumption) rfl rfl rfl ?_|refine Qa 0 QE (.r rfl) rfl (.r rfl) (by first|rfl|assumption) (TrT.cs_length _ _) rfl rfl ?_|refine Qa 0 QE (.r rfl) rfl (.r rfl) (by first|rfl|assumption) (TrT.cs_length _ _) (TrT.cs_length _ _) rfl ?_|refine Qa 0 QE (.r rfl) rfl (.r rfl) (by first|rfl|assumption) (TrT.cs_length _ _) rfl rfl ?_|refine Qa 0 QE (.r rfl) rfl (.r rfl) (by first|rfl|assumption) rfl rfl rfl ?_|refine Qa 0 QE (.r rfl) rfl (.r rfl) (by first|rfl|assumption) rfl (TrT.cs_length _ _) rfl ?_|refine Qa 0 QE (.r rfl) rfl (.r rfl) (by first|rfl|assumption) rfl rfl rfl ?_|refine JL.store_box 0 QE (.r rfl) rfl (.r rfl) (by first|rfl|assumption) rfl rfl rfl rfl ?_|refine JL.store_box 0 QE (.r rfl) rfl (.r rfl) (by first|rfl|assumption) (TrT.cs_length _ _) rfl rfl rfl ?_|refine JL.store_box 0 QE (.r rfl) rfl (.r rfl) (by first|rfl|assumption) rfl rfl rfl rfl ?_
  refine Za rfl (Zn (Zs (Zm rfl (Zq rfl (QW.call N5 (.cons (.r rfl) .nil) (GG _)) (Zq rfl (QW.eql (.r rfl) .const) (Zm rfl (Zg rfl (fun hg=>(Qf Gr (.r rfl) rfl)) (Zg rfl (fun hg=>(Qe 0 U0 (.when rfl hg) rfl rfl)) (Zg rfl (fun hg=>(WW (.when rfl hg) .const)) ?_)))))))))
  refine Zq rfl (QW.pick_and (.r rfl) (.r rfl)) (Zm rfl (Zg rfl (fun hg=>(Qf WO (.r rfl) rfl)) (Zg rfl (fun hg=>(Qe 0 KY (.when rfl hg) rfl rfl)) (Zg rfl (fun hg=>(by first|exact Qh Uw (.when rfl hg) wl|exact Qh Uw (.when rfl hg) (TmT.css_length _ _)|exact Qh Uw (.when rfl hg) (SetT.css_length _ _)|exact Qh Uw (.when rfl hg) (TrT.css_length _ _)|exact Qh Uw (.when rfl hg) (AtT.css_length _)|exact QC Uw (.when rfl hg)|exact QW.len_nil Uw (.when rfl hg))) ?_))))
  refine Zg rfl (fun hg=>(QW.eql (.when rfl hg) .const)) (Zq rfl (QW.pick_and (.r rfl) (.r rfl)) (Zm rfl (Zg rfl (fun hg=>(Qf WO (.r rfl) rfl)) (Zg rfl (fun hg=>(Qe 0 KY (.when rfl hg) rfl rfl)) (Zg rfl (fun hg=>(Qi Uw QE rfl (.when rfl hg) .const (by first|rfl|omega|(simp;done)) (by rfl))) ?_)))))
  refine Zg rfl (fun hg=>(QN Gr (.when rfl hg) rfl)) (Zg rfl (fun hg=>(QB U0 (.when rfl hg) rfl)) (Zg rfl (fun hg=>(WW (.when rfl hg) .const)) (Zq rfl (QW.pick_and (.r rfl) (.r rfl)) (Zm rfl (Zg rfl (fun hg=>(Qf WO (.r rfl) rfl)) (Zg rfl (fun hg=>(Qe 0 KY (.when rfl hg) rfl rfl)) (Zg rfl (fun hg=>(Qi Uw QE rfl (.when rfl hg) .const (by first|rfl|omega|(simp;done)) (by rfl))) ?_)))))))
  refine Zg rfl (fun hg=>(QN WO (.when rfl hg) rfl)) (Zg rfl (fun hg=>(QB KY (.when rfl hg) rfl)) (Zg rfl (fun hg=>(by first|exact Qh Uw (.when rfl hg) wl|exact Qh Uw (.when rfl hg) (TmT.css_length _ _)|exact Qh Uw (.when rfl hg) (SetT.css_length _ _)|exact Qh Uw (.when rfl hg) (TrT.css_length _ _)|exact Qh Uw (.when rfl hg) (AtT.css_length _)|exact QC Uw (.when rfl hg)|exact QW.len_nil Uw (.when rfl hg))) ?_))
  refine Zg rfl (fun hg=>(QW.eql (.when rfl hg) .const)) (Zq rfl (QW.pick_and (.r rfl) (.r rfl)) (Zm rfl (Zg rfl (fun hg=>(Qf WO (.r rfl) rfl)) (Zg rfl (fun hg=>(Qe 0 KY (.when rfl hg) rfl rfl)) (Zg rfl (fun hg=>(Qi Uw QE rfl (.when rfl hg) .const (by first|rfl|omega|(simp;done)) (by rfl))) ?_)))))
  refine Zg rfl (fun hg=>(QN WO (.when rfl hg) rfl)) (Zg rfl (fun hg=>(QB KY (.when rfl hg) rfl)) (Zg rfl (fun hg=>(Qi Uw QE rfl (.when rfl hg) .const (by first|rfl|omega|(simp;done)) (by rfl))) ?_))
  exact Zg rfl (fun hg=>(QN N8 (.when rfl hg) rfl)) (Zg rfl (fun hg=>(QB U0 (.when rfl hg) rfl)) (Zg rfl (fun hg=>(WW (.when rfl hg) .const)) (Zq rfl (QW.pick_and (.r rfl) (.r rfl)) (Za rfl (Zn (J.ret (Zr [.k] (RetEv.one rfl (REv.tmp rfl lr)) rfl ⟨U1 (by first|decide|simp|rfl),rfl⟩)))))))

end
section
/- Laws of the tree of a state, in plain Lean. -/
theorem Ho{t:TmT}{st:V}(hw:t.wf)(hs:st.wf)(f:Int):(∃c,¬c=0∧t.renT st f=(.nil,c))∨
    ∃y g,t.err=0∧st.err=0∧(0≤f∧f≤4096)∧t.elE ⟨st,.nil,.nil⟩ f=.ok (y,g)∧y.err=0∧t.renT st f=(y,0)∧y.wf∧1+g≤f∧0≤g:=by
  by_cases h1:t.err=0
  · by_cases h2:st.err=0
    · by_cases h3:f<0∨4096<f
      · exact .inl ⟨4,by decide,(if_neg (fun hc=>hc h1)).trans ((if_neg (fun hc=>hc h2)).trans (if_pos h3))⟩
      · have hr:t.renT st f=t.treeT st f:=(if_neg (fun hc=>hc h1)).trans ((if_neg (fun hc=>hc h2)).trans (if_neg h3))
        cases he:t.elE ⟨st,.nil,.nil⟩ f with
        |error c=>exact .inl ⟨c,FS _ _ _ (TmT.fine_of h1) c he,by rw[hr];unfold TmT.treeT;rw[he]⟩
        |ok p=>
          obtain⟨y,g⟩:=p
          obtain⟨g1,g2,g3⟩:=La (TmT.fine_of h1) hw (H9 h1) ⟨⟨hs,h2⟩,W5,W5⟩ (by omega) he
          by_cases h4:y.err=0
          · exact .inr ⟨y,g,h1,h2,⟨by omega,by omega⟩,rfl,h4,by rw[hr];unfold TmT.treeT;rw[he];exact if_neg (fun hc=>hc h4),g1,g2,g3⟩
          · exact .inl ⟨y.err,h4,by rw[hr];unfold TmT.treeT;rw[he];exact if_pos h4⟩
    · exact .inl ⟨st.err,h2,(if_neg (fun hc=>hc h1)).trans (if_pos h2)⟩
  · exact .inl ⟨t.err,h1,if_pos h1⟩
theorem Dc{t:TmT}{st:V}(hw:t.wf)(hs:st.wf)(f:Int):(t.renT st f).1.wf:=by
  rcases Ho hw hs f with ⟨c,-,h⟩|⟨y,g,-,-,-,-,-,h,h2,-⟩
  · rw[h];exact TrT.wf_nil
  · rw[h];exact h2
theorem BB{t:TmT}{st:V}(hw:t.wf)(hs:st.wf){f:Int}{y:TrT}(h:t.renT st f=(y,0)):t.renT st 4096=(y,0):=by
  rcases Ho hw hs f with ⟨d,hd,h2⟩|⟨z,g,k1,k2,k3,he,h4,h2,-,-,hg⟩
  · rw[h]at h2;cases h2;exact absurd rfl hd
  · rw[h]at h2;cases h2
    have h5:=((FR t ⟨st,.nil,.nil⟩ f y g he).2 (4096-f)).1 (by omega)
    rw[show f+(4096-f)=4096 by omega]at h5
    refine(if_neg (fun hc=>hc k1)).trans ((if_neg (fun hc=>hc k2)).trans ((if_neg (by decide)).trans ?_))
    unfold TmT.treeT
    rw[h5]
    exact if_neg (fun hc=>hc h4)
theorem Bz{t:TmT}{st:V}(hw:t.wf)(hs:st.wf){y:TrT}{c:Int}(h:t.renT st 0=(y,c)):¬c=0∧y=.nil:=by
  rcases Ho hw hs 0 with ⟨d,hd,h2⟩|⟨z,g,-,-,-,-,-,-,-,h5,h6⟩
  · rw[h]at h2;cases h2;exact⟨hd,rfl⟩
  · omega

end
section
/- Walks: are two trees one, in all fields? -/
set_option maxRecDepth 10000
set_option maxHeartbeats 4000000
theorem TE{a b:List AtT}{k:Nat}(ha:k<a.length)(hb:k<b.length):AtT.sames (a.drop k) (b.drop k)=(a[k].same b[k]&&AtT.sames (a.drop (k+1)) (b.drop (k+1))):=by
  rw[List.drop_eq_getElem_cons ha,List.drop_eq_getElem_cons hb,AtT.sames]
theorem RM{a b:List TrT}{k:Nat}(ha:k<a.length)(hb:k<b.length):TrT.sames (a.drop k) (b.drop k)=(a[k].same b[k]&&TrT.sames (a.drop (k+1)) (b.drop (k+1))):=by
  rw[List.drop_eq_getElem_cons ha,List.drop_eq_getElem_cons hb,TrT.sames]
theorem NM{fr fr2:Bool}(a b:List AtT)(ha:a.length*32≤Qr)(hb:b.length*32≤Qr):Fn Tryz.prog 55 [.sl fr false DP (AtT.css a),.sl fr2 false DP (AtT.css b)] (.c (.bool (AtT.sames a b))):=by
  have h1:a.length≤9223372036854775805:=by unfold Qr at ha;omega
  have h2:b.length≤9223372036854775805:=by unfold Qr at hb;omega
  refine AC.of_J Tryz.func55 rfl Tryz.ntmps55 rfl fun w0 A0=>?_
  refine Zs (Zq rfl (QW.assign .const) (Zn (J.seq (Zs (Zm rfl (Zq rfl (by first|exact Qh WN (.r rfl) (TrT.css_length _ _)|exact Qh WN (.r rfl) (AtT.css_length _)|exact QC WN (.r rfl)|exact QW.len_nil WN (.r rfl)) ?_))))))
  refine Zm rfl (Zq rfl (by first|exact Qh WN (.r rfl) (TrT.css_length _ _)|exact Qh WN (.r rfl) (AtT.css_length _)|exact QC WN (.r rfl)|exact QW.len_nil WN (.r rfl)) ?_)
  refine Zq rfl (QW.neq (.r rfl) (.r rfl)) (Zn ?_)
  refine J.cond (.r rfl) (fun c1=>?_) (fun c1=>?_)
  · skip
    have hne:¬a.length=b.length:=by(simp[AtT.css_length]at c1;omega)
    exact Zs (Zq rfl (QW.assign .const) (Zn (J.ret (thenQ.r (Zr [] (RetEv.one rfl (REv.tmp rfl lr)) rfl ⟨U1 (by rw[AtT.sames_len hne]),rfl⟩)))))
  have hl:a.length=b.length:=by(simp[AtT.css_length]at c1;omega)
  refine Zk (J.seq (Zs (Zq rfl (QW.assign .const) (Zn (J.block (Ub (ι:=Nat) [0,1] (fun k=>[(5,.c (.int .i64 (k:Int)))]) (fun _ oo=>oo) (fun k=>k≤a.length∧AtT.sames a b=AtT.sames (a.drop k) (b.drop k)) (fun k=>a.length-k) 0 (⟨Nat.zero_le _,rfl⟩) (QT (.cons rfl lr (.cons rfl lr (.cons rfl lr .nil))) (Reown.refl _) (fun _ h=>by first|exact h|simp[h])) ?_))))))
  intro k ⟨hk,heqs⟩
  refine J.conv (by(try simp only[nl,Qj,Qv,Qw,Qu,QY,AV.cellsOf,Qb,Qc,Nat.reduceAdd]);rfl) ?_
  refine J.seq (Zs (Zm rfl (Zm rfl (Zq rfl (by first|exact Qh WN (.r rfl) (TrT.css_length _ _)|exact Qh WN (.r rfl) (AtT.css_length _)|exact QC WN (.r rfl)|exact QW.len_nil WN (.r rfl)) ?_))))
  refine Zq rfl (QW.lss (.r rfl) (.r rfl)) (Zn ?_)
  refine J.cond (.r rfl) (fun c2=>?_) (fun c2=>?_)
  · skip
    have hlt:k<a.length:=by simpa[AtT.css_length]using c2
    have hlt2:k<b.length:=by omega
    refine Zk (J.seq (J.block (J.seq (Q9 8 mixed (by kernel_rfl) (by kernel_rfl) (by kernel_rfl) rfl ?_))))
    refine .cons [] rfl rfl rfl (.q rfl (QW.move (.r rfl))) ?_
    refine .cons [] rfl rfl rfl (.q rfl (QW.move (.r rfl))) ?_
    refine .cons [17,18] rfl rfl rfl (.q rfl (Qi WN Ks rfl (.r rfl) (.r rfl) (by first|rfl|omega|(simp;done)) (by first|exact AtT.css_getE hlt|exact AtT.css_getE hlt2))) ?_
    refine .cons [19] rfl rfl rfl (.q rfl (by first|exact Qo Ks (.r rfl) rfl rfl|exact Qo Ks (.r rfl) (QJ rfl rfl) rfl)) ?_
    refine .cons [] rfl rfl rfl (.q rfl (QW.move (.r rfl))) ?_
    refine .cons [] rfl rfl rfl (.q rfl (QW.move (.r rfl))) ?_
    refine .cons [21,22] rfl rfl rfl (.q rfl (Qi WN Ks rfl (.r rfl) (.r rfl) (by first|rfl|omega|(simp;done)) (by first|exact AtT.css_getE hlt|exact AtT.css_getE hlt2))) ?_
    refine .cons [23] rfl rfl rfl (.q rfl (by first|exact Qo Ks (.r rfl) rfl rfl|exact Qo Ks (.r rfl) (QJ rfl rfl) rfl)) ?_
    refine .nil ?_
    refine Zq rfl (D4 (by kernel_rfl) (by kernel_rfl) (by kernel_rfl) RF U0 (by kernel_rfl) (.r rfl) (.r rfl)) ?_
    refine Zn ?_
    refine J.cond (.r rfl) (fun c3=>?_) (fun c3=>?_)
    · skip
      have hno:a[k].same b[k]=false:=by(simp at c3;rw[AtT.same,Bool.eq_false_iff];intro hc;simp at hc;rcases c3 with h|h;exact h hc.1;exact h hc.2)
      exact Zs (Zq rfl (QW.assign .const) (Zn (J.ret (blkQ.r (thenQ.r (thenQ.r (blkQ.r (thenQ.r (Zr [] (RetEv.one rfl (REv.tmp rfl lr)) rfl ⟨U1 (by rw[heqs,TE hlt hlt2,hno];rfl),rfl⟩)))))))))
    have hyes:a[k].same b[k]=true:=by(simp at c3;simpa[AtT.same]using c3)
    refine J.skip (blkQ.n (thenQ.n (Qg (Zm rfl (Zq rfl (QW.add (.r rfl) .const (by first|exact Wl (by first|rfl|omega|(simp;done)) (by omega)|exact YZ (by omega)|rfl)) ?_)))))
    refine Za rfl (Zn ?_)
    rw[TE hlt hlt2,hyes,Bool.true_and]at heqs
    exact⟨k+1,⟨hlt,heqs⟩,by omega,QT (.cons rfl lr (.cons rfl lr (.cons rfl lr .nil))) (Reown.refl _) (fun _ h=>by first|exact h|simp[h])⟩
  have hge:a.length≤k:=by simpa[AtT.css_length]using c2
  exact J.exit (Qz (Qz (Q1 (thenQ.n (Zs (Zq rfl (QW.assign .const) (Zn (J.ret (Zr [] (RetEv.one rfl (REv.tmp rfl lr)) rfl ⟨U1 (by rw[heqs,List.drop_of_length_le hge,List.drop_of_length_le (by omega)];rfl),rfl⟩)))))))))
theorem Da:∀(n:Nat) {v u:TrT} {fr fr2:Bool},v.wf→u.wf→v.sz≤n→Fn Tryz.prog 21 [.agg (v.cs fr),.agg (u.cs fr2)] (.c (.bool (v.same u))):=by
  intro n
  induction n with
  |zero=>intro v u fr fr2 hw hw2 h;exact absurd h (by have:=v.sz_pos;omega)
  |succ n ih=>
    intro v u fr fr2 hw hw2 hn
    obtain⟨t,k,x,a,l⟩:=v
    obtain⟨t',k',x',a',l'⟩:=u
    obtain⟨-,-,-,ha,-,hl96,hwi⟩:=hw.inv
    obtain⟨-,-,-,ha',-,hl96',hwi'⟩:=hw2.inv
    have h1:l.length≤9223372036854775805:=by unfold Qr at hl96;omega
    have h2:l'.length≤9223372036854775805:=by unfold Qr at hl96';omega
    refine AC.of_J Tryz.func21 rfl Tryz.ntmps21 rfl fun w0 A0=>?_
    refine Zs (Qp (.r rfl) rfl fun b2=>Qp (.r rfl) rfl fun b3=>Zq rfl (QW.assign .const) (Zn (J.seq (Zs (Zd Gr rfl (Zl 1 U0 rfl (Zd Gr rfl ?_)))))))
    refine Zl 0 U0 rfl (Zq rfl (WV (.r rfl) (.r rfl)) (Zm rfl (Zg rfl (fun hg=>(Qf Gq (.r rfl) rfl)) (Zg rfl (fun hg=>(Qe 1 U0 (.when rfl hg) rfl rfl)) (Zg rfl (fun hg=>(Qf Gq (.r rfl) rfl)) (Zg rfl (fun hg=>(Qe 0 U0 (.when rfl hg) rfl rfl)) (Zg rfl (fun hg=>(WV (.when rfl hg) (.when rfl hg))) (Zq rfl (QW.pick_or (.r rfl) (.r rfl)) (Zm rfl ?_)))))))))
    refine Zg rfl (fun hg=>(Qf N8 (.r rfl) rfl)) (Zg rfl (fun hg=>(Qe 1 U0 (.when rfl hg) rfl rfl)) (Zg rfl (fun hg=>(Qf N8 (.r rfl) rfl)) (Zg rfl (fun hg=>(Qe 0 U0 (.when rfl hg) rfl rfl)) (Zg rfl (fun hg=>(WV (.when rfl hg) (.when rfl hg))) (Zq rfl (QW.pick_or (.r rfl) (.r rfl)) (Zm rfl (Zg rfl (fun hg=>(Qf HA (.r rfl) rfl)) (Zg rfl (fun hg=>(Qe 1 CM (.when rfl hg) rfl rfl)) (Zg rfl (fun hg=>(Qf HA (.r rfl) rfl)) ?_)))))))))
    refine Zg rfl (fun hg=>(Qe 0 CM (.when rfl hg) rfl rfl)) (Zg rfl (fun hg=>(QW.call gofn55 (.cons (.when rfl hg) (.cons (.when rfl hg) .nil)) (NM _ _ ha ha'))) (Zg rfl (fun hg=>(QW.not (.when rfl hg))) (Zq rfl (QW.pick_or (.r rfl) (.r rfl)) (Zm rfl (Zg rfl (fun hg=>(Qf WO (.r rfl) rfl)) (Zg rfl (fun hg=>(Qe 1 KY (.when rfl hg) rfl rfl)) (Zg rfl (fun hg=>(by first|exact Qh Uw (.when rfl hg) (TrT.css_length _ _)|exact Qh Uw (.when rfl hg) (AtT.css_length _)|exact QC Uw (.when rfl hg)|exact QW.len_nil Uw (.when rfl hg))) ?_)))))))
    refine Zg rfl (fun hg=>(Qf WO (.r rfl) rfl)) (Zg rfl (fun hg=>(Qe 0 KY (.when rfl hg) rfl rfl)) (Zg rfl (fun hg=>(by first|exact Qh Uw (.when rfl hg) (TrT.css_length _ _)|exact Qh Uw (.when rfl hg) (AtT.css_length _)|exact QC Uw (.when rfl hg)|exact QW.len_nil Uw (.when rfl hg))) ?_))
    refine Zg rfl (fun hg=>(QW.neq (.when rfl hg) (.when rfl hg))) (Zq rfl (QW.pick_or (.r rfl) (.r rfl)) (Zn ?_))
    refine J.cond (.r rfl) (fun c1=>?_) (fun c1=>?_)
    · skip
      simp[TrT.css_length]at c1
      exact Zs (Zq rfl (QW.assign .const) (Zn (J.ret (thenQ.r (Zr [.k,.k] (RetEv.one rfl (REv.tmp rfl lr)) rfl ⟨U1 (by rcases c1 with (((h|h)|h)|h)|h;all_goals first|(simp[TrT.same,h];done)|(rw[TrT.same,TrT.sames_len (by omega)];simp)),rfl⟩)))))
    simp[TrT.css_length]at c1
    obtain⟨⟨⟨⟨e1,e2⟩,e3⟩,e4⟩,e5⟩:=c1
    have hl:l.length=l'.length:=by omega
    refine Zk (J.seq (Zs (Zq rfl (QW.assign .const) (Zn (J.block (Ub (ι:=Nat) [2,3] (fun j=>[(5,.c (.int .i64 (j:Int)))]) (fun _ oo=>oo) (fun j=>j≤l.length∧TrT.sames l l'=TrT.sames (l.drop j) (l'.drop j)) (fun j=>l.length-j) 0 (⟨Nat.zero_le _,rfl⟩) (QT (.cons rfl lr (.cons rfl lr (.cons rfl lr .nil))) (Reown.refl _) (fun _ h=>by first|exact h|simp[h])) ?_))))))
    intro j ⟨hj,hs⟩
    refine J.conv (by(try simp only[nl,Qj,Qv,Qw,Qu,QY,AV.cellsOf,Qb,Qc,Nat.reduceAdd]);rfl) ?_
    refine J.seq (Zs (Zm rfl (Zd WO rfl (Zl 1 KY rfl (Zq rfl (by first|exact Qh Uw (.r rfl) (TrT.css_length _ _)|exact Qh Uw (.r rfl) (AtT.css_length _)|exact QC Uw (.r rfl)|exact QW.len_nil Uw (.r rfl)) ?_)))))
    refine Zq rfl (QW.lss (.r rfl) (.r rfl)) (Zn ?_)
    refine J.cond (.r rfl) (fun c2=>?_) (fun c2=>?_)
    · skip
      have hlt:j<l.length:=by simpa[TrT.css_length]using c2
      have hlt2:j<l'.length:=by omega
      refine Zk (J.seq (J.block (J.seq (Q9 10 mixed (by kernel_rfl) (by kernel_rfl) (by kernel_rfl) rfl ?_))))
      refine .cons [] rfl rfl rfl (.q rfl (Qf WO (.r rfl) rfl)) ?_
      refine .cons [49] rfl rfl rfl (.q rfl (Qe 1 KY (.r rfl) rfl rfl)) ?_
      refine .cons [] rfl rfl rfl (.q rfl (QW.move (.r rfl))) ?_
      refine .cons [50,51] rfl rfl rfl (.q rfl (Qi Uw QE rfl (.r rfl) (.r rfl) (by first|rfl|omega|(simp;done)) (by first|exact TrT.css_getE _ hlt|exact TrT.css_getE _ hlt2))) ?_
      refine .cons [52] rfl rfl rfl (.q rfl (by first|exact Qo QE (.r rfl) rfl rfl|exact Qo QE (.r rfl) (QJ (TrT.cs_length _ _) rfl) (TrT.cs_length _ _))) ?_
      refine .cons [] rfl rfl rfl (.q rfl (Qf WO (.r rfl) rfl)) ?_
      refine .cons [54] rfl rfl rfl (.q rfl (Qe 0 KY (.r rfl) rfl rfl)) ?_
      refine .cons [] rfl rfl rfl (.q rfl (QW.move (.r rfl))) ?_
      refine .cons [55,56] rfl rfl rfl (.q rfl (Qi Uw QE rfl (.r rfl) (.r rfl) (by first|rfl|omega|(simp;done)) (by first|exact TrT.css_getE _ hlt|exact TrT.css_getE _ hlt2))) ?_
      refine .cons [57] rfl rfl rfl (.q rfl (by first|exact Qo QE (.r rfl) rfl rfl|exact Qo QE (.r rfl) (QJ (TrT.cs_length _ _) rfl) (TrT.cs_length _ _))) ?_
      refine .nil ?_
      refine Zq rfl (QW.call DD (.cons (.r rfl) (.cons (.r rfl) .nil)) (ih (hwi _ (List.getElem_mem _)) (hwi' _ (List.getElem_mem _)) (TrT.sz_get hn hlt))) (Zq rfl (QW.not (.r rfl)) (Zn ?_))
      refine J.cond (.r rfl) (fun c3=>?_) (fun c3=>?_)
      · skip
        have hno:l[j].same l'[j]=false:=by simpa using c3
        exact Zs (Zq rfl (QW.assign .const) (Zn (J.ret (blkQ.r (thenQ.r (thenQ.r (blkQ.r (thenQ.r (Zr [.k,.k] (RetEv.one rfl (REv.tmp rfl lr)) rfl ⟨U1 (by rw[RM hlt hlt2,hno]at hs;simp[TrT.same,hs]),rfl⟩)))))))))
      have hyes:l[j].same l'[j]=true:=by simpa using c3
      refine J.skip (blkQ.n (thenQ.n (Qg (Zm rfl (Zq rfl (QW.add (.r rfl) .const (by first|exact Wl (by first|rfl|omega|(simp;done)) (by omega)|exact YZ (by omega)|rfl)) ?_)))))
      refine Za rfl (Zn ?_)
      rw[RM hlt hlt2,hyes,Bool.true_and]at hs
      exact⟨j+1,⟨hlt,hs⟩,by omega,QT (.cons rfl lr (.cons rfl lr (.cons rfl lr .nil))) (Reown.refl _) (fun _ h=>by first|exact h|simp[h])⟩
    have hge:l.length≤j:=by simpa[TrT.css_length]using c2
    refine J.exit (Qz (Qz (Q1 (thenQ.n (Zs (Zq rfl (QW.assign .const) (Zn (J.ret ?_))))))))
    have hz:TrT.sames l l'=true:=by
      rw[hs,List.drop_of_length_le hge,List.drop_of_length_le (by omega),TrT.sames]
    exact Zr [.k,.k] (RetEv.one rfl (REv.tmp rfl lr)) rfl ⟨U1 (by simp[TrT.same,hz,e1,e2,e3,e4]),rfl⟩
theorem HS{v u:TrT}{fr fr2:Bool}(hw:v.wf)(hw2:u.wf):Fn Tryz.prog 21 [.agg (v.cs fr),.agg (u.cs fr2)] (.c (.bool (v.same u))):=Da _ hw hw2 (Nat.le_refl _)

end
section
/- ViewMay, ViewFuel. -/
set_option maxRecDepth 10000
set_option maxHeartbeats 4000000
theorem RI{t:TmT}{st:V}{f:Int}(hw:t.wf)(hs:st.wf)(h64: -9223372036854775808≤f∧f≤9223372036854775807):Fn Tryz.prog 6 [.agg (t.cs false),.agg (st.cs false),.c (.int .i64 f)] (.c (.bool true)):=by
  obtain⟨⟨y1,e1⟩,hR1⟩:∃r,t.renT st f=r:=⟨_,rfl⟩
  have hw1:=Dc hw hs f
  rw[hR1]at hw1
  obtain⟨⟨y2,e2⟩,hR2⟩:∃r,t.renT st 4096=r:=⟨_,rfl⟩
  have hw2:=Dc hw hs 4096
  rw[hR2]at hw2
  obtain⟨⟨y3,e3⟩,hR3⟩:∃r,t.renT st 0=r:=⟨_,rfl⟩
  have hw3:=Dc hw hs 0
  rw[hR3]at hw3
  obtain⟨hz1,hz2⟩:=Bz hw hs hR3
  refine AC.of_J Tryz.func6 rfl Tryz.ntmps6 rfl fun w0 A0=>?_
  refine Zs (Qp (.r rfl) rfl fun b3=>Qp (.r rfl) rfl fun b4=>Zq rfl (QW.assign .const) (Zn (J.seq (Zs (Zq rfl (QW.call gofn23 .nil (DX)) (Zq rfl (QW.not (.r rfl)) (Zn ?_)))))))
  refine J.cond (.r rfl) (fun c1=>?_) (fun c1=>?_)
  · skip
    exact absurd c1 (by simp)
    --closed
  skip
  refine Zk (J.seq (QO mixed (Zo 0 1 [] rfl (fun _ ho_=>by first|exact Qd 1 YP (.r rfl) ho_ rfl rfl|exact Qd 1 YP (.r rfl) ho_ (Qm (TmT.cs_length _ _) rfl) (TmT.cs_length _ _)) ?_)))
  refine Zf 1 [16] rfl (fun _=>QW.call L6 (.cons (.r rfl) .nil) (Lj hw)) (Zo 2 0 [] rfl (fun _ ho_=>by first|exact Qd 0 Ql (.r rfl) ho_ rfl rfl|exact Qd 0 Ql (.r rfl) ho_ (Qm vl rfl) vl) ?_)
  refine Zf 3 [] rfl (fun _=>QW.move (.r rfl)) (Zf 4 [17,18,19] rfl (fun _=>QW.call N7 (.cons (.r rfl) (.cons (.r rfl) (.cons (.r rfl) .nil))) ((hR1▸XV (fr:=true) (fr2:=false) hw hs h64))) (Zf 5 [20] rfl (fun _=>QW.move (.r rfl)) (Zf 6 [15] rfl (fun _=>QW.extract (.r rfl) rfl) (Zf 7 [15] rfl (fun _=>QW.extract (.r rfl) rfl) (JX.a 8 rfl (AllocOp.mk z46 rfl) rfl rfl rfl rfl rfl (JX.one 9 [true,false,true,true,true,true,true,true,true] rfl (by kernel_rfl) (by kernel_rfl) rfl rfl (by kernel_rfl) rfl fun bs9_ pe_ ex_=>?_))))))
  refine JL.conv (by(try simp only[Uc,Ui,Q5,QR,Flt.val,Flt.bx,nx,nl,Qj,Qv,Qw,Qu,QY,AV.cellsOf,Qb,Qc,Nat.reduceAdd]);rfl) ?_
  first|refine Qa 2 QE (.r rfl) rfl (.r rfl) (by first|rfl|assumption) rfl rfl rfl ?_|refine Qa 2 QE (.r rfl) rfl (.r rfl) (by first|rfl|assumption) rfl (TrT.cs_length _ _) rfl ?_|refine Qa 2 QE (.r rfl) rfl (.r rfl) (by first|rfl|assumption) rfl rfl rfl ?_|refine Qa 2 QE (.r rfl) rfl (.r rfl) (by first|rfl|assumption) (TrT.cs_length _ _) rfl rfl ?_|refine Qa 2 QE (.r rfl) rfl (.r rfl) (by first|rfl|assumption) (TrT.cs_length _ _) (TrT.cs_length _ _) rfl ?_|refine Qa 2 QE (.r rfl) rfl (.r rfl) (by first|rfl|assumption) (TrT.cs_length _ _) rfl rfl ?_|refine Qa 2 QE (.r rfl) rfl (.r rfl) (by first|rfl|assumption) rfl rfl rfl ?_|refine Qa 2 QE (.r rfl) rfl (.r rfl) (by first|rfl|assumption) rfl (TrT.cs_length _ _) rfl ?_|refine Qa 2 QE (.r rfl) rfl (.r rfl) (by first|rfl|assumption) rfl rfl rfl ?_|refine JL.store_box 2 QE (.r rfl) rfl (.r rfl) (by first|rfl|assumption) rfl rfl rfl rfl ?_|refine JL.store_box 2 QE (.r rfl) rfl (.r rfl) (by first|rfl|assumption) (TrT.cs_length _ _) rfl rfl rfl ?_|refine JL.store_box 2 QE (.r rfl) rfl (.r rfl) (by first|rfl|assumption) rfl rfl rfl rfl ?_
  refine JL.nil ?_
  refine thenQ.n ⟨[],_,rfl,rfl,rfl,rfl,rfl,QK 3 rfl,trivial,⟨trivial,trivial⟩,?_⟩
  refine JX.conv (S':=[9,8,6,5,4,3,2,1,0]) rfl (by(try simp only[QR]);rfl) (by(try simp only[Uc,Ui,Q5,QR,Flt.val,Flt.bx,nx,nl,Qj,Qv,Qw,Qu,QY,AV.cellsOf,Qb,Qc,Nat.reduceAdd]);rfl) ?_
  refine Zf 10 [22] rfl (fun _=>QW.assign (.r rfl)) (JX.fin (by kernel_rfl) (by kernel_rfl) fun bs_=>?_)
  refine QX.conv (by(try simp only[Uc,Ui,Q5,QR,Flt.val,Flt.bx,nx,nl,Qj,Qv,Qw,Qu,QY,AV.cellsOf,Qb,Qc,Nat.reduceAdd]);rfl) ?_
  refine thenQ.n (J.seq (QO mixed (Zo 0 1 [] rfl (fun _ ho_=>by first|exact Qd 1 YP (.r rfl) ho_ rfl rfl|exact Qd 1 YP (.r rfl) ho_ (Qm (TmT.cs_length _ _) rfl) (TmT.cs_length _ _)) ?_)))
  refine Zf 1 [24] rfl (fun _=>QW.call L6 (.cons (.r rfl) .nil) (Lj hw)) (Zo 2 0 [] rfl (fun _ ho_=>by first|exact Qd 0 Ql (.r rfl) ho_ rfl rfl|exact Qd 0 Ql (.r rfl) ho_ (Qm vl rfl) vl) ?_)
  refine Zf 3 [25,26] rfl (fun _=>QW.call N7 (.cons (.r rfl) (.cons (.r rfl) (.cons .const .nil))) ((hR2▸XV (fr:=true) (fr2:=false) hw hs (f:=4096) ⟨by decide,by decide⟩))) ?_
  refine Zf 4 [27] rfl (fun _=>QW.move (.r rfl)) (Zf 5 [23] rfl (fun _=>QW.extract (.r rfl) rfl) (Zf 6 [23] rfl (fun _=>QW.extract (.r rfl) rfl) (JX.a 7 rfl (AllocOp.mk z46 rfl) rfl rfl rfl rfl rfl (JX.one 8 [true,false,true,true,true,true,true,true] rfl (by kernel_rfl) (by kernel_rfl) rfl rfl (by kernel_rfl) rfl fun bs8_ pe_ ex_=>?_))))
  refine JL.conv (by(try simp only[Uc,Ui,Q5,QR,Flt.val,Flt.bx,nx,nl,Qj,Qv,Qw,Qu,QY,AV.cellsOf,Qb,Qc,Nat.reduceAdd]);rfl) ?_
  first|refine Qa 3 QE (.r rfl) rfl (.r rfl) (by first|rfl|assumption) rfl rfl rfl ?_|refine Qa 3 QE (.r rfl) rfl (.r rfl) (by first|rfl|assumption) rfl (TrT.cs_length _ _) rfl ?_|refine Qa 3 QE (.r rfl) rfl (.r rfl) (by first|rfl|assumption) rfl rfl rfl ?_|refine Qa 3 QE (.r rfl) rfl (.r rfl) (by first|rfl|assumption) (TrT.cs_length _ _) rfl rfl ?_|refine Qa 3 QE (.r rfl) rfl (.r rfl) (by first|rfl|assumption) (TrT.cs_length _ _) (TrT.cs_length _ _) rfl ?_|refine Qa 3 QE (.r rfl) rfl (.r rfl) (by first|rfl|assumption) (TrT.cs_length _ _) rfl rfl ?_|refine Qa 3 QE (.r rfl) rfl (.r rfl) (by first|rfl|assumption) rfl rfl rfl ?_|refine Qa 3 QE (.r rfl) rfl (.r rfl) (by first|rfl|assumption) rfl (TrT.cs_length _ _) rfl ?_|refine Qa 3 QE (.r rfl) rfl (.r rfl) (by first|rfl|assumption) rfl rfl rfl ?_|refine JL.store_box 3 QE (.r rfl) rfl (.r rfl) (by first|rfl|assumption) rfl rfl rfl rfl ?_|refine JL.store_box 3 QE (.r rfl) rfl (.r rfl) (by first|rfl|assumption) (TrT.cs_length _ _) rfl rfl rfl ?_|refine JL.store_box 3 QE (.r rfl) rfl (.r rfl) (by first|rfl|assumption) rfl rfl rfl rfl ?_
  refine JL.nil ?_
  refine thenQ.n ⟨[],_,rfl,rfl,rfl,rfl,rfl,QK 4 rfl,trivial,⟨trivial,trivial⟩,?_⟩
  refine JX.conv (S':=[8,7,5,4,3,2,1,0]) rfl (by(try simp only[QR]);rfl) (by(try simp only[Uc,Ui,Q5,QR,Flt.val,Flt.bx,nx,nl,Qj,Qv,Qw,Qu,QY,AV.cellsOf,Qb,Qc,Nat.reduceAdd]);rfl) ?_
  refine Zf 9 [29] rfl (fun _=>QW.assign (.r rfl)) (JX.fin (by kernel_rfl) (by kernel_rfl) fun bs_=>?_)
  refine QX.conv (by(try simp only[Uc,Ui,Q5,QR,Flt.val,Flt.bx,nx,nl,Qj,Qv,Qw,Qu,QY,AV.cellsOf,Qb,Qc,Nat.reduceAdd]);rfl) ?_
  refine thenQ.n (J.seq (QO mixed (Zo 0 1 [] rfl (fun _ ho_=>by first|exact Qd 1 YP (.r rfl) ho_ rfl rfl|exact Qd 1 YP (.r rfl) ho_ (Qm (TmT.cs_length _ _) rfl) (TmT.cs_length _ _)) ?_)))
  refine Zf 1 [31] rfl (fun _=>QW.call L6 (.cons (.r rfl) .nil) (Lj hw)) (Zo 2 0 [] rfl (fun _ ho_=>by first|exact Qd 0 Ql (.r rfl) ho_ rfl rfl|exact Qd 0 Ql (.r rfl) ho_ (Qm vl rfl) vl) ?_)
  refine Zf 3 [32,33] rfl (fun _=>QW.call N7 (.cons (.r rfl) (.cons (.r rfl) (.cons .const .nil))) ((hR3▸XV (fr:=true) (fr2:=false) hw hs (f:=0) ⟨by decide,by decide⟩))) ?_
  refine Zf 4 [34] rfl (fun _=>QW.move (.r rfl)) (Zf 5 [30] rfl (fun _=>QW.extract (.r rfl) rfl) (Zf 6 [30] rfl (fun _=>QW.extract (.r rfl) rfl) (JX.a 7 rfl (AllocOp.mk z46 rfl) rfl rfl rfl rfl rfl (JX.one 8 [true,false,true,true,true,true,true,true] rfl (by kernel_rfl) (by kernel_rfl) rfl rfl (by kernel_rfl) rfl fun bs8_ pe_ ex_=>?_))))
  refine JL.conv (by(try simp only[Uc,Ui,Q5,QR,Flt.val,Flt.bx,nx,nl,Qj,Qv,Qw,Qu,QY,AV.cellsOf,Qb,Qc,Nat.reduceAdd]);rfl) ?_
  first|refine Qa 4 QE (.r rfl) rfl (.r rfl) (by first|rfl|assumption) rfl rfl rfl ?_|refine Qa 4 QE (.r rfl) rfl (.r rfl) (by first|rfl|assumption) rfl (TrT.cs_length _ _) rfl ?_|refine Qa 4 QE (.r rfl) rfl (.r rfl) (by first|rfl|assumption) rfl rfl rfl ?_|refine Qa 4 QE (.r rfl) rfl (.r rfl) (by first|rfl|assumption) (TrT.cs_length _ _) rfl rfl ?_|refine Qa 4 QE (.r rfl) rfl (.r rfl) (by first|rfl|assumption) (TrT.cs_length _ _) (TrT.cs_length _ _) rfl ?_|refine Qa 4 QE (.r rfl) rfl (.r rfl) (by first|rfl|assumption) (TrT.cs_length _ _) rfl rfl ?_|refine Qa 4 QE (.r rfl) rfl (.r rfl) (by first|rfl|assumption) rfl rfl rfl ?_|refine Qa 4 QE (.r rfl) rfl (.r rfl) (by first|rfl|assumption) rfl (TrT.cs_length _ _) rfl ?_|refine Qa 4 QE (.r rfl) rfl (.r rfl) (by first|rfl|assumption) rfl rfl rfl ?_|refine JL.store_box 4 QE (.r rfl) rfl (.r rfl) (by first|rfl|assumption) rfl rfl rfl rfl ?_|refine JL.store_box 4 QE (.r rfl) rfl (.r rfl) (by first|rfl|assumption) (TrT.cs_length _ _) rfl rfl rfl ?_|refine JL.store_box 4 QE (.r rfl) rfl (.r rfl) (by first|rfl|assumption) rfl rfl rfl rfl ?_
  refine JL.nil ?_
  refine thenQ.n ⟨[],_,rfl,rfl,rfl,rfl,rfl,QK 5 rfl,trivial,⟨trivial,trivial⟩,?_⟩
  refine JX.conv (S':=[8,7,5,4,3,2,1,0]) rfl (by(try simp only[QR]);rfl) (by(try simp only[Uc,Ui,Q5,QR,Flt.val,Flt.bx,nx,nl,Qj,Qv,Qw,Qu,QY,AV.cellsOf,Qb,Qc,Nat.reduceAdd]);rfl) ?_
  refine Zf 9 [36] rfl (fun _=>QW.assign (.r rfl)) (JX.fin (by kernel_rfl) (by kernel_rfl) fun bs_=>?_)
  refine QX.conv (by(try simp only[Uc,Ui,Q5,QR,Flt.val,Flt.bx,nx,nl,Qj,Qv,Qw,Qu,QY,AV.cellsOf,Qb,Qc,Nat.reduceAdd]);rfl) ?_
  refine thenQ.n (J.seq (Zs (Zm rfl (Zq rfl (QW.call N5 (.cons (.r rfl) .nil) (GG _)) (Zq rfl (QW.eql (.r rfl) .const) (Zm rfl (Zg rfl (fun hg=>(QW.move (.r rfl))) (Zg rfl (fun hg=>(QW.call N5 (.cons (.when rfl hg) .nil) (GG _))) (Zg rfl (fun hg=>(QW.neq (.when rfl hg) .const)) ?_)))))))))
  refine Zg rfl (fun hg=>(QW.move (.when rfl hg))) (JL.gg rfl rfl rfl rfl rfl (fun hg=>(by first|exact Qd 2 QE (.r rfl) rfl rfl rfl|exact Qd 2 QE (.r rfl) rfl (Qm (TrT.cs_length _ _) rfl) (TrT.cs_length _ _)|exact Qd 2 QE (.r rfl) rfl (Qm rfl rfl) rfl)) ?_)
  refine JL.gg rfl rfl rfl rfl rfl (fun hg=>(by first|exact Qd 3 QE (.r rfl) rfl rfl rfl|exact Qd 3 QE (.r rfl) rfl (Qm (TrT.cs_length _ _) rfl) (TrT.cs_length _ _)|exact Qd 3 QE (.r rfl) rfl (Qm rfl rfl) rfl)) ?_
  refine JL.gg rfl rfl rfl rfl rfl (fun hg=>(QW.call DD (.cons (.when rfl hg) (.cons (.when rfl hg) .nil)) (HS (fr:=true) (fr2:=true) hw1 hw2))) (JL.gg rfl rfl rfl rfl rfl (fun hg=>(QW.not (.when rfl hg))) (Zg rfl (fun hg=>(by first|exact QW.pick_or (.when rfl hg) (.r rfl)|exact Lc hg (.when rfl hg) (.r rfl))) ?_))
  refine Zq rfl (QW.pick_and (.r rfl) (.r rfl)) (Zn ?_)
  refine J.cond (.r rfl) (fun c2=>?_) (fun c2=>?_)
  · skip
    refine absurd c2 ?_
    by_cases hc:e1=0
    · subst hc
      have h2:=BB hw hs hR1
      rw[hR2]at h2
      cases h2
      simp[TrT.same_refl]
    · simp[hc]
    --closed
  skip
  refine Zk (Zs (Zm rfl (Zq rfl (QW.call N5 (.cons (.r rfl) .nil) (GG _)) (Zq rfl (QW.neq (.r rfl) .const) (Zm rfl (Zg rfl (fun hg=>(by first|exact Qd 4 QE (.r rfl) rfl rfl rfl|exact Qd 4 QE (.r rfl) rfl (Qm (TrT.cs_length _ _) rfl) (TrT.cs_length _ _)|exact Qd 4 QE (.r rfl) rfl (Qm rfl rfl) rfl)) ?_))))))
  exact Zg rfl (fun hg=>(QW.build (idx:=[]) Dg z46 rfl .nil rfl rfl rfl rfl)) (Zg rfl (fun hg=>(QW.call DD (.cons (.when rfl hg) (.cons (Ev.le (.when rfl hg) (.aggL (.cons lr (.cons lr (.cons lr (.cons (.nil true false _) (.cons (.nil true false _) .nil))))))) .nil)) (HS (fr:=true) (fr2:=true) (u:=.nil) hw3 TrT.wf_nil))) (Zq rfl (QW.pick_and (.r rfl) (.r rfl)) (Za rfl (Zn (J.ret (Zr [.k,.k,.k,.k,.k] (RetEv.one rfl (REv.tmp rfl lr)) rfl ⟨U1 (by rw[hz2];simp[hz1,TrT.same_refl]),rfl⟩))))))

end
end Go.Proofs.YtammalmlbabpbaaGreat.J
