/- Texts of this proof, laid together. -/
import Derived.Test.YtmccnmahegbmpaaGreatX3RReduceParts
import Derived.Laws.MakeOwn
set_option linter.unusedVariables false
set_option linter.unusedSimpArgs false
namespace Go.Proofs.YtmccnmahegbmpaaGreat.J
open Go Go.RowKit
section
/- Walks: Map, Filter, Find. -/
set_option maxRecDepth 10000
set_option maxHeartbeats 4000000
theorem Er{l:List V}(hl:∀x∈l,x.good)(hn:l.length≤32):(V.li l).wf:=.mk (by decide) (by decide) (by decide) (by decide) (by unfold Qu;omega) (fun _ h=>by cases h) (fun x hx=>(hl x hx).wf)
theorem Ns(b6 b5 b4 b3 b2 m:Own)(l:List Own):Reown (b6::b5::b4::b3::b2::m::l) (b4::b3::m::.grp [b5,.arr (.slice none 0 0) eV [],b2,b6]::l):=
  (G9 eV _).trans ⟨fun x=>by simp only[QV,UT,Xx,List.count_append,List.count_nil];omega,fun w A h=>by
    simp only[List.forall_mem_cons,Xb,List.not_mem_nil,false_implies,implies_true,and_true]at h⊢
    exact⟨h.2.2.2.1,h.2.2.2.2.1,h.2.2.2.2.2.2.1,⟨h.2.2.1,h.1,h.2.2.2.2.2.1,h.2.1⟩,h.2.2.2.2.2.2.2⟩⟩
theorem Fj(b7 b6 b5 b4 b3 b2 m:Own)(l:List Own):Reown (b7::b6::b5::b4::b3::b2::m::l) (b4::b3::m::.grp [b7,b5,b2,b6]::l):=
  ⟨fun x=>by simp only[QV,UT,Xx,List.count_append,List.count_nil];omega,fun w A h=>by
    simp only[List.forall_mem_cons,Xb,List.not_mem_nil,false_implies,implies_true,and_true]at h⊢
    exact⟨h.2.2.2.1,h.2.2.2.2.1,h.2.2.2.2.2.2.1,⟨h.1,h.2.2.1,h.2.2.2.2.2.1,h.2.1⟩,h.2.2.2.2.2.2.2⟩⟩
/-! what the loops come to -/
theorem Bx{y:EX}{s:ScT}:∀(l ys:List V) (f:Int),MF (GH y s) l ys f=match Hn (fun it f=>y.ev {s with it} f) l f with
    |.error e=>.error e
    |.ok (r,f')=>.ok (ys++r,f')
  |[],ys,f=>by simp[MF,Hn]
  |x::l,ys,f=>by
    rw[MF,Hn,GH]
    cases h:y.ev {s with it:=x} f with
    |error c=>rfl
    |ok p=>
      obtain⟨v,f1⟩:=p
      simp only[if_true]
      rw[Bx l (ys++[v]) f1]
      cases Hn (fun it f=>y.ev {s with it} f) l f1 with
      |error c=>rfl
      |ok q=>simp
theorem Bz{y:EX}{s:ScT}:∀(l ys:List V) (f:Int),MF (GI y s) l ys f=match Hv (fun it f=>UW (y.ev {s with it} f)) l f with
    |.error e=>.error e
    |.ok (r,f')=>.ok (ys++r,f')
  |[],ys,f=>by simp[MF,Hv]
  |x::l,ys,f=>by
    rw[MF,Hv,GI]
    cases h:UW (y.ev {s with it:=x} f)with
    |error c=>rfl
    |ok p=>
      obtain⟨t,f1⟩:=p
      simp only[if_true]
      rw[Bz l _ f1]
      cases Hv (fun it f=>UW (y.ev {s with it} f)) l f1 with
      |error c=>rfl
      |ok q=>cases t<;>simp
def fndX(x:Except Int ((Bool×V)×Int)):ER V:=match x with
    |.error e=>.error e
    |.ok ((t,x),f')=>if t then .ok (x,f')else .error 71
theorem By{y:EX}{s:ScT}:∀(l:List V) (p:Bool×V) (f:Int),p.1=false→Re (fun it f=>UW (y.ev {s with it} f)) l f=fndX (MF (Kf y s) l p f)
  |[],⟨t,v⟩,f,h=>by cases h;rfl
  |x::l,p,f,h=>by
    rw[MF,Re,Kf]
    cases h:UW (y.ev {s with it:=x} f)with
    |error c=>rfl
    |ok q=>
      obtain⟨t,f1⟩:=q
      cases t with
      |true=>rfl
      |false=>exact By l (false,p.2) f1 rfl
def Bb(y:EX)(s:ScT):V→Int→ER V:=fun it f=>y.ev {s with it} f
theorem GY(o:Int)(a y:EX)(s:ScT)(f:Int):Yq o [a,y] s f=XC o (Bb y s) (a.ev s f):=by unfold Yq;rfl
theorem Ba{y:EX}{s:ScT}{r:ER V}{x:Except Int (List V×Int)}(h:Xf (GH y s) [] r=x):XC 27 (Bb y s) r=Xm x:=by
  subst h
  cases r with
  |error c=>rfl
  |ok p=>
    obtain⟨v,f⟩:=p
    unfold XC Xf
    by_cases hk:v.kind=4
    · simp only[hk];rw[Bx];show Xm (Hn (Bb y s) v.items f)=_;unfold Bb;cases Hn (fun it f=>y.ev {s with it} f) v.items f<;>rfl
    · simp only[ne_eq,hk,not_false_eq_true,if_true];rfl
theorem Bd{y:EX}{s:ScT}{r:ER V}{x:Except Int (List V×Int)}(h:Xf (GI y s) [] r=x):XC 28 (Bb y s) r=Xm x:=by
  subst h
  cases r with
  |error c=>rfl
  |ok p=>
    obtain⟨v,f⟩:=p
    unfold XC Xf
    by_cases hk:v.kind=4
    · simp only[hk];rw[Bz];show Xm (Hv (fun x f=>UW (Bb y s x f)) v.items f)=_;unfold Bb;cases Hv (fun it f=>UW (y.ev {s with it} f)) v.items f<;>rfl
    · simp only[ne_eq,hk,not_false_eq_true,if_true];rfl
theorem Bc{y:EX}{s:ScT}{r:ER V}{x:Except Int ((Bool×V)×Int)}(h:Xf (Kf y s) (false,.nil) r=x):XC 29 (Bb y s) r=fndX x:=by
  subst h
  cases r with
  |error c=>rfl
  |ok p=>
    obtain⟨v,f⟩:=p
    by_cases hk:v.kind=4
    · rw[show Xf (Kf y s) (false,.nil) (.ok (v,f))=MF (Kf y s) v.items (false,.nil) f from if_neg (fun h=>h hk),show XC 29 (Bb y s) (.ok (v,f))=Re (fun x f=>UW (Bb y s x f)) v.items f from(if_neg (fun h=>h hk)).trans rfl]
      exact By v.items (false,.nil) f rfl
    · rw[show Xf (Kf y s) (false,.nil) (.ok (v,f))=.error 81 from if_pos hk,show XC 29 (Bb y s) (.ok (v,f))=.error 81 from if_pos hk];rfl
theorem M2{l:List V}{f:Int}(h:(V.li l).err=0):Xm (.ok (l,f))=.ok (.li l,f):=by unfold Xm Gb;simp only[h,if_true]
theorem RW{l:List V}{f:Int}(h:¬(V.li l).err=0):Xm (.ok (l,f))=.error 84:=by unfold Xm Gb;simp only[h,if_false]
theorem LM{n:Nat}(ih:D5 n){o:Int}{bb:Nat}{t:Ui}{a y:EX}{s:ScT}{f:Int}{b:Nat}{fr:Bool}{ys:List AV}(he:Xc fr (.mk o bb t [a,y]) ys)(ho:o=27∨o=28∨o=29)(hwa:a.wf)(hwy:y.wf)(hfa:a.Fine)(hfy:y.Fine)(hna:a.sz≤n)(hny:y.sz≤n)(hs:s.good)(h0:KQ f):
    AC Tryz.prog 99 [mb b s f] [pb b,.agg ys] (EvR (Yq o [a,y] s f) b s):=by
  subst he
  refine AC.of_J Tryz.func99 rfl Tryz.ntmps99 rfl fun w0 A0=>?_
  refine Zs (GB (.tmp rfl) rfl rfl fun b2=>Qp (.tmp rfl) rfl fun b3=>JL.alloc WQ rfl rfl fun b4=>Zn (Zs (Zq rfl (QW.build (idx:=[0]) Xt WQ rfl (.cons .const .nil) rfl rfl rfl rfl) (JL.alloc WQ rfl rfl fun b5=>Qc 0 Qj (.tmp rfl) rfl (.tmp rfl) rfl rfl rfl rfl (Zn ?_)))))
  refine J.seq (Zs (Zq rfl (Qa WX (.tmp rfl) rfl) (Zq rfl (Qb 2 K4 (.tmp rfl) rfl rfl) (Zq rfl (Qi XT Uz rfl (.tmp rfl) .const rfl (by rfl)) ?_))))
  refine Zq rfl (Ql Uz (.tmp rfl) (QH xl rfl) xl) (JL.alloc z79 rfl rfl fun b6=>Qc 0 Uz (.tmp rfl) rfl (.tmp rfl) rfl xl rfl rfl (Zn (Zs (Zq rfl (Qa YQ (.tmp rfl) rfl) (Zq rfl (Qb 3 UQ (.tmp rfl) rfl rfl) (Zn (J.block (Zs ?_))))))))
  refine Zq rfl (QW.eql (.tmp rfl) .const) (Zq rfl (QW.assign (.tmp rfl)) (Zn ?_))
  refine J.cond (.tmp rfl) (fun c1=>?_) (fun c1=>?_)
  · skip
    obtain rfl:o=27:=by simpa using c1
    refine QU Uc (Zo 0 4 [] rfl (fun _ ho_=>Qb 4 MN (.tmp rfl) ho_ rfl) (Zf 1 [] rfl (fun _=>Qa WX (.tmp rfl) rfl) (Zo 2 3 [28] rfl (fun _ ho_=>Qb 3 K4 (.tmp rfl) ho_ rfl) (Zf 3 [29] rfl (fun _=>Qi XT Uz rfl (.tmp rfl) .const rfl (by rfl)) ?_))))
    refine Zf 4 [30] rfl (fun _=>Ql Uz (.tmp rfl) (QH xl rfl) xl) (Zf 5 [] rfl (fun _=>UF .nil (.cons (.tmp rfl) (.cons (.tmp rfl) (.cons (.tmp rfl) .nil)))) (JX.one 6 [true,true,true,true,true,true] rfl (by kernel_rfl) (by kernel_rfl) rfl rfl (by kernel_rfl) rfl fun bs6_ pe_ ex_=>?_))
    refine JL.conv (by(try simp only[Ua,Uj,Q5,QS,Flt.val,Flt.bx,nx,nl,Qk,Qz,QA,Qy,QR,AV.cellsOf,Qd,Qe,Nat.reduceAdd]);rfl) ?_
    refine JL.reown (Ns _ _ _ _ _ _ _) ?_
    refine Qs [.k,.k,.p,.p] N2 rfl Lent.nil (fun _=>(.cons (.tmp rfl) (.cons (.tmp rfl) (.cons (.tmp rfl) .nil)))) (Hl (W:=Ca b5 b2 b6 b (y.cs fr)) (stp:=GH y s) (ca:=[ptr b5,ptr b2,ptr b6]) ih S3 (fun j σ x f o0 hj hW hx h0=>F9 ih hwy hfy hs hny b b5 b2 b6 hj hW hx h0) Xc.self hwa hfa hs h0 hna (σ0:=[]) ⟨_,rfl,Nat.le_refl _,fun _ h=>by cases h⟩) (.inl rfl) (fun k33 x33 o33 h33=>?_) (fun k33=>?_)
    rotate_left
    · skip
      refine thenQ.p (blkQ.p (thenQ.p ?_))
      exact⟨_,QN [.k,.k] _,_,rfl,rfl,Qn [.k,.k] _,EvR.er ((GY 27 a y s f).trans (Ba (Wh k33))) k33⟩
    obtain⟨σ1,f1,j1,o1_,hi1,hj1,⟨v1,rfl,hl1,hgd1⟩,hf1,rfl,rfl⟩:=h33
    refine JL.nil ?_
    refine thenQ.n ⟨[_],_,rfl,rfl,rfl,rfl,rfl,Wp 4 rfl rfl,⟨rfl,rfl⟩,trivial,?_⟩
    refine JX.conv (S':=[6,5,4,3,2,1,0]) rfl (by(try simp only[QS]);rfl) (by(try simp only[Ua,Uj,Q5,QS,Flt.val,Flt.bx,nx,nl,Qk,Qz,QA,Qy,QR,AV.cellsOf,Qd,Qe,Nat.reduceAdd]);rfl) ?_
    refine JX.fin (by kernel_rfl) (by kernel_rfl) fun bs_=>?_
    refine QX.conv (by(try simp only[Ua,Uj,Q5,QS,Flt.val,Flt.bx,nx,nl,Qk,Qz,QA,Qy,QR,AV.cellsOf,Qd,Qe,Nat.reduceAdd]);rfl) ?_
    refine blkQ.n (thenQ.n (J.seq (J.reown (Reown.cons (Reown.cons (Reown.cons (U0 _ [])))) (J.closeArr 4 rfl (by rw[V.css_length];show _*80≤_;unfold Qu;omega) rfl (fun z hz=>by simp only[mb,QV,UT,Own.fp,List.append_nil,List.mem_singleton]at hz;subst hz;simp[mb,QV,Own.fp]) ?_))))
    refine Qg (Zq rfl (Qf 3 Qj (.tmp rfl) rfl rfl rfl) ?_)
    refine Qs [] N1 rfl Lent.nil (fun _=>(.cons (Ev.le (.tmp rfl) (.aggL (.cons lr (.cons lr (.cons lr (.cons (.nil false false _) (.cons (.fact (by simp) (.slL (fr:=true) (clip:=false) (fun h=>by cases h) rfl (V.css_sz false _) (.refl _))) .nil))))))) .nil)) (NT (fr:=false) (v:=.li σ1) Vc.self (Er hgd1 (by omega))) (.inl rfl) (fun k44 x44 o44 h44=>?_) (fun k44=>?_)
    rotate_left
    · skip
      refine thenQ.p ?_
      exact⟨_,QN [.k,.k,.k,.k,.k,.k] _,_,rfl,rfl,Qn [.k,.k,.k,.k,.k,.k] _,EvR.er (c:=84) ((GY 27 a y s f).trans ((Ba hi1).trans (RW k44))) (by decide)⟩
    obtain⟨rfl,rfl⟩:=h44
    exact Qc 0 Qj (.tmp rfl) rfl (.tmp rfl) rfl rfl rfl rfl (Zn (J.ret (Zr [.k,.k,.p,.k,.k,.k] (RetEv.one rfl (REv.cell 0 Qj rfl rfl rfl rfl lr)) rfl (EvR.ok ((GY 27 a y s f).trans ((Ba hi1).trans (M2 k44)))))))
  have n27:¬o=27:=by simpa using c1
  refine Zs (Zq rfl (QW.eql (.tmp rfl) .const) (Zq rfl (QW.assign (.tmp rfl)) (Zn ?_)))
  refine J.cond (.tmp rfl) (fun c2=>?_) (fun c2=>?_)
  · skip
    obtain rfl:o=28:=by simpa using c2
    refine QU Uc (Zo 0 4 [] rfl (fun _ ho_=>Qb 4 MN (.tmp rfl) ho_ rfl) (Zf 1 [] rfl (fun _=>Qa WX (.tmp rfl) rfl) (Zo 2 3 [37] rfl (fun _ ho_=>Qb 3 K4 (.tmp rfl) ho_ rfl) (Zf 3 [38] rfl (fun _=>Qi XT Uz rfl (.tmp rfl) .const rfl (by rfl)) ?_))))
    refine Zf 4 [39] rfl (fun _=>Ql Uz (.tmp rfl) (QH xl rfl) xl) (Zf 5 [] rfl (fun _=>UF .nil (.cons (.tmp rfl) (.cons (.tmp rfl) (.cons (.tmp rfl) .nil)))) (JX.one 6 [true,true,true,true,true,true] rfl (by kernel_rfl) (by kernel_rfl) rfl rfl (by kernel_rfl) rfl fun bs6_ pe_ ex_=>?_))
    refine JL.conv (by(try simp only[Ua,Uj,Q5,QS,Flt.val,Flt.bx,nx,nl,Qk,Qz,QA,Qy,QR,AV.cellsOf,Qd,Qe,Nat.reduceAdd]);rfl) ?_
    refine JL.reown (Ns _ _ _ _ _ _ _) ?_
    refine Qs [.k,.k,.p,.p] N2 rfl Lent.nil (fun _=>(.cons (.tmp rfl) (.cons (.tmp rfl) (.cons (.tmp rfl) .nil)))) (Hl (W:=Ca b5 b2 b6 b (y.cs fr)) (stp:=GI y s) (ca:=[ptr b2,ptr b6,ptr b5]) ih S2 (fun j σ x f o0 hj hW hx h0=>F8 ih hwy hfy hs hny b b5 b2 b6 hj hW hx h0) Xc.self hwa hfa hs h0 hna (σ0:=[]) ⟨_,rfl,Nat.le_refl _,fun _ h=>by cases h⟩) (.inl rfl) (fun k42 x42 o42 h42=>?_) (fun k42=>?_)
    rotate_left
    · skip
      refine thenQ.p (blkQ.p (thenQ.p ?_))
      exact⟨_,QN [.k,.k] _,_,rfl,rfl,Qn [.k,.k] _,EvR.er ((GY 28 a y s f).trans (Bd (Wh k42))) k42⟩
    obtain⟨σ1,f1,j1,o1_,hi1,hj1,⟨v1,rfl,hl1,hgd1⟩,hf1,rfl,rfl⟩:=h42
    refine JL.nil ?_
    refine thenQ.n ⟨[_],_,rfl,rfl,rfl,rfl,rfl,Wp 4 rfl rfl,⟨rfl,rfl⟩,trivial,?_⟩
    refine JX.conv (S':=[6,5,4,3,2,1,0]) rfl (by(try simp only[QS]);rfl) (by(try simp only[Ua,Uj,Q5,QS,Flt.val,Flt.bx,nx,nl,Qk,Qz,QA,Qy,QR,AV.cellsOf,Qd,Qe,Nat.reduceAdd]);rfl) ?_
    refine JX.fin (by kernel_rfl) (by kernel_rfl) fun bs_=>?_
    refine QX.conv (by(try simp only[Ua,Uj,Q5,QS,Flt.val,Flt.bx,nx,nl,Qk,Qz,QA,Qy,QR,AV.cellsOf,Qd,Qe,Nat.reduceAdd]);rfl) ?_
    refine blkQ.n (thenQ.n (J.seq (J.reown (Reown.cons (Reown.cons (Reown.cons (U0 _ [])))) (J.closeArr 4 rfl (by rw[V.css_length];show _*80≤_;unfold Qu;omega) rfl (fun z hz=>by simp only[mb,QV,UT,Own.fp,List.append_nil,List.mem_singleton]at hz;subst hz;simp[mb,QV,Own.fp]) ?_))))
    refine Qg (Zq rfl (Qf 3 Qj (.tmp rfl) rfl rfl rfl) ?_)
    refine Qs [] N1 rfl Lent.nil (fun _=>(.cons (Ev.le (.tmp rfl) (.aggL (.cons lr (.cons lr (.cons lr (.cons (.nil false false _) (.cons (.fact (by simp) (.slL (fr:=true) (clip:=false) (fun h=>by cases h) rfl (V.css_sz false _) (.refl _))) .nil))))))) .nil)) (NT (fr:=false) (v:=.li σ1) Vc.self (Er hgd1 (by omega))) (.inl rfl) (fun k44 x44 o44 h44=>?_) (fun k44=>?_)
    rotate_left
    · skip
      refine thenQ.p ?_
      exact⟨_,QN [.k,.k,.k,.k,.k,.k] _,_,rfl,rfl,Qn [.k,.k,.k,.k,.k,.k] _,EvR.er (c:=84) ((GY 28 a y s f).trans ((Bd hi1).trans (RW k44))) (by decide)⟩
    obtain⟨rfl,rfl⟩:=h44
    exact Qc 0 Qj (.tmp rfl) rfl (.tmp rfl) rfl rfl rfl rfl (Zn (J.ret (Zr [.k,.k,.p,.k,.k,.k] (RetEv.one rfl (REv.cell 0 Qj rfl rfl rfl rfl lr)) rfl (EvR.ok ((GY 28 a y s f).trans ((Bd hi1).trans (M2 k44)))))))
  have n28:¬o=28:=by simpa using c2
  obtain rfl:o=29:=by omega
  refine Zs (JL.alloc z4 rfl rfl fun b7=>JL.store_box 0 PZ (.tmp rfl) rfl .const rfl rfl rfl rfl rfl (Zn (J.seq (QU Uc (Zo 0 5 [] rfl (fun _ ho_=>Qb 5 MN (.tmp rfl) ho_ rfl) (Zf 1 [] rfl (fun _=>Qa WX (.tmp rfl) rfl) (Zo 2 4 [16] rfl (fun _ ho_=>Qb 4 K4 (.tmp rfl) ho_ rfl) (Zf 3 [17] rfl (fun _=>Qi XT Uz rfl (.tmp rfl) .const rfl (by rfl)) ?_))))))))
  refine Zf 4 [18] rfl (fun _=>Ql Uz (.tmp rfl) (QH xl rfl) xl) (Zf 5 [] rfl (fun _=>UF .nil (.cons (.tmp rfl) (.cons (.tmp rfl) (.cons (.tmp rfl) (.cons (.tmp rfl) .nil))))) (JX.one 6 [true,true,true,true,true,true] rfl (by kernel_rfl) (by kernel_rfl) rfl rfl (by kernel_rfl) rfl fun bs6_ pe_ ex_=>?_))
  refine JL.conv (by(try simp only[Ua,Uj,Q5,QS,Flt.val,Flt.bx,nx,nl,Qk,Qz,QA,Qy,QR,AV.cellsOf,Qd,Qe,Nat.reduceAdd]);rfl) ?_
  refine JL.reown (Fj _ _ _ _ _ _ _ _) ?_
  refine Qs [.k,.k,.p,.p] N2 rfl Lent.nil (fun _=>(.cons (.tmp rfl) (.cons (.tmp rfl) (.cons (.tmp rfl) .nil)))) (Hl (W:=wFnd b7 b5 b2 b6 b (y.cs fr)) (stp:=Kf y s) (ca:=[ptr b2,ptr b6,ptr b7,ptr b5]) ih S1 (fun j σ x f o0 hj hW hx h0=>F7 ih hwy hfy hs hny b b5 b2 b6 b7 hj hW hx h0) Xc.self hwa hfa hs h0 hna (σ0:=(false,.nil)) ⟨_,rfl,rfl,fun h=>by cases h⟩) (.inl rfl) (fun k21 x21 o21 h21=>?_) (fun k21=>?_)
  rotate_left
  · skip
    refine thenQ.p (thenQ.p (blkQ.p (thenQ.p ?_)))
    exact⟨_,QN [.k,.k] _,_,rfl,rfl,Qn [.k,.k] _,EvR.er ((GY 29 a y s f).trans (Bc (Wh k21))) k21⟩
  obtain⟨⟨t1,x1⟩,f1,j1,o1_,hi1,hj1,⟨zs,rfl,hz5,hzs⟩,hf1,rfl,rfl⟩:=h21
  refine JL.nil ?_
  refine thenQ.n ⟨[_],_,rfl,rfl,rfl,rfl,rfl,Wp 4 rfl rfl,⟨rfl,rfl⟩,trivial,?_⟩
  refine JX.conv (S':=[6,5,4,3,2,1,0]) rfl (by(try simp only[QS]);rfl) (by(try simp only[Ua,Uj,Q5,QS,Flt.val,Flt.bx,nx,nl,Qk,Qz,QA,Qy,QR,AV.cellsOf,Qd,Qe,Nat.reduceAdd]);rfl) ?_
  refine JX.fin (by kernel_rfl) (by kernel_rfl) fun bs_=>?_
  refine QX.conv (by(try simp only[Ua,Uj,Q5,QS,Flt.val,Flt.bx,nx,nl,Qk,Qz,QA,Qy,QR,AV.cellsOf,Qd,Qe,Nat.reduceAdd]);rfl) ?_
  refine thenQ.n (J.seq (J.reown (Reown.cons (Reown.cons (Reown.cons (U0 _ [])))) (Qg (Zq rfl (Qb 3 PZ (.tmp rfl) rfl rfl) ?_))))
  refine Qs [] Yx rfl Lent.nil (fun _=>(.cons (.tmp rfl) (.cons .const .nil))) (XE _ _) (.inl rfl) (fun k23 x23 o23 h23=>?_) (fun k23=>?_)
  rotate_left
  · skip
    refine thenQ.p (blkQ.p (thenQ.p ?_))
    exact⟨_,QN [.k,.k,.k,.k,.k,.k,.k] _,_,rfl,rfl,Qn [.k,.k,.k,.k,.k,.k,.k] _,EvR.er (c:=71) ((GY 29 a y s f).trans ((Bc hi1).trans (if_neg k23))) (by decide)⟩
  obtain⟨rfl,rfl⟩:=h23
  refine Zn (J.seq ?_)
  obtain⟨rfl,hgx⟩:=hzs k23
  exact Qg (Zq rfl (Qf 4 Qj (.tmp rfl) rfl (Qm vl rfl) vl) (Qc 0 Qj (.tmp rfl) rfl (.tmp rfl) rfl vl rfl rfl (Zn (J.ret (blkQ.r (thenQ.r (Zr [.k,.k,.p,.k,.k,.k,.k] (RetEv.one rfl (REv.cell 0 Qj rfl rfl (Qm vl rfl) vl lr)) rfl (EvR.ok ((GY 29 a y s f).trans ((Bc hi1).trans (if_pos k23)))))))))))

end
section
/- What the machine's branches come to, plain. -/
theorem Mw{o:Int}{b:Nat}{t:Ui}{l:List EX}(h:(EX.mk o b t l).ok=true):0≤o∧o<30∧l.length≤8∧(o=23∨o≤7∨((o=8∨o=10∨o=15∨o=20∨o=26)∧l.length=1)∨(o=21∧l.length=3)∨(8≤o∧o≠8∧o≠10∧o≠15∧o≠20∧o≠26∧o≠21∧o≠23∧l.length=2)):=by
  have hb:=Hc h
  simp only[EX.ok,Bool.and_eq_true,Bool.or_eq_true,decide_eq_true_eq,beq_iff_eq]at h
  obtain⟨⟨⟨⟨⟨-,h1⟩,-⟩,-⟩,-⟩,-⟩:=h
  simp only[EX.op,EX.args]at h1
  unfold Q7 at h1
  refine⟨hb.1,hb.2.1,hb.2.2.2,?_⟩
  repeat' split at h1
  all_goals omega
theorem Po{l:List EX}(h:l.length=2):∃a b,l=[a,b]:=by
  match l,h with
  |[a,b],_=>exact⟨a,b,rfl⟩
theorem ethree{l:List EX}(h:l.length=3):∃a b c,l=[a,b,c]:=by
  match l,h with
  |[a,b,c],_=>exact⟨a,b,c,rfl⟩
section
variable {o:Int} {b:Nat} {t:Ui} {l:List EX} {s:ScT} {f:Int} {a y z:EX}
theorem ev_lo(h:f<1):(EX.mk o b t l).ev s f=.error 83:=by rw[EX.ev,if_pos h]
theorem ev_0(h:¬f<1):(EX.mk 0 b t l).ev s f=.ok (.nil,f-1):=by rw[EX.ev,if_neg h];rfl
theorem ev_1(h:¬f<1):(EX.mk 1 b t l).ev s f=.ok (.tr false,f-1):=by rw[EX.ev,if_neg h];rfl
theorem ev_2(h:¬f<1):(EX.mk 2 b t l).ev s f=.ok (.tr true,f-1):=by rw[EX.ev,if_neg h];rfl
theorem ev_3(h:¬f<1):(EX.mk 3 b t l).ev s f=.ok (.nu b,f-1):=by rw[EX.ev,if_neg h];rfl
theorem ev_4(h:¬f<1):(EX.mk 4 b t l).ev s f=.ok (.tx t,f-1):=by rw[EX.ev,if_neg h];rfl
theorem ev_5(h:¬f<1):(EX.mk 5 b t l).ev s f=.ok (s.st,f-1):=by rw[EX.ev,if_neg h];rfl
theorem ev_6(h:¬f<1):(EX.mk 6 b t l).ev s f=.ok (s.ev,f-1):=by rw[EX.ev,if_neg h];rfl
theorem ev_7(h:¬f<1):(EX.mk 7 b t l).ev s f=.ok (s.it,f-1):=by rw[EX.ev,if_neg h];rfl
theorem EY(h:¬f<1):(EX.mk 18 b t l).ev s f=U3 false l s (f-1):=by rw[EX.ev,if_neg h];rfl
theorem EW(h:¬f<1):(EX.mk 19 b t l).ev s f=U3 true l s (f-1):=by rw[EX.ev,if_neg h];rfl
theorem Ta(h:¬f<1):(EX.mk 21 b t l).ev s f=Wr l s (f-1):=by rw[EX.ev,if_neg h];rfl
theorem KX(ho:o=27∨o=28∨o=29)(h:¬f<1):(EX.mk o b t l).ev s f=Yq o l s (f-1):=by
  rcases ho with rfl|rfl|rfl<;>(rw[EX.ev,if_neg h];rfl)
def plE(o:Int)(t:Ui)(r:ER (List V)):ER V:=match r with
  |.error e=>.error e
  |.ok (vs,f1)=>match UR o t vs with
    |.error e=>.error e
    |.ok v=>.ok (v,f1)
theorem Ng(h:¬f<1)(hn:o=23∨(8≤o∧o≠18∧o≠19∧o≠21∧o≠27∧o≠28∧o≠29)):(EX.mk o b t l).ev s f=plE o t (Q8 l s (f-1)):=by
  rw[EX.ev,if_neg h,if_neg (by omega),if_neg (by omega),if_neg (by omega),if_neg (by omega),if_neg (by omega),if_neg (by omega),if_neg (by omega),if_neg (by omega),if_neg (by omega),if_neg (by omega),if_neg (by omega),if_neg (by omega)]
  rfl
theorem NM{vs:List V}{v:V}{r:ER (List V)}{f1:Int}(h:r=.ok (vs,f1))(h2:UR o t vs=.ok v):plE o t r=.ok (v,f1):=by subst h;simp only[plE,h2]
theorem plE_er{vs:List V}{r:ER (List V)}{f1 c:Int}(h:r=.ok (vs,f1))(h2:UR o t vs=.error c):plE o t r=.error c:=by subst h;simp only[plE,h2]
theorem plE_no{r:ER (List V)}{c:Int}(h:r=.error c):plE o t r=.error c:=by subst h;rfl
theorem ao_er{k:Bool}{c:Int}(h:UW (a.ev s f)=.error c):U3 k [a,y] s f=.error c:=by unfold U3;rw[h]
theorem ao_1{k:Bool}{f1:Int}(h:UW (a.ev s f)=.ok (k,f1)):U3 k [a,y] s f=.ok (.tr k,f1):=by unfold U3;rw[h];simp
theorem ao_2{k:Bool}{f1 c:Int}(h:UW (a.ev s f)=.ok (!k,f1))(h2:UW (y.ev s f1)=.error c):U3 k [a,y] s f=.error c:=by unfold U3;rw[h];cases k<;>simp[h2]
theorem ao_3{k b2:Bool}{f1 f2:Int}(h:UW (a.ev s f)=.ok (!k,f1))(h2:UW (y.ev s f1)=.ok (b2,f2)):U3 k [a,y] s f=.ok (.tr b2,f2):=by unfold U3;rw[h];cases k<;>simp[h2]
theorem if_er{c:Int}(h:UW (a.ev s f)=.error c):Wr [a,y,z] s f=.error c:=by unfold Wr;rw[h]
theorem if_t{f1:Int}(h:UW (a.ev s f)=.ok (true,f1)):Wr [a,y,z] s f=y.ev s f1:=by unfold Wr;rw[h];rfl
theorem if_f{f1:Int}(h:UW (a.ev s f)=.ok (false,f1)):Wr [a,y,z] s f=z.ev s f1:=by unfold Wr;rw[h];rfl
def Ki(vs:List V):ER (List V)→ER (List V)
  |.error e=>.error e
  |.ok (r,f)=>.ok (vs++r,f)
theorem M4(r:ER (List V)):r=Ki [] r:=by cases r<;>rfl
theorem EV{j:Nat}{vs:List V}{c:Int}(hj:j<l.length)(h:l[j].ev s f=.error c):Ki vs (Q8 (l.drop j) s f)=.error c:=by
  rw[List.drop_eq_getElem_cons hj,Q8,h];rfl
theorem R8{j:Nat}{vs:List V}{v:V}{f1:Int}(hj:j<l.length)(h:l[j].ev s f=.ok (v,f1)):Ki vs (Q8 (l.drop j) s f)=Ki (vs++[v]) (Q8 (l.drop (j+1)) s f1):=by
  rw[List.drop_eq_getElem_cons hj,Q8,h]
  simp only[]
  cases Q8 (l.drop (j+1)) s f1 with
  |error c=>rfl
  |ok p=>simp[Ki]
theorem R9{vs:List V}:Ki vs (Q8 [] s f)=.ok (vs,f):=by rw[Q8];simp[Ki]
theorem KW{e:We}{base z:List AV}(hz:z.length=e.sz)(hb:base.length=e.sz:=by rfl):Ym (fun i=>some (i*e.sz,e.sz)) base [(0,z)]=some [z].flatten:=by
  have h1:QT base 0 z=z:=UY (by rw[hz,hb])
  have h2:Nat.ble e.sz e.sz=true:=Nat.ble_eq_true_of_le (Nat.le_refl _)
  simp[Ym,hz,hb,h1,h2]
theorem HA{e:We}{z:List AV}(hz:z.length=e.sz):(([z]:List (List AV)).all fun x=>Nat.beq x.length e.sz)=true:=by simp[hz]
theorem Py(vs:List V)(v:V):V.css false vs++[v.cs false]=V.css false (vs++[v]):=by
  induction vs with
  |nil=>rfl
  |cons x r ih=>rw[List.cons_append,V.css,V.css,← ih];rfl
end

end
section
/- Walks: the machine reckons an expression. -/
set_option maxRecDepth 10000
set_option maxHeartbeats 4000000
theorem Sw:∀(n:Nat),D5 n:=by
  intro n
  induction n with
  |zero=>intro e s f b fr hw hf hs h0 hn;exact absurd hn (by have:=EX.sz_pos e;omega)
  |succ n ih=>
    intro e s f b fr hw hf hs h0 hn
    obtain⟨o,bb,t,l⟩:=e
    obtain⟨ho0,ho30,hl8,hoa⟩:=Mw hf.part
    obtain⟨-,-,htr,hl56,hwl⟩:=hw.inv
    have hfl:∀x∈l,x.Fine:=fun x hx=>hf.kid hx
    have hsz:∀x∈l,x.sz≤n:=fun x hx=>by
      obtain⟨i,hi,rfl⟩:=List.getElem_of_mem hx
      exact EX.sz_get hn hi
    refine AC.of_J Tryz.func87 rfl Tryz.ntmps87 rfl fun w0 A0=>?_
    refine Zs (Qp (.tmp rfl) rfl fun b3=>JL.alloc WQ rfl rfl fun b4=>Zn (Zs (Zq rfl (QW.move (.tmp rfl)) (Zq rfl (QG (.tmp rfl)) (Zq rfl (Qa Lf (.tmp rfl) rfl) (Zq rfl (Qb 2 UQ (.tmp rfl) rfl NS) (Zq rfl (QW.gtr (.tmp rfl) .const) ?_)))))))
    refine Qs [] Yx rfl Lent.nil (fun _=>(.cons (.tmp rfl) (.cons .const .nil))) (XE _ _) (.inl rfl) (fun k13 x13 o13 h13=>?_) (fun k13=>?_)
    rotate_left
    · skip
      refine thenQ.p ?_
      exact⟨_,QN [.k,.k,.k] _,_,rfl,rfl,Qn [.k,.k,.k] _,EvR.er (c:=83) (ev_lo (by simp at k13;omega)) (by decide)⟩
    obtain⟨rfl,rfl⟩:=h13
    refine Zn (Zs ?_)
    have hlo:¬f<1:=by(simp at k13;omega)
    have h1:KQ (f-1):=⟨by omega,by have:=h0.2;omega⟩
    refine Zq rfl (QW.move (.tmp rfl)) (Zq rfl (QG (.tmp rfl)) (Zq rfl (Qa Lf (.tmp rfl) rfl) (Zq rfl (Qb 2 UQ (.tmp rfl) rfl NS) (Zq rfl (QW.sub (.tmp rfl) .const (WW (by have:=h0.2;omega))) ?_))))
    refine Zq rfl (QG (.tmp rfl)) (Zq rfl (Qa Lf (.tmp rfl) rfl) (JL.store_box 2 UQ (.tmp rfl) rfl (.tmp rfl) rfl rfl (by rw[Hm];rfl) En rfl ?_))
    refine Zn (J.seq (Zs (Zq rfl (Qa YQ (.tmp rfl) rfl) (Zq rfl (Qb 1 UQ (.tmp rfl) rfl rfl) (Zn (J.block (Zs (Zq rfl (QW.eql (.tmp rfl) .const) (Zq rfl (QW.assign (.tmp rfl)) ?_)))))))))
    refine Zn ?_
    refine J.cond (.tmp rfl) (fun c1=>?_) (fun c1=>?_)
    · skip
      obtain rfl:o=0:=by simpa using c1
      exact Zs (Zq rfl (QW.build (idx:=[]) Xt WQ rfl .nil rfl rfl rfl rfl) (Qc 0 Qj (.tmp rfl) rfl (.tmp rfl) rfl rfl rfl rfl (Zn (J.ret (blkQ.r (thenQ.r (Zr [.k,.k,.p] (RetEv.one rfl (REv.cell 0 Qj rfl rfl rfl rfl (.aggL (.cons lr (.cons lr (.cons lr (.cons (.nil false false _) (.cons (.nil false false _) .nil)))))))) rfl (EvR.ok (v:=.nil) (ev_0 hlo)))))))))
    have n0:¬o=0:=by simpa using c1
    refine J.seq (Zs (Zq rfl (QW.eql (.tmp rfl) .const) (Zq rfl (QW.assign (.tmp rfl)) (Zn ?_))))
    refine J.cond (.tmp rfl) (fun c2=>?_) (fun c2=>?_)
    · skip
      obtain rfl:o=1:=by simpa using c2
      refine Zk ?_
      refine J.cond (.tmp rfl) (fun c3=>?_) (fun c3=>absurd c3 (by rw[c2];decide))
      exact Zs (Zq rfl (Qa YQ (.tmp rfl) rfl) (Zq rfl (Qb 1 UQ (.tmp rfl) rfl rfl) (Zq rfl (QW.eql (.tmp rfl) .const) (Zq rfl (QW.call X3 (.cons (.tmp rfl) .nil) (Wm _)) (Qc 0 Qj (.tmp rfl) rfl (.tmp rfl) rfl rfl rfl rfl (Zn (J.ret (blkQ.r (thenQ.r (Zr [.k,.k,.p] (RetEv.one rfl (REv.cell 0 Qj rfl rfl rfl rfl lr)) rfl (EvR.ok (v:=.tr false) (ev_1 hlo))))))))))))
    have n1:¬o=1:=by simpa using c2
    refine Qg (Zq rfl (QW.eql (.tmp rfl) .const) (Zq rfl (QW.assign (.tmp rfl)) (Zn ?_)))
    refine J.cond (.tmp rfl) (fun c3=>?_) (fun c3=>?_)
    · skip
      obtain rfl:o=2:=by simpa using c3
      exact Zs (Zq rfl (Qa YQ (.tmp rfl) rfl) (Zq rfl (Qb 1 UQ (.tmp rfl) rfl rfl) (Zq rfl (QW.eql (.tmp rfl) .const) (Zq rfl (QW.call X3 (.cons (.tmp rfl) .nil) (Wm _)) (Qc 0 Qj (.tmp rfl) rfl (.tmp rfl) rfl rfl rfl rfl (Zn (J.ret (blkQ.r (thenQ.r (Zr [.k,.k,.p] (RetEv.one rfl (REv.cell 0 Qj rfl rfl rfl rfl lr)) rfl (EvR.ok (v:=.tr true) (ev_2 hlo))))))))))))
    have n2:¬o=2:=by simpa using c3
    refine Zs (Zq rfl (QW.eql (.tmp rfl) .const) (Zq rfl (QW.assign (.tmp rfl)) (Zn ?_)))
    refine J.cond (.tmp rfl) (fun c4=>?_) (fun c4=>?_)
    · skip
      obtain rfl:o=3:=by simpa using c4
      exact Zs (Zq rfl (Qa N4 (.tmp rfl) rfl) (Zq rfl (Qb 1 Wi (.tmp rfl) rfl rfl) (Zq rfl (QW.call Gs (.cons (.tmp rfl) .nil) (Gk _)) (Qc 0 Qj (.tmp rfl) rfl (.tmp rfl) rfl rfl rfl rfl (Zn (J.ret (blkQ.r (thenQ.r (Zr [.k,.k,.p] (RetEv.one rfl (REv.cell 0 Qj rfl rfl rfl rfl lr)) rfl (EvR.ok (v:=.nu bb) (ev_3 hlo)))))))))))
    have n3:¬o=3:=by simpa using c4
    refine Zs (Zq rfl (QW.eql (.tmp rfl) .const) (Zq rfl (QW.assign (.tmp rfl)) (Zn ?_)))
    refine J.cond (.tmp rfl) (fun c5=>?_) (fun c5=>?_)
    · skip
      obtain rfl:o=4:=by simpa using c5
      exact Zs (Zq rfl (Qa N3 (.tmp rfl) rfl) (Zq rfl (Qb 1 U9 (.tmp rfl) rfl rfl) (Zq rfl (QW.build (idx:=[0,2]) Xt WQ rfl (.cons .const (.cons (.tmp rfl) .nil)) rfl rfl rfl rfl) (Qc 0 Qj (.tmp rfl) rfl (.tmp rfl) rfl rfl rfl rfl (Zn (J.ret (blkQ.r (thenQ.r (Zr [.k,.k,.p] (RetEv.one rfl (REv.cell 0 Qj rfl rfl rfl rfl (.aggL (.cons lr (.cons lr (.cons lr (.cons (.nil false false _) (.cons (.nil false false _) .nil)))))))) rfl (EvR.ok (v:=.tx t) (ev_4 hlo)))))))))))
    have n4:¬o=4:=by simpa using c5
    refine Zs (Zq rfl (QW.eql (.tmp rfl) .const) (Zq rfl (QW.assign (.tmp rfl)) (Zn ?_)))
    refine J.cond (.tmp rfl) (fun c6=>?_) (fun c6=>?_)
    · skip
      obtain rfl:o=5:=by simpa using c6
      refine Zs (Zq rfl (QW.move (.tmp rfl)) (Zq rfl (QG (.tmp rfl)) (Zq rfl (Qa X7 (.tmp rfl) rfl) (Zq rfl (Qa Li (.tmp rfl) rfl) (Zq rfl (Qf 2 Qj (.tmp rfl) rfl (MZ 0) vl) (Qc 0 Qj (.tmp rfl) rfl (.tmp rfl) rfl vl rfl rfl (Zn (J.ret (blkQ.r ?_)))))))))
      exact thenQ.r (Zr [.k,.k,.p] (RetEv.one rfl (REv.cell 0 Qj rfl rfl (Qm vl rfl) vl lr)) rfl (EvR.ok (v:=s.st) (ev_5 hlo)))
    have n5:¬o=5:=by simpa using c6
    refine Zs (Zq rfl (QW.eql (.tmp rfl) .const) (Zq rfl (QW.assign (.tmp rfl)) (Zn ?_)))
    refine J.cond (.tmp rfl) (fun c7=>?_) (fun c7=>?_)
    · skip
      obtain rfl:o=6:=by simpa using c7
      refine Zs (Zq rfl (QW.move (.tmp rfl)) (Zq rfl (QG (.tmp rfl)) (Zq rfl (Qa X7 (.tmp rfl) rfl) (Zq rfl (Qa Qac (.tmp rfl) rfl) (Zq rfl (Qf 2 Qj (.tmp rfl) rfl (MZ 1) vl) (Qc 0 Qj (.tmp rfl) rfl (.tmp rfl) rfl vl rfl rfl (Zn (J.ret (blkQ.r ?_)))))))))
      exact thenQ.r (Zr [.k,.k,.p] (RetEv.one rfl (REv.cell 0 Qj rfl rfl (Qm vl rfl) vl lr)) rfl (EvR.ok (v:=s.ev) (ev_6 hlo)))
    have n6:¬o=6:=by simpa using c7
    refine Zs (Zq rfl (QW.eql (.tmp rfl) .const) (Zq rfl (QW.assign (.tmp rfl)) (Zn ?_)))
    refine J.cond (.tmp rfl) (fun c8=>?_) (fun c8=>?_)
    · skip
      obtain rfl:o=7:=by simpa using c8
      refine Zs (Zq rfl (QW.move (.tmp rfl)) (Zq rfl (QG (.tmp rfl)) (Zq rfl (Qa X7 (.tmp rfl) rfl) (Zq rfl (Qa GW (.tmp rfl) rfl) (Zq rfl (Qf 2 Qj (.tmp rfl) rfl (MZ 2) vl) (Qc 0 Qj (.tmp rfl) rfl (.tmp rfl) rfl vl rfl rfl (Zn (J.ret (blkQ.r ?_)))))))))
      exact thenQ.r (Zr [.k,.k,.p] (RetEv.one rfl (REv.cell 0 Qj rfl rfl (Qm vl rfl) vl lr)) rfl (EvR.ok (v:=s.it) (ev_7 hlo)))
    have n7:¬o=7:=by simpa using c8
    refine Zs (Zq rfl (QW.eql (.tmp rfl) .const) (Zq rfl (QW.assign (.tmp rfl)) (Zn ?_)))
    refine J.cond (.tmp rfl) (fun c9=>?_) (fun c9=>?_)
    · skip
      obtain rfl:o=18:=by simpa using c9
      obtain⟨a,y,rfl⟩:=Po (l:=l) (by omega)
      refine Zs (Zq rfl (QW.move (.tmp rfl)) (Zq rfl (Qa WX (.tmp rfl) rfl) (Zq rfl (Qb 1 K4 (.tmp rfl) rfl rfl) (Zq rfl (Qi XT Uz rfl (.tmp rfl) .const rfl (by rfl)) ?_))))
      refine Zq rfl (Ql Uz (.tmp rfl) (QH xl rfl) xl) ?_
      refine Qs [.k,.k,.p] Gr rfl Lent.nil (fun _=>(.cons (.tmp rfl) (.cons (.tmp rfl) .nil))) (Yw (e:=a) (f:=f-1) ih Xc.self (hwl _ (by simp)) (hfl _ (by simp)) hs h1 (hsz _ (by simp))) (.inl rfl) (fun k71 x71 o71 h71=>?_) (fun k71=>?_)
      rotate_left
      · skip
        refine thenQ.p (blkQ.p (thenQ.p ?_))
        exact⟨_,QN [.k,.k] _,_,rfl,rfl,Qn [.k,.k] _,EvR.er ((EY hlo).trans (ao_er (Wh k71))) k71⟩
      obtain⟨q71,f71,hq71,rfl,rfl⟩:=h71
      have h2:KQ f71:=XS (hwl _ (by simp)) (hfl _ (by simp)) hs h1 hq71
      refine Zq rfl (QW.move (.tmp rfl)) ?_
      by_cases hs_q71:q71=false
      · subst hs_q71
        refine Wx rfl rfl rfl rfl (Wx rfl rfl rfl rfl (Wx rfl rfl rfl rfl (Wx rfl rfl rfl rfl (Wx rfl rfl rfl rfl (Wx rfl rfl rfl rfl (Zq rfl (Rm (.tmp rfl)) (Zq rfl (QW.call X3 (.cons (.tmp rfl) .nil) (Wm _)) (Qc 0 Qj (.tmp rfl) rfl (.tmp rfl) rfl rfl rfl rfl (Zn ?_)))))))))
        exact J.ret (blkQ.r (thenQ.r (Zr [.k,.k,.p] (RetEv.one rfl (REv.cell 0 Qj rfl rfl rfl rfl lr)) rfl (EvR.ok (v:=.tr false) ((EY hlo).trans (ao_1 hq71))))))
      obtain rfl:q71=true:=by simpa using hs_q71
      refine U2 rfl rfl rfl (Zq rfl (QW.move (.tmp rfl)) (U2 rfl rfl rfl (Zq rfl (Qa WX (.tmp rfl) rfl) (U2 rfl rfl rfl (Zq rfl (Qb 1 K4 (.tmp rfl) rfl rfl) (U2 rfl rfl rfl (Zq rfl (Qi XT Uz rfl (.tmp rfl) .const rfl (by rfl)) ?_)))))))
      refine U2 rfl rfl rfl (Zq rfl (Ql Uz (.tmp rfl) (QH xl rfl) xl) (U2 rfl rfl rfl ?_))
      refine Qs [.k,.k,.p] Gr rfl Lent.nil (fun _=>(.cons (.tmp rfl) (.cons (.tmp rfl) .nil))) (Yw (e:=y) (f:=f71) ih Xc.self (hwl _ (by simp)) (hfl _ (by simp)) hs h2 (hsz _ (by simp))) (.inl rfl) (fun k78 x78 o78 h78=>?_) (fun k78=>?_)
      rotate_left
      · skip
        refine thenQ.p (blkQ.p (thenQ.p ?_))
        exact⟨_,QN [.k,.k] _,_,rfl,rfl,Qn [.k,.k] _,EvR.er ((EY hlo).trans (ao_2 (k:=false) hq71 (Wh k78))) k78⟩
      obtain⟨q78,f78,hq78,rfl,rfl⟩:=h78
      exact Zq rfl (Ha (.tmp rfl) (.tmp rfl)) (Zq rfl (QW.call X3 (.cons (.tmp rfl) .nil) (Wm _)) (Qc 0 Qj (.tmp rfl) rfl (.tmp rfl) rfl rfl rfl rfl (Zn (J.ret (blkQ.r (thenQ.r (Zr [.k,.k,.p] (RetEv.one rfl (REv.cell 0 Qj rfl rfl rfl rfl lr)) rfl (EvR.ok (v:=.tr q78) ((EY hlo).trans (ao_3 (k:=false) hq71 hq78))))))))))
    have n18:¬o=18:=by simpa using c9
    refine Zs (Zq rfl (QW.eql (.tmp rfl) .const) (Zq rfl (QW.assign (.tmp rfl)) (Zn ?_)))
    refine J.cond (.tmp rfl) (fun c10=>?_) (fun c10=>?_)
    · skip
      obtain rfl:o=19:=by simpa using c10
      obtain⟨a,y,rfl⟩:=Po (l:=l) (by omega)
      refine Zs (Zq rfl (QW.move (.tmp rfl)) (Zq rfl (Qa WX (.tmp rfl) rfl) (Zq rfl (Qb 1 K4 (.tmp rfl) rfl rfl) (Zq rfl (Qi XT Uz rfl (.tmp rfl) .const rfl (by rfl)) ?_))))
      refine Zq rfl (Ql Uz (.tmp rfl) (QH xl rfl) xl) ?_
      refine Qs [.k,.k,.p] Gr rfl Lent.nil (fun _=>(.cons (.tmp rfl) (.cons (.tmp rfl) .nil))) (Yw (e:=a) (f:=f-1) ih Xc.self (hwl _ (by simp)) (hfl _ (by simp)) hs h1 (hsz _ (by simp))) (.inl rfl) (fun k88 x88 o88 h88=>?_) (fun k88=>?_)
      rotate_left
      · skip
        refine thenQ.p (blkQ.p (thenQ.p ?_))
        exact⟨_,QN [.k,.k] _,_,rfl,rfl,Qn [.k,.k] _,EvR.er ((EW hlo).trans (ao_er (Wh k88))) k88⟩
      obtain⟨q88,f88,hq88,rfl,rfl⟩:=h88
      have h2:KQ f88:=XS (hwl _ (by simp)) (hfl _ (by simp)) hs h1 hq88
      refine Zq rfl (QW.move (.tmp rfl)) ?_
      by_cases hs_q88:q88=true
      · subst hs_q88
        refine Wx rfl rfl rfl rfl (Wx rfl rfl rfl rfl (Wx rfl rfl rfl rfl (Wx rfl rfl rfl rfl (Wx rfl rfl rfl rfl (Wx rfl rfl rfl rfl (Zq rfl (TC (.tmp rfl)) (Zq rfl (QW.call X3 (.cons (.tmp rfl) .nil) (Wm _)) (Qc 0 Qj (.tmp rfl) rfl (.tmp rfl) rfl rfl rfl rfl (Zn ?_)))))))))
        exact J.ret (blkQ.r (thenQ.r (Zr [.k,.k,.p] (RetEv.one rfl (REv.cell 0 Qj rfl rfl rfl rfl lr)) rfl (EvR.ok (v:=.tr true) ((EW hlo).trans (ao_1 hq88))))))
      obtain rfl:q88=false:=by simpa using hs_q88
      refine U2 rfl rfl rfl (Zq rfl (QW.move (.tmp rfl)) (U2 rfl rfl rfl (Zq rfl (Qa WX (.tmp rfl) rfl) (U2 rfl rfl rfl (Zq rfl (Qb 1 K4 (.tmp rfl) rfl rfl) (U2 rfl rfl rfl (Zq rfl (Qi XT Uz rfl (.tmp rfl) .const rfl (by rfl)) ?_)))))))
      refine U2 rfl rfl rfl (Zq rfl (Ql Uz (.tmp rfl) (QH xl rfl) xl) (U2 rfl rfl rfl ?_))
      refine Qs [.k,.k,.p] Gr rfl Lent.nil (fun _=>(.cons (.tmp rfl) (.cons (.tmp rfl) .nil))) (Yw (e:=y) (f:=f88) ih Xc.self (hwl _ (by simp)) (hfl _ (by simp)) hs h2 (hsz _ (by simp))) (.inl rfl) (fun k95 x95 o95 h95=>?_) (fun k95=>?_)
      rotate_left
      · skip
        refine thenQ.p (blkQ.p (thenQ.p ?_))
        exact⟨_,QN [.k,.k] _,_,rfl,rfl,Qn [.k,.k] _,EvR.er ((EW hlo).trans (ao_2 (k:=true) hq88 (Wh k95))) k95⟩
      obtain⟨q95,f95,hq95,rfl,rfl⟩:=h95
      exact Zq rfl (TD (.tmp rfl) (.tmp rfl)) (Zq rfl (QW.call X3 (.cons (.tmp rfl) .nil) (Wm _)) (Qc 0 Qj (.tmp rfl) rfl (.tmp rfl) rfl rfl rfl rfl (Zn (J.ret (blkQ.r (thenQ.r (Zr [.k,.k,.p] (RetEv.one rfl (REv.cell 0 Qj rfl rfl rfl rfl lr)) rfl (EvR.ok (v:=.tr q95) ((EW hlo).trans (ao_3 (k:=true) hq88 hq95))))))))))
    have n19:¬o=19:=by simpa using c10
    refine Zs (Zq rfl (QW.eql (.tmp rfl) .const) (Zq rfl (QW.assign (.tmp rfl)) (Zn ?_)))
    refine J.cond (.tmp rfl) (fun c11=>?_) (fun c11=>?_)
    · skip
      obtain rfl:o=21:=by simpa using c11
      obtain⟨a,y,z,rfl⟩:=ethree (l:=l) (by omega)
      refine J.seq (Zs (Zq rfl (QW.move (.tmp rfl)) (Zq rfl (Qa WX (.tmp rfl) rfl) (Zq rfl (Qb 1 K4 (.tmp rfl) rfl rfl) (Zq rfl (Qi XT Uz rfl (.tmp rfl) .const rfl (by rfl)) ?_)))))
      refine Zq rfl (Ql Uz (.tmp rfl) (QH xl rfl) xl) ?_
      refine Qs [.k,.k,.p] Gr rfl Lent.nil (fun _=>(.cons (.tmp rfl) (.cons (.tmp rfl) .nil))) (Yw (e:=a) (f:=f-1) ih Xc.self (hwl _ (by simp)) (hfl _ (by simp)) hs h1 (hsz _ (by simp))) (.inl rfl) (fun k105 x105 o105 h105=>?_) (fun k105=>?_)
      rotate_left
      · skip
        refine thenQ.p (thenQ.p (blkQ.p (thenQ.p ?_)))
        exact⟨_,QN [.k,.k] _,_,rfl,rfl,Qn [.k,.k] _,EvR.er ((Ta hlo).trans (if_er (Wh k105))) k105⟩
      obtain⟨q105,f105,hq105,rfl,rfl⟩:=h105
      refine Zn ?_
      refine J.cond (.tmp rfl) (fun c12=>?_) (fun c12=>?_)
      · skip
        obtain rfl:q105=true:=c12
        have h2:KQ f105:=XS (hwl _ (by simp)) (hfl _ (by simp)) hs h1 hq105
        refine Zs (Zq rfl (QW.move (.tmp rfl)) (Zq rfl (Qa WX (.tmp rfl) rfl) (Zq rfl (Qb 1 K4 (.tmp rfl) rfl rfl) (Zq rfl (Qi XT Uz rfl (.tmp rfl) .const rfl (by rfl)) ?_))))
        refine Zq rfl (Ql Uz (.tmp rfl) (QH xl rfl) xl) ?_
        refine Qs [.k,.k,.p] Gt rfl Lent.nil (fun _=>(.cons (.tmp rfl) (.cons (.tmp rfl) .nil))) (ih y s f105 b fr (hwl _ (by simp)) (hfl _ (by simp)) hs h2 (hsz _ (by simp))) (.inl rfl) (fun k111 x111 o111 h111=>?_) (fun k111=>?_)
        rotate_left
        · skip
          refine thenQ.p (thenQ.p (blkQ.p (thenQ.p ?_)))
          exact⟨_,QN [.k,.k] _,_,rfl,rfl,Qn [.k,.k] _,EvR.er ((Ta hlo).trans ((if_t hq105).trans (Wh k111))) k111⟩
        obtain⟨v111,f111,hv111,rfl,rfl⟩:=h111
        exact Qc 0 Qj (.tmp rfl) rfl (.tmp rfl) rfl vl rfl rfl (Zn (J.ret (thenQ.r (blkQ.r (thenQ.r (Zr [.k,.k,.p] (RetEv.one rfl (REv.cell 0 Qj rfl rfl (Qm vl rfl) vl lr)) rfl (EvR.ok ((Ta hlo).trans ((if_t hq105).trans hv111)))))))))
      obtain rfl:q105=false:=c12
      have h2:KQ f105:=XS (hwl _ (by simp)) (hfl _ (by simp)) hs h1 hq105
      refine Zk (Zs (Zq rfl (QW.move (.tmp rfl)) (Zq rfl (Qa WX (.tmp rfl) rfl) (Zq rfl (Qb 1 K4 (.tmp rfl) rfl rfl) (Zq rfl (Qi XT Uz rfl (.tmp rfl) .const rfl (by rfl)) ?_)))))
      refine Zq rfl (Ql Uz (.tmp rfl) (QH xl rfl) xl) ?_
      refine Qs [.k,.k,.p] Gt rfl Lent.nil (fun _=>(.cons (.tmp rfl) (.cons (.tmp rfl) .nil))) (ih z s f105 b fr (hwl _ (by simp)) (hfl _ (by simp)) hs h2 (hsz _ (by simp))) (.inl rfl) (fun k117 x117 o117 h117=>?_) (fun k117=>?_)
      rotate_left
      · skip
        refine thenQ.p (blkQ.p (thenQ.p ?_))
        exact⟨_,QN [.k,.k] _,_,rfl,rfl,Qn [.k,.k] _,EvR.er ((Ta hlo).trans ((if_f hq105).trans (Wh k117))) k117⟩
      obtain⟨v117,f117,hv117,rfl,rfl⟩:=h117
      exact Qc 0 Qj (.tmp rfl) rfl (.tmp rfl) rfl vl rfl rfl (Zn (J.ret (blkQ.r (thenQ.r (Zr [.k,.k,.p] (RetEv.one rfl (REv.cell 0 Qj rfl rfl (Qm vl rfl) vl lr)) rfl (EvR.ok ((Ta hlo).trans ((if_f hq105).trans hv117))))))))
    have n21:¬o=21:=by simpa using c11
    refine J.seq (Zs (Zq rfl (QW.eql (.tmp rfl) .const) (Zq rfl (QW.assign (.tmp rfl)) (Zn ?_))))
    refine J.cond (.tmp rfl) (fun c12=>?_) (fun c12=>?_)
    · skip
      have ho:o=27∨o=28∨o=29:=by(have hh:=c12;simp at hh;omega)
      obtain⟨a,y,rfl⟩:=Po (l:=l) (by omega)
      refine Zk ?_
      refine J.cond (.tmp rfl) (fun c13=>?_) (fun c13=>absurd c13 (by rw[c12];decide))
      refine Zs (Zq rfl (QW.move (.tmp rfl)) (Zq rfl (Qf 1 Uz (.tmp rfl) rfl rfl rfl) ?_))
      refine Qs [.k,.k,.p] Dk rfl Lent.nil (fun _=>(.cons (.tmp rfl) (.cons (.tmp rfl) .nil))) (LM (f:=f-1) ih Xc.mk ho (hwl _ (by simp)) (hwl _ (by simp)) (hfl _ (by simp)) (hfl _ (by simp)) (hsz _ (by simp)) (hsz _ (by simp)) hs h1) (.inl rfl) (fun k124 x124 o124 h124=>?_) (fun k124=>?_)
      rotate_left
      · skip
        refine thenQ.p (blkQ.p (thenQ.p ?_))
        exact⟨_,QN [.k,.k] _,_,rfl,rfl,Qn [.k,.k] _,EvR.er ((KX ho hlo).trans (Wh k124)) k124⟩
      obtain⟨v124,f124,hv124,rfl,rfl⟩:=h124
      exact Qc 0 Qj (.tmp rfl) rfl (.tmp rfl) rfl vl rfl rfl (Zn (J.ret (blkQ.r (thenQ.r (Zr [.k,.k,.p] (RetEv.one rfl (REv.cell 0 Qj rfl rfl (Qm vl rfl) vl lr)) rfl (EvR.ok ((KX ho hlo).trans hv124)))))))
    have n27:¬o=27:=by simpa using c12
    refine Zs (Zq rfl (QW.eql (.tmp rfl) .const) (Zq rfl (QW.assign (.tmp rfl)) (Zn ?_)))
    refine J.cond (.tmp rfl) (fun c13=>?_) (fun c13=>?_)
    · skip
      have ho:o=27∨o=28∨o=29:=by(have hh:=c13;simp at hh;omega)
      obtain⟨a,y,rfl⟩:=Po (l:=l) (by omega)
      refine Zk ?_
      refine J.cond (.tmp rfl) (fun c14=>?_) (fun c14=>absurd c14 (by rw[c13];decide))
      refine Zs (Zq rfl (QW.move (.tmp rfl)) (Zq rfl (Qf 1 Uz (.tmp rfl) rfl rfl rfl) ?_))
      refine Qs [.k,.k,.p] Dk rfl Lent.nil (fun _=>(.cons (.tmp rfl) (.cons (.tmp rfl) .nil))) (LM (f:=f-1) ih Xc.mk ho (hwl _ (by simp)) (hwl _ (by simp)) (hfl _ (by simp)) (hfl _ (by simp)) (hsz _ (by simp)) (hsz _ (by simp)) hs h1) (.inl rfl) (fun k124 x124 o124 h124=>?_) (fun k124=>?_)
      rotate_left
      · skip
        refine thenQ.p (blkQ.p (thenQ.p ?_))
        exact⟨_,QN [.k,.k] _,_,rfl,rfl,Qn [.k,.k] _,EvR.er ((KX ho hlo).trans (Wh k124)) k124⟩
      obtain⟨v124,f124,hv124,rfl,rfl⟩:=h124
      exact Qc 0 Qj (.tmp rfl) rfl (.tmp rfl) rfl vl rfl rfl (Zn (J.ret (blkQ.r (thenQ.r (Zr [.k,.k,.p] (RetEv.one rfl (REv.cell 0 Qj rfl rfl (Qm vl rfl) vl lr)) rfl (EvR.ok ((KX ho hlo).trans hv124)))))))
    have n28:¬o=28:=by simpa using c13
    refine Qg (Zq rfl (QW.eql (.tmp rfl) .const) (Zq rfl (QW.assign (.tmp rfl)) (Zn ?_)))
    refine J.cond (.tmp rfl) (fun c14=>?_) (fun c14=>?_)
    · skip
      have ho:o=27∨o=28∨o=29:=by(have hh:=c14;simp at hh;omega)
      obtain⟨a,y,rfl⟩:=Po (l:=l) (by omega)
      refine Zs (Zq rfl (QW.move (.tmp rfl)) (Zq rfl (Qf 1 Uz (.tmp rfl) rfl rfl rfl) ?_))
      refine Qs [.k,.k,.p] Dk rfl Lent.nil (fun _=>(.cons (.tmp rfl) (.cons (.tmp rfl) .nil))) (LM (f:=f-1) ih Xc.mk ho (hwl _ (by simp)) (hwl _ (by simp)) (hfl _ (by simp)) (hfl _ (by simp)) (hsz _ (by simp)) (hsz _ (by simp)) hs h1) (.inl rfl) (fun k124 x124 o124 h124=>?_) (fun k124=>?_)
      rotate_left
      · skip
        refine thenQ.p (blkQ.p (thenQ.p ?_))
        exact⟨_,QN [.k,.k] _,_,rfl,rfl,Qn [.k,.k] _,EvR.er ((KX ho hlo).trans (Wh k124)) k124⟩
      obtain⟨v124,f124,hv124,rfl,rfl⟩:=h124
      exact Qc 0 Qj (.tmp rfl) rfl (.tmp rfl) rfl vl rfl rfl (Zn (J.ret (blkQ.r (thenQ.r (Zr [.k,.k,.p] (RetEv.one rfl (REv.cell 0 Qj rfl rfl (Qm vl rfl) vl lr)) rfl (EvR.ok ((KX ho hlo).trans hv124)))))))
    have n29:¬o=29:=by simpa using c14
    have hpl:o=23∨(8≤o∧o≠18∧o≠19∧o≠21∧o≠27∧o≠28∧o≠29):=by omega
    refine J.skip (blkQ.n (thenQ.n (Zs (Zq rfl (QW.assign .const) (Zn (J.seq (Zs (Zq rfl (Qa WX (.tmp rfl) rfl) (Zq rfl (Qb 1 K4 (.tmp rfl) rfl rfl) ?_)))))))))
    refine Zq rfl (Qh XT (.tmp rfl) (EX.css_length _ _)) (Zq rfl (QW.move .const) (Zn (J.block (J.reown (Uf eV _) (Q0 (ι:=Nat×Value×List V×Int) [0,3,4,126,127] (fun⟨j,v,vs,g1⟩=>[(128,.c (.int .i64 (j:Int))),(5,.c v)]) (fun⟨j,v,vs,g1⟩ oo=>List.set (List.set oo 3 (.arr v eV (V.css false vs))) 2 (mb b s g1)) (fun⟨j,v,vs,g1⟩=>j≤l.length∧vs.length=j∧(∀x∈vs,x.good)∧KQ g1∧Q8 l s (f-1)=Ki vs (Q8 (l.drop j) s g1)) (fun⟨j,v,vs,g1⟩=>l.length-j) ⟨0,.slice none 0 0,[],f-1⟩ (⟨Nat.zero_le _,rfl,(fun _ h=>by cases h),h1,M4 _⟩) (QK (.cons rfl lr (.cons rfl lr (.cons rfl lr (.cons rfl lr (.cons rfl lr (.cons rfl lr (.cons rfl lr .nil))))))) (Reown.refl _) (fun _ h=>by first|exact h|simp[h])) ?_)))))
    intro⟨j,v,vs,g1⟩ ⟨hj,hvl,hvg,hg1,hevs⟩
    refine J.conv (by(try simp only[nl,Qk,Qz,QA,Qy,QR,AV.cellsOf,Qd,Qe,Nat.reduceAdd]);rfl) ?_
    refine Zs (Zq rfl (QW.lss (.tmp rfl) (.tmp rfl)) (Zn (J.seq ?_)))
    refine J.cond (.tmp rfl) (fun c15=>?_) (fun c15=>?_)
    · skip
      have hlt:j<l.length:=by simpa[EX.css_length]using c15
      refine Zk (J.seq (J.block (Zs (Zq rfl (Qi XT Uz rfl (.tmp rfl) (.tmp rfl) rfl (by exact EX.css_getE _ hlt)) ?_))))
      refine Zq rfl (Ql Uz (.tmp rfl) (QH xl rfl) xl) (JL.alloc z79 rfl rfl fun b7=>Qc 0 Uz (.tmp rfl) rfl (.tmp rfl) rfl xl rfl rfl (Zn (Qg (Zq rfl (QW.move (.tmp rfl)) (Zq rfl (QW.move (.tmp rfl)) (Zq rfl (Qf 0 Uz (.tmp rfl) rfl (Qm xl rfl) xl) ?_))))))
      refine Qs [.k,.k,.k,.p] Gt rfl Lent.nil (fun _=>(.cons (.tmp rfl) (.cons (.tmp rfl) .nil))) (ih l[j] s g1 b fr (hwl _ (List.getElem_mem hlt)) (hfl _ (List.getElem_mem hlt)) hs hg1 (hsz _ (List.getElem_mem hlt))) (.inl rfl) (fun k135 x135 o135 h135=>?_) (fun k135=>?_)
      rotate_left
      · skip
        refine blkQ.p (thenQ.p (thenQ.p (blkQ.p (thenQ.p ?_))))
        exact⟨_,QN [.k,.k,.k,.k] _,_,rfl,rfl,Qn [.k,.k,.k,.k] _,EvR.er ((Ng hlo hpl).trans (plE_no (hevs.trans (EV hlt (Wh k135))))) k135⟩
      obtain⟨v135,f135,hv135,rfl,rfl⟩:=h135
      refine Zq rfl (QW.buildSlice (idx:=[0]) (xs:=[v135.cs false]) QO K6 WQ rfl (.cons (.tmp rfl) .nil) rfl rfl rfl rfl rfl (by exact KW vl) rfl (HA vl) rfl) ?_
      refine JL.append 4 QO K6 rfl (.tmp rfl) rfl (UL QO (.tmp rfl)) (by rw[V.css_length];show(_+1)*80≤_;unfold Qu;omega) rfl fun v137=>?_
      refine Zq rfl (QW.assign (.tmp rfl)) (JL.nil (blkQ.n (thenQ.n ?_)))
      rw[Py]
      refine Qg (Zq rfl (QW.add (.tmp rfl) .const (WW (by omega))) (Zq rfl (QW.move (.tmp rfl)) (Zn ?_)))
      rw[R8 hlt hv135]at hevs
      obtain⟨hgv,hfv⟩:=Kb (hwl _ (List.getElem_mem hlt)) (hfl _ (List.getElem_mem hlt)) hs hg1 hv135
      exact⟨⟨j+1,v137,vs++[v135],f135⟩,⟨hlt,by simp[hvl],fun z hz=>(List.mem_append.1 hz).elim (hvg z) (fun h=>by rw[List.mem_singleton.1 h];exact hgv),hfv,hevs⟩,by show l.length-(j+1)<l.length-j;omega,QK (.cons rfl lr (.cons rfl lr (.cons rfl lr (.cons rfl lr (.cons rfl lr (.cons rfl lr (.cons rfl lr .nil))))))) (Q9 1 _ rfl) (fun _ h=>by first|exact h|simp[h])⟩
    have hge:l.length≤j:=by simpa[EX.css_length]using c15
    refine J.exit (Qv (Qv (QM (thenQ.n (J.seq ?_)))))
    have hlj:j=l.length:=by omega
    rw[List.drop_of_length_le hge,R9]at hevs
    refine J.closeArr 3 rfl (by rw[V.css_length];show _*80≤_;unfold Qu;omega) rfl (fun z hz=>by simp only[mb,QV,UT,Own.fp,List.append_nil,List.mem_singleton]at hz;subst hz;simp[mb,QV,Own.fp]) ?_
    refine Qg (Zq rfl (Qf 1 Uz (.tmp rfl) rfl rfl rfl) (Zq rfl (QW.move (.tmp rfl)) ?_))
    refine Qs [] S4 rfl Lent.nil (fun _=>(.cons (.tmp rfl) (.cons (Ev.le (.tmp rfl) (.fact (by simp) (.slL (fr:=true) (clip:=false) (fun h=>by cases h) rfl (V.css_sz false _) (.refl _)))) .nil))) (F2 Xc.mk htr hvg ⟨by omega,by omega⟩) (.inl rfl) (fun k141 x141 o141 h141=>?_) (fun k141=>?_)
    rotate_left
    · skip
      refine thenQ.p ?_
      exact⟨_,QN [.k,.k,.k] _,_,rfl,rfl,Qn [.k,.k,.k] _,EvR.er ((Ng hlo hpl).trans (plE_er hevs (Wh k141))) k141⟩
    obtain⟨v141,hv141,rfl,rfl⟩:=h141
    exact Qc 0 Qj (.tmp rfl) rfl (.tmp rfl) rfl vl rfl rfl (Zn (J.ret (Zr [.k,.k,.p] (RetEv.one rfl (REv.cell 0 Qj rfl rfl (Qm vl rfl) vl lr)) rfl (EvR.ok ((Ng hlo hpl).trans (NM hevs hv141))))))

end
section
/- Walks: expressions, the small functions. -/
set_option maxRecDepth 10000
set_option maxHeartbeats 4000000
theorem ML(n l h:Int):Fn Tryz.prog 94 [.c (.int .i64 n),.c (.int .i64 l),.c (.int .i64 h)] (.c (.bool (decide (l≤n)&&decide (n≤h)))):=by
  refine AC.of_J Tryz.func94 rfl Tryz.ntmps94 rfl fun w0 A0=>?_
  refine Zs (Zq rfl (QW.assign .const) (Zn (Zs (Zq rfl (QW.move (.tmp rfl)) (Zq rfl (QW.move (.tmp rfl)) (Zq rfl (QW.geq (.tmp rfl) (.tmp rfl)) (Zq rfl (QW.move (.tmp rfl)) (Zg rfl (fun hg=>(QW.move (.tmp rfl))) (Zg rfl (fun hg=>(QW.move (.tmp rfl))) ?_)))))))))
  refine Zg rfl (fun hg=>(QW.leq (.when rfl hg) (.when rfl hg))) (Zq rfl (QW.pick_and (.tmp rfl) (.tmp rfl)) (Zq rfl (QW.assign (.tmp rfl)) (Zn (J.ret ?_))))
  exact⟨_,[],_,RetEv.one rfl (REv.tmp rfl lr),rfl,List.Perm.refl _,rfl,rfl⟩
theorem NR(ok:Bool)(e:Int):AC Tryz.prog 84 [] [.c (.bool ok),.c (.int .i64 e)] (PanR (ok=true) (YR e) fun x o=>x=.tup []∧o=[]):=by
  refine AC.of_J Tryz.func84 rfl Tryz.ntmps84 rfl fun w0 A0=>?_
  refine Zs (Zq rfl (QW.move (.tmp rfl)) (Zq rfl (QW.not (.tmp rfl)) (Zn ?_)))
  refine J.cond (.tmp rfl) (fun c1=>?_) (fun c1=>?_)
  · skip
    have hok:ok=false:=by simpa using c1
    refine Qg (Zq rfl (QW.move (.tmp rfl)) (Zq rfl (WO ⟨_,Tryz.underlying33,by intro ms h;cases h⟩ (.tmp rfl)) ?_))
    refine JL.panic (.tmp rfl) ?_
    exact⟨_,QN [] _,_,rfl,rfl,Qn [] _,PanR.pan (by simp[hok])⟩
  have hok:ok=true:=by simpa using c1
  exact J.skip (Zr [] (Up rfl) rfl (PanR.ret hok ⟨rfl,rfl⟩))
def Xr(o:Int):Int:=if Q7 o= -1 then 0 else if Q7 o= -2 then 2 else Q7 o
def Xs(o:Int):Int:=if Q7 o= -1 then 8 else if Q7 o= -2 then 2 else Q7 o
theorem UI{o:Int}{a b c d:Int}{k:Bool}(h:a=Xr o∧b=Xs o∧c=Uw o∧d=Ur o∧k=decide (Q7 o≠ -2)):
    W1.ret (.tup [.agg [.c (.int .i64 a),.c (.int .i64 b),.c (.int .i64 c),.c (.int .i64 d)],.c (.bool k)])=W1.ret (.tup [.agg [.c (.int .i64 (Xr o)),.c (.int .i64 (Xs o)),.c (.int .i64 (Uw o)),.c (.int .i64 (Ur o))],.c (.bool (decide (Q7 o≠ -2)))]):=by
  obtain⟨rfl,rfl,rfl,rfl,rfl⟩:=h;rfl
theorem TY(o:Int):Fn Tryz.prog 93 [.c (.int .i64 o)] (.tup [.agg [.c (.int .i64 (Xr o)),.c (.int .i64 (Xs o)),.c (.int .i64 (Uw o)),.c (.int .i64 (Ur o))],.c (.bool (decide (Q7 o≠ -2)))]):=by
  refine AC.of_J Tryz.func93 rfl Tryz.ntmps93 rfl fun w0 A0=>?_
  refine Zs (JL.alloc XO rfl rfl fun b2=>Zq rfl (QW.assign .const) (Zn (J.seq (Zs (Zq rfl (QW.move (.tmp rfl)) (Zn (J.block (J.seq ?_))))))))
  refine Zs (Zq rfl (QW.eql (.tmp rfl) .const) (Zq rfl (QW.assign (.tmp rfl)) (Zn ?_)))
  refine J.cond (.tmp rfl) (fun c1=>?_) (fun c1=>?_)
  · try (exfalso;simp at*;omega;done)
    all_goals
      refine Zk ?_
      refine J.cond (.tmp rfl) (fun c2=>?_) (fun c2=>absurd c2 (by(rw[c1];decide)))
      refine Zs (Zq rfl (QW.build (idx:=[]) YG XO rfl .nil rfl rfl rfl rfl) (Qc 0 UH (.tmp rfl) rfl (.tmp rfl) rfl rfl rfl rfl (Zq rfl (QW.assign .const) (Zn (J.ret (blkQ.r (thenQ.r ?_)))))))
      exact⟨_,[],_,QB rfl (REv.cell 0 UH rfl rfl rfl rfl lr) (REv.tmp rfl lr),rfl,List.Perm.refl _,UI (by simp at*;unfold Xr Xs Uw Ur Q7;(repeat' split)<;>(try simp)<;>omega),rfl⟩
  try (exfalso;simp at*;omega;done)
  all_goals
    refine Zs (Zq rfl (QW.eql (.tmp rfl) .const) (Zq rfl (QW.assign (.tmp rfl)) (Zn ?_)))
    refine J.cond (.tmp rfl) (fun c2=>?_) (fun c2=>?_)
    · try (exfalso;simp at*;omega;done)
      all_goals
        refine Zk ?_
        refine J.cond (.tmp rfl) (fun c3=>?_) (fun c3=>absurd c3 (by(rw[c2];decide)))
        refine Zs (Zq rfl (QW.build (idx:=[]) YG XO rfl .nil rfl rfl rfl rfl) (Qc 0 UH (.tmp rfl) rfl (.tmp rfl) rfl rfl rfl rfl (Zq rfl (QW.assign .const) (Zn (J.ret (blkQ.r (thenQ.r ?_)))))))
        exact⟨_,[],_,QB rfl (REv.cell 0 UH rfl rfl rfl rfl lr) (REv.tmp rfl lr),rfl,List.Perm.refl _,UI (by simp at*;unfold Xr Xs Uw Ur Q7;(repeat' split)<;>(try simp)<;>omega),rfl⟩
    try (exfalso;simp at*;omega;done)
    all_goals
      refine Zs (Zq rfl (QW.eql (.tmp rfl) .const) (Zq rfl (QW.assign (.tmp rfl)) (Zn ?_)))
      refine J.cond (.tmp rfl) (fun c3=>?_) (fun c3=>?_)
      · try (exfalso;simp at*;omega;done)
        all_goals
          refine Zk ?_
          refine J.cond (.tmp rfl) (fun c4=>?_) (fun c4=>absurd c4 (by(rw[c3];decide)))
          refine Zs (Zq rfl (QW.build (idx:=[]) YG XO rfl .nil rfl rfl rfl rfl) (Qc 0 UH (.tmp rfl) rfl (.tmp rfl) rfl rfl rfl rfl (Zq rfl (QW.assign .const) (Zn (J.ret (blkQ.r (thenQ.r ?_)))))))
          exact⟨_,[],_,QB rfl (REv.cell 0 UH rfl rfl rfl rfl lr) (REv.tmp rfl lr),rfl,List.Perm.refl _,UI (by simp at*;unfold Xr Xs Uw Ur Q7;(repeat' split)<;>(try simp)<;>omega),rfl⟩
      try (exfalso;simp at*;omega;done)
      all_goals
        refine Zs (Zq rfl (QW.eql (.tmp rfl) .const) (Zq rfl (QW.assign (.tmp rfl)) (Zn ?_)))
        refine J.cond (.tmp rfl) (fun c4=>?_) (fun c4=>?_)
        · try (exfalso;simp at*;omega;done)
          all_goals
            refine Zk ?_
            refine J.cond (.tmp rfl) (fun c5=>?_) (fun c5=>absurd c5 (by(rw[c4];decide)))
            refine Zs (Zq rfl (QW.build (idx:=[]) YG XO rfl .nil rfl rfl rfl rfl) (Qc 0 UH (.tmp rfl) rfl (.tmp rfl) rfl rfl rfl rfl (Zq rfl (QW.assign .const) (Zn (J.ret (blkQ.r (thenQ.r ?_)))))))
            exact⟨_,[],_,QB rfl (REv.cell 0 UH rfl rfl rfl rfl lr) (REv.tmp rfl lr),rfl,List.Perm.refl _,UI (by simp at*;unfold Xr Xs Uw Ur Q7;(repeat' split)<;>(try simp)<;>omega),rfl⟩
        try (exfalso;simp at*;omega;done)
        all_goals
          refine Zs (Zq rfl (QW.eql (.tmp rfl) .const) (Zq rfl (QW.assign (.tmp rfl)) (Zn ?_)))
          refine J.cond (.tmp rfl) (fun c5=>?_) (fun c5=>?_)
          · try (exfalso;simp at*;omega;done)
            all_goals
              refine Zk ?_
              refine J.cond (.tmp rfl) (fun c6=>?_) (fun c6=>absurd c6 (by(rw[c5];decide)))
              refine Zs (Zq rfl (QW.build (idx:=[]) YG XO rfl .nil rfl rfl rfl rfl) (Qc 0 UH (.tmp rfl) rfl (.tmp rfl) rfl rfl rfl rfl (Zq rfl (QW.assign .const) (Zn (J.ret (blkQ.r (thenQ.r ?_)))))))
              exact⟨_,[],_,QB rfl (REv.cell 0 UH rfl rfl rfl rfl lr) (REv.tmp rfl lr),rfl,List.Perm.refl _,UI (by simp at*;unfold Xr Xs Uw Ur Q7;(repeat' split)<;>(try simp)<;>omega),rfl⟩
          try (exfalso;simp at*;omega;done)
          all_goals
            refine Zs (Zq rfl (QW.eql (.tmp rfl) .const) (Zq rfl (QW.assign (.tmp rfl)) (Zn ?_)))
            refine J.cond (.tmp rfl) (fun c6=>?_) (fun c6=>?_)
            · try (exfalso;simp at*;omega;done)
              all_goals
                refine Zk ?_
                refine J.cond (.tmp rfl) (fun c7=>?_) (fun c7=>absurd c7 (by(rw[c6];decide)))
                refine Zs (Zq rfl (QW.build (idx:=[]) YG XO rfl .nil rfl rfl rfl rfl) (Qc 0 UH (.tmp rfl) rfl (.tmp rfl) rfl rfl rfl rfl (Zq rfl (QW.assign .const) (Zn (J.ret (blkQ.r (thenQ.r ?_)))))))
                exact⟨_,[],_,QB rfl (REv.cell 0 UH rfl rfl rfl rfl lr) (REv.tmp rfl lr),rfl,List.Perm.refl _,UI (by simp at*;unfold Xr Xs Uw Ur Q7;(repeat' split)<;>(try simp)<;>omega),rfl⟩
            try (exfalso;simp at*;omega;done)
            all_goals
              refine Qg (Zq rfl (QW.eql (.tmp rfl) .const) (Zq rfl (QW.assign (.tmp rfl)) (Zn ?_)))
              refine J.cond (.tmp rfl) (fun c7=>?_) (fun c7=>?_)
              · try (exfalso;simp at*;omega;done)
                all_goals
                  refine Zs (Zq rfl (QW.build (idx:=[]) YG XO rfl .nil rfl rfl rfl rfl) (Qc 0 UH (.tmp rfl) rfl (.tmp rfl) rfl rfl rfl rfl (Zq rfl (QW.assign .const) (Zn (J.ret (blkQ.r (thenQ.r ?_)))))))
                  exact⟨_,[],_,QB rfl (REv.cell 0 UH rfl rfl rfl rfl lr) (REv.tmp rfl lr),rfl,List.Perm.refl _,UI (by simp at*;unfold Xr Xs Uw Ur Q7;(repeat' split)<;>(try simp)<;>omega),rfl⟩
              try (exfalso;simp at*;omega;done)
              all_goals
                refine Zs (Zq rfl (QW.eql (.tmp rfl) .const) (Zq rfl (QW.assign (.tmp rfl)) (Zn ?_)))
                refine J.cond (.tmp rfl) (fun c8=>?_) (fun c8=>?_)
                · try (exfalso;simp at*;omega;done)
                  all_goals
                    refine Zs (Zq rfl (QW.build (idx:=[3]) YG XO rfl (.cons .const .nil) rfl rfl rfl rfl) (Qc 0 UH (.tmp rfl) rfl (.tmp rfl) rfl rfl rfl rfl (Zq rfl (QW.assign .const) (Zn (J.ret (blkQ.r (thenQ.r ?_)))))))
                    exact⟨_,[],_,QB rfl (REv.cell 0 UH rfl rfl rfl rfl lr) (REv.tmp rfl lr),rfl,List.Perm.refl _,UI (by simp at*;unfold Xr Xs Uw Ur Q7;(repeat' split)<;>(try simp)<;>omega),rfl⟩
                try (exfalso;simp at*;omega;done)
                all_goals
                  refine Zs (Zq rfl (QW.eql (.tmp rfl) .const) (Zq rfl (QW.assign (.tmp rfl)) (Zn ?_)))
                  refine J.cond (.tmp rfl) (fun c9=>?_) (fun c9=>?_)
                  · try (exfalso;simp at*;omega;done)
                    all_goals
                      refine Zs (Zq rfl (QW.build (idx:=[0,1,2,3]) YG XO rfl (.cons .const (.cons .const (.cons .const (.cons .const .nil)))) rfl rfl rfl rfl) (Qc 0 UH (.tmp rfl) rfl (.tmp rfl) rfl rfl rfl rfl (Zq rfl (QW.assign .const) (Zn (J.ret (blkQ.r (thenQ.r ?_)))))))
                      exact⟨_,[],_,QB rfl (REv.cell 0 UH rfl rfl rfl rfl lr) (REv.tmp rfl lr),rfl,List.Perm.refl _,UI (by simp at*;unfold Xr Xs Uw Ur Q7;(repeat' split)<;>(try simp)<;>omega),rfl⟩
                  try (exfalso;simp at*;omega;done)
                  all_goals
                    refine Zs (Zq rfl (QW.eql (.tmp rfl) .const) (Zq rfl (QW.assign (.tmp rfl)) (Zn ?_)))
                    refine J.cond (.tmp rfl) (fun c10=>?_) (fun c10=>?_)
                    · try (exfalso;simp at*;omega;done)
                      all_goals
                        refine Zs (Zq rfl (QW.build (idx:=[0,1,2,3]) YG XO rfl (.cons .const (.cons .const (.cons .const (.cons .const .nil)))) rfl rfl rfl rfl) (Qc 0 UH (.tmp rfl) rfl (.tmp rfl) rfl rfl rfl rfl (Zq rfl (QW.assign .const) (Zn (J.ret (blkQ.r (thenQ.r ?_)))))))
                        exact⟨_,[],_,QB rfl (REv.cell 0 UH rfl rfl rfl rfl lr) (REv.tmp rfl lr),rfl,List.Perm.refl _,UI (by simp at*;unfold Xr Xs Uw Ur Q7;(repeat' split)<;>(try simp)<;>omega),rfl⟩
                    try (exfalso;simp at*;omega;done)
                    all_goals
                      refine J.seq (Zs (Zq rfl (QW.eql (.tmp rfl) .const) (Zq rfl (QW.assign (.tmp rfl)) (Zn ?_))))
                      refine J.cond (.tmp rfl) (fun c11=>?_) (fun c11=>?_)
                      · try (exfalso;simp at*;omega;done)
                        all_goals
                          refine Zk ?_
                          refine J.cond (.tmp rfl) (fun c12=>?_) (fun c12=>absurd c12 (by(rw[c11];decide)))
                          refine Zs (Zq rfl (QW.build (idx:=[0,1]) YG XO rfl (.cons .const (.cons .const .nil)) rfl rfl rfl rfl) (Qc 0 UH (.tmp rfl) rfl (.tmp rfl) rfl rfl rfl rfl (Zq rfl (QW.assign .const) (Zn (J.ret (blkQ.r (thenQ.r ?_)))))))
                          exact⟨_,[],_,QB rfl (REv.cell 0 UH rfl rfl rfl rfl lr) (REv.tmp rfl lr),rfl,List.Perm.refl _,UI (by simp at*;unfold Xr Xs Uw Ur Q7;(repeat' split)<;>(try simp)<;>omega),rfl⟩
                      try (exfalso;simp at*;omega;done)
                      all_goals
                        refine Zs (Zq rfl (QW.eql (.tmp rfl) .const) (Zq rfl (QW.assign (.tmp rfl)) (Zn ?_)))
                        refine J.cond (.tmp rfl) (fun c12=>?_) (fun c12=>?_)
                        · try (exfalso;simp at*;omega;done)
                          all_goals
                            refine Zk ?_
                            refine J.cond (.tmp rfl) (fun c13=>?_) (fun c13=>absurd c13 (by(rw[c12];decide)))
                            refine Zs (Zq rfl (QW.build (idx:=[0,1]) YG XO rfl (.cons .const (.cons .const .nil)) rfl rfl rfl rfl) (Qc 0 UH (.tmp rfl) rfl (.tmp rfl) rfl rfl rfl rfl (Zq rfl (QW.assign .const) (Zn (J.ret (blkQ.r (thenQ.r ?_)))))))
                            exact⟨_,[],_,QB rfl (REv.cell 0 UH rfl rfl rfl rfl lr) (REv.tmp rfl lr),rfl,List.Perm.refl _,UI (by simp at*;unfold Xr Xs Uw Ur Q7;(repeat' split)<;>(try simp)<;>omega),rfl⟩
                        try (exfalso;simp at*;omega;done)
                        all_goals
                          refine Zs (Zq rfl (QW.eql (.tmp rfl) .const) (Zq rfl (QW.assign (.tmp rfl)) (Zn ?_)))
                          refine J.cond (.tmp rfl) (fun c13=>?_) (fun c13=>?_)
                          · try (exfalso;simp at*;omega;done)
                            all_goals
                              refine Zk ?_
                              refine J.cond (.tmp rfl) (fun c14=>?_) (fun c14=>absurd c14 (by(rw[c13];decide)))
                              refine Zs (Zq rfl (QW.build (idx:=[0,1]) YG XO rfl (.cons .const (.cons .const .nil)) rfl rfl rfl rfl) (Qc 0 UH (.tmp rfl) rfl (.tmp rfl) rfl rfl rfl rfl (Zq rfl (QW.assign .const) (Zn (J.ret (blkQ.r (thenQ.r ?_)))))))
                              exact⟨_,[],_,QB rfl (REv.cell 0 UH rfl rfl rfl rfl lr) (REv.tmp rfl lr),rfl,List.Perm.refl _,UI (by simp at*;unfold Xr Xs Uw Ur Q7;(repeat' split)<;>(try simp)<;>omega),rfl⟩
                          try (exfalso;simp at*;omega;done)
                          all_goals
                            refine Qg (Zq rfl (QW.eql (.tmp rfl) .const) (Zq rfl (QW.assign (.tmp rfl)) (Zn ?_)))
                            refine J.cond (.tmp rfl) (fun c14=>?_) (fun c14=>?_)
                            · try (exfalso;simp at*;omega;done)
                              all_goals
                                refine Zs (Zq rfl (QW.build (idx:=[0,1]) YG XO rfl (.cons .const (.cons .const .nil)) rfl rfl rfl rfl) (Qc 0 UH (.tmp rfl) rfl (.tmp rfl) rfl rfl rfl rfl (Zq rfl (QW.assign .const) (Zn (J.ret (blkQ.r (thenQ.r ?_)))))))
                                exact⟨_,[],_,QB rfl (REv.cell 0 UH rfl rfl rfl rfl lr) (REv.tmp rfl lr),rfl,List.Perm.refl _,UI (by simp at*;unfold Xr Xs Uw Ur Q7;(repeat' split)<;>(try simp)<;>omega),rfl⟩
                            try (exfalso;simp at*;omega;done)
                            all_goals
                              refine Zs (Zq rfl (QW.eql (.tmp rfl) .const) (Zq rfl (QW.assign (.tmp rfl)) (Zn ?_)))
                              refine J.cond (.tmp rfl) (fun c15=>?_) (fun c15=>?_)
                              · try (exfalso;simp at*;omega;done)
                                all_goals
                                  refine Zs (Zq rfl (QW.build (idx:=[0,1]) YG XO rfl (.cons .const (.cons .const .nil)) rfl rfl rfl rfl) (Qc 0 UH (.tmp rfl) rfl (.tmp rfl) rfl rfl rfl rfl (Zq rfl (QW.assign .const) (Zn (J.ret (blkQ.r (thenQ.r ?_)))))))
                                  exact⟨_,[],_,QB rfl (REv.cell 0 UH rfl rfl rfl rfl lr) (REv.tmp rfl lr),rfl,List.Perm.refl _,UI (by simp at*;unfold Xr Xs Uw Ur Q7;(repeat' split)<;>(try simp)<;>omega),rfl⟩
                              try (exfalso;simp at*;omega;done)
                              all_goals
                                refine Zs (Zq rfl (QW.eql (.tmp rfl) .const) (Zq rfl (QW.assign (.tmp rfl)) (Zn ?_)))
                                refine J.cond (.tmp rfl) (fun c16=>?_) (fun c16=>?_)
                                · try (exfalso;simp at*;omega;done)
                                  all_goals
                                    refine Zs (Zq rfl (QW.build (idx:=[1]) YG XO rfl (.cons .const .nil) rfl rfl rfl rfl) (Qc 0 UH (.tmp rfl) rfl (.tmp rfl) rfl rfl rfl rfl (Zq rfl (QW.assign .const) (Zn (J.ret (blkQ.r (thenQ.r ?_)))))))
                                    exact⟨_,[],_,QB rfl (REv.cell 0 UH rfl rfl rfl rfl lr) (REv.tmp rfl lr),rfl,List.Perm.refl _,UI (by simp at*;unfold Xr Xs Uw Ur Q7;(repeat' split)<;>(try simp)<;>omega),rfl⟩
                                try (exfalso;simp at*;omega;done)
                                all_goals
                                  refine J.skip (blkQ.n (thenQ.n (Zs (Zq rfl (QW.build (idx:=[0,1]) YG XO rfl (.cons .const (.cons .const .nil)) rfl rfl rfl rfl) (Zq rfl (QW.move (.tmp rfl)) (Zq rfl (QW.gtr (.tmp rfl) .const) (Zq rfl (QW.move (.tmp rfl)) (Zg rfl (fun hg=>(QW.move (.tmp rfl))) (Zg rfl (fun hg=>(QW.leq (.when rfl hg) .const)) ?_)))))))))
                                  refine Zq rfl (QW.pick_and (.tmp rfl) (.tmp rfl)) (Qc 0 UH (.tmp rfl) rfl (.tmp rfl) rfl rfl rfl rfl (Zq rfl (QW.assign (.tmp rfl)) (Zn (J.ret ?_))))
                                  exact⟨_,[],_,QB rfl (REv.cell 0 UH rfl rfl rfl rfl lr) (REv.tmp rfl lr),rfl,List.Perm.refl _,UI (by simp at*;unfold Xr Xs Uw Ur Q7;(repeat' split)<;>(try simp)<;>omega),rfl⟩

end
section
/- Walks: expressions, one part. -/
set_option maxRecDepth 10000
set_option maxHeartbeats 4000000
theorem T5{q n lo hi tl:Int}{z:Bool}(hn:0≤n)(hq:q= -2∨q= -1∨(0≤q∧q≤3)):
    ((decide (q≠ -2)&&z)&&(decide ((if q= -1 then 0 else if q= -2 then 2 else q)≤n)&&decide (n≤(if q= -1 then 8 else if q= -2 then 2 else q)))&&(decide (lo≤tl)&&decide (tl≤hi)))=
    (decide (q≠ -2)&&(q== -1||(n==q))&&decide (n≤8)&&decide (lo≤tl)&&decide (tl≤hi)&&z):=by
  rw[Bool.eq_iff_iff]
  simp only[Bool.and_eq_true,Bool.or_eq_true,decide_eq_true_eq,beq_iff_eq]
  rcases hq with rfl|rfl|⟨h4,h5⟩
  · simp
  · simp
    constructor
    · rintro⟨⟨h6,h7,h7'⟩,h8,h9⟩;exact⟨⟨⟨h7',h8⟩,h9⟩,h6⟩
    · rintro⟨⟨⟨h6,h8⟩,h9⟩,h7⟩;exact⟨⟨h7,by omega,h6⟩,h8,h9⟩
  · rw[if_neg (by omega),if_neg (by omega)]
    constructor
    · rintro⟨⟨⟨h6,h7⟩,h8,h9⟩,h10,h11⟩;exact⟨⟨⟨⟨⟨h6,.inr (by omega)⟩,by omega⟩,h10⟩,h11⟩,h7⟩
    · rintro⟨⟨⟨⟨⟨h6,h12⟩,h13⟩,h10⟩,h11⟩,h7⟩
      have:n=q:=h12.resolve_left (by omega)
      exact⟨⟨⟨h6,h7⟩,by omega,by omega⟩,h10,h11⟩
theorem Sh{o:Int}{b:Nat}{t:List UInt8}{l:List EX}{n:Int}(hn:n=(l.length:Int)):
    ((decide (Q7 o≠ -2)&&(((b:Int)==0)||((o==3)&&((UB b:Int)==(b:Int)))))&&(decide (Xr o≤n)&&decide (n≤Xs o))&&(decide (Uw o≤(t.length:Int))&&decide ((t.length:Int)≤Ur o)))=(EX.mk o b t l).ok:=by
  subst hn
  have hz:UB 0=0:=by decide
  have h1:(((b:Int)==0)||((o==3)&&((UB b:Int)==(b:Int))))=(if o=3 then UB b==b else b==0):=by
    by_cases h3:o=3
    · subst h3
      rw[if_pos rfl,Bool.eq_iff_iff]
      simp
      constructor
      · rintro(h|h)
        · have:b=0:=by omega
          rw[this,hz]
        · omega
      · intro h;right;rw[h]
    · rw[if_neg h3,Bool.eq_iff_iff]
      simp[h3]
  have ha:Q7 o= -2∨Q7 o= -1∨(0≤Q7 o∧Q7 o≤3):=by unfold Q7;(repeat' split)<;>omega
  rw[h1]
  exact T5 (by omega) ha
theorem Pt{fr:Bool}{v:EX}{ys:List AV}(hv:Xc fr v ys):Fn Tryz.prog 85 [.agg ys] (.c (.bool v.ok)):=by
  obtain⟨o,b,t,l⟩:=v
  subst hv
  refine AC.of_J Tryz.func85 rfl Tryz.ntmps85 rfl fun w0 A0=>?_
  refine Zs (Qp (.tmp rfl) rfl fun b1=>Zq rfl (QW.assign .const) (Zn (Zs (Zq rfl (Qa YQ (.tmp rfl) rfl) (Zq rfl (Qb 0 UQ (.tmp rfl) rfl rfl) (Zq rfl (QW.call gofn93 (.cons (.tmp rfl) .nil) (TY _)) (Zq rfl (QW.move (.tmp rfl)) (Zq rfl (QW.extract (.tmp rfl) rfl) ?_))))))))
  refine Zq rfl (QW.extract (.tmp rfl) rfl) (JL.alloc XO rfl rfl fun b3=>Qc 0 UH (.tmp rfl) rfl (.tmp rfl) rfl rfl rfl rfl (Zq rfl (QW.assign (.tmp rfl)) (Zn (J.seq (QY 13 Uc (by kernel_rfl) (by kernel_rfl) (by kernel_rfl) rfl ?_)))))
  refine .cons [] rfl rfl rfl (.q rfl (Qa N4 (.tmp rfl) rfl)) ?_
  refine .cons [12] rfl rfl rfl (.q rfl (Qb 1 Wi (.tmp rfl) rfl rfl)) ?_
  refine .cons [13] rfl rfl rfl (.q rfl (QW.eql (.tmp rfl) .const)) ?_
  refine .cons [14] rfl rfl rfl (.q rfl (QW.move (.tmp rfl))) ?_
  refine .cons [15] rfl rfl rfl (.g rfl rfl rfl (fun hg=>(Qa YQ (.tmp rfl) rfl))) ?_
  refine .cons [16,15] rfl rfl rfl (.g rfl rfl rfl (fun hg=>(Qb 1 UQ (.when rfl hg) rfl rfl))) ?_
  refine .cons [17,15] rfl rfl rfl (.g rfl rfl rfl (fun hg=>(QW.eql (.when rfl hg) .const))) ?_
  refine .cons [18,15] rfl rfl rfl (.g rfl rfl rfl (fun hg=>(QW.move (.when rfl hg)))) ?_
  refine .cons [19] rfl rfl rfl (.gg rfl rfl rfl (fun hg=>(Qa N4 (.tmp rfl) rfl))) ?_
  refine .cons [20,19] rfl rfl rfl (.gg rfl rfl rfl (fun hg=>(Qb 1 Wi (.when rfl hg) rfl rfl))) ?_
  refine .cons [21,19] rfl rfl rfl (.gg rfl rfl rfl (fun hg=>(QW.call Do (.cons (.when rfl hg) .nil) (Md _)))) ?_
  refine .cons [19] rfl rfl rfl (.gg rfl rfl rfl (fun hg=>(Qa N4 (.tmp rfl) rfl))) ?_
  refine .cons [23,19] rfl rfl rfl (.gg rfl rfl rfl (fun hg=>(Qb 1 Wi (.when rfl hg) rfl rfl))) ?_
  refine .nil ?_
  refine JL.gg rfl rfl rfl rfl rfl (fun hg=>(QW.eql (.when rfl hg) (.when rfl hg))) (Zg rfl (fun hg=>(Yo hg (.when rfl hg) (.tmp rfl))) (Zq rfl (QW.pick_or (.tmp rfl) (.tmp rfl)) (Zq rfl (QW.assign (.tmp rfl)) (Zn (Zs (Zq rfl (QW.move (.tmp rfl)) (Zq rfl (QW.move (.tmp rfl)) (Zg rfl (fun hg=>(QW.move (.tmp rfl))) (Zq rfl (QW.pick_and (.tmp rfl) (.tmp rfl)) ?_)))))))))
  refine Zq rfl (QW.move (.tmp rfl)) (Zg rfl (fun hg=>(Qa WX (.tmp rfl) rfl)) (Zg rfl (fun hg=>(Qb 1 K4 (.when rfl hg) rfl rfl)) (Zg rfl (fun hg=>(Qr XT (.when rfl hg))) (Zg rfl (fun hg=>(Qa Qab (.tmp rfl) rfl)) (Zg rfl (fun hg=>(Qb 0 UQ (.when rfl hg) rfl rfl)) (Zg rfl (fun hg=>(Qa Qaa (.tmp rfl) rfl)) (Zg rfl (fun hg=>(Qb 0 UQ (.when rfl hg) rfl rfl)) (Zg rfl (fun hg=>(QW.call BD (.cons (.when rfl hg) (.cons (.when rfl hg) (.cons (.when rfl hg) .nil))) (ML _ _ _))) (Zq rfl (QW.pick_and (.tmp rfl) (.tmp rfl)) ?_)))))))))
  refine Zq rfl (QW.move (.tmp rfl)) (Zg rfl (fun hg=>(Qa N3 (.tmp rfl) rfl)) (Zg rfl (fun hg=>(Qb 1 U9 (.when rfl hg) rfl rfl)) (Zg rfl (fun hg=>(U1 TW (.when rfl hg))) (Zg rfl (fun hg=>(Qa S9 (.tmp rfl) rfl)) (Zg rfl (fun hg=>(Qb 0 UQ (.when rfl hg) rfl rfl)) (Zg rfl (fun hg=>(Qa S8 (.tmp rfl) rfl)) (Zg rfl (fun hg=>(Qb 0 UQ (.when rfl hg) rfl rfl)) (Zg rfl (fun hg=>(QW.call BD (.cons (.when rfl hg) (.cons (.when rfl hg) (.cons (.when rfl hg) .nil))) (ML _ _ _))) (Zq rfl (QW.pick_and (.tmp rfl) (.tmp rfl)) ?_)))))))))
  exact Zq rfl (QW.assign (.tmp rfl)) (Zn (J.ret (Zr [.k,.k] (RetEv.one rfl (REv.tmp rfl lr)) rfl ⟨by rw[← Sh (n:=((EX.css fr l).length:Int)) (by rw[EX.css_length])],rfl⟩)))

end
section
/- Walks: expressions, the page's own small functions. -/
set_option maxRecDepth 10000
set_option maxHeartbeats 4000000
theorem FY(o:Int):Fn Tryz.prog 79 [.c (.int .i64 o)] (.c (.int .i64 (Q7 o))):=by
  refine AC.of_J Tryz.func79 rfl Tryz.ntmps79 rfl fun w0 A0=>?_
  refine Zs (Zq rfl (QW.assign .const) (Zn (J.seq (J.block (Zs (Zq rfl (QW.move (.tmp rfl)) (Zq rfl (QW.lss (.tmp rfl) .const) (Zq rfl (QW.move (.tmp rfl)) (Zg rfl (fun hg=>(QW.move (.tmp rfl))) ?_)))))))))
  refine Zg rfl (fun hg=>(QW.geq (.when rfl hg) .const)) (Zq rfl (QW.pick_or (.tmp rfl) (.tmp rfl)) (Zq rfl (QW.assign (.tmp rfl)) (Zn ?_)))
  refine J.cond (.tmp rfl) (fun c1=>?_) (fun c1=>?_)
  · try (exfalso;simp at*;omega;done)
    all_goals
      exact Zs (Zq rfl (QW.assign .const) (Zn (J.ret (blkQ.r (thenQ.r (Zr [] (RetEv.one rfl (REv.tmp rfl lr)) rfl ⟨by congr 3;simp at*;unfold Q7;(repeat' split)<;>omega,rfl⟩))))))
  try (exfalso;simp at*;omega;done)
  all_goals
    refine Zs (Zq rfl (QW.move (.tmp rfl)) (Zq rfl (QW.leq (.tmp rfl) .const) (Zq rfl (QW.assign (.tmp rfl)) (Zn ?_))))
    refine J.cond (.tmp rfl) (fun c2=>?_) (fun c2=>?_)
    · try (exfalso;simp at*;omega;done)
      all_goals
        exact Zs (Zq rfl (QW.assign .const) (Zn (J.ret (blkQ.r (thenQ.r (Zr [] (RetEv.one rfl (REv.tmp rfl lr)) rfl ⟨by congr 3;simp at*;unfold Q7;(repeat' split)<;>omega,rfl⟩))))))
    try (exfalso;simp at*;omega;done)
    all_goals
      refine Zs (Zq rfl (QW.move (.tmp rfl)) (Zq rfl (QW.eql (.tmp rfl) .const) (Zq rfl (QW.assign (.tmp rfl)) (Zn ?_))))
      refine J.cond (.tmp rfl) (fun c3=>?_) (fun c3=>?_)
      · try (exfalso;simp at*;omega;done)
        all_goals
          exact Zs (Zq rfl (QW.assign .const) (Zn (J.ret (blkQ.r (thenQ.r (Zr [] (RetEv.one rfl (REv.tmp rfl lr)) rfl ⟨by congr 3;simp at*;unfold Q7;(repeat' split)<;>omega,rfl⟩))))))
      try (exfalso;simp at*;omega;done)
      all_goals
        refine J.skip (blkQ.n (thenQ.n (J.seq (Zs (Zq rfl (QW.move (.tmp rfl)) (Zn (J.block (J.seq (Zs ?_)))))))))
        refine Zq rfl (QW.eql (.tmp rfl) .const) (Zq rfl (QW.assign (.tmp rfl)) (Zn ?_))
        refine J.cond (.tmp rfl) (fun c4=>?_) (fun c4=>?_)
        · try (exfalso;simp at*;omega;done)
          all_goals
            refine Zk ?_
            refine J.cond (.tmp rfl) (fun c5=>?_) (fun c5=>?_)
            · try (exfalso;simp at*;omega;done)
              all_goals
                exact Zs (Zq rfl (QW.assign .const) (Zn (J.ret (blkQ.r (thenQ.r (Zr [] (RetEv.one rfl (REv.tmp rfl lr)) rfl ⟨by congr 3;simp at*;unfold Q7;(repeat' split)<;>omega,rfl⟩))))))
            try (exfalso;simp at*;omega;done)
            all_goals
              refine Zs (Zq rfl (QW.eql (.tmp rfl) .const) (Zq rfl (QW.assign (.tmp rfl)) (Zn ?_)))
              refine J.cond (.tmp rfl) (fun c6=>?_) (fun c6=>?_)
              · try (exfalso;simp at*;omega;done)
                all_goals
                  exact Zs (Zq rfl (QW.assign .const) (Zn (J.ret (blkQ.r (thenQ.r (Zr [] (RetEv.one rfl (REv.tmp rfl lr)) rfl ⟨by congr 3;simp at*;unfold Q7;(repeat' split)<;>omega,rfl⟩))))))
              try (exfalso;simp at*;omega;done)
              all_goals
                exact J.skip (blkQ.n (thenQ.n (Zs (Zq rfl (QW.assign .const) (Zn (J.ret (Zr [] (RetEv.one rfl (REv.tmp rfl lr)) rfl ⟨by congr 3;simp at*;unfold Q7;(repeat' split)<;>omega,rfl⟩)))))))
        try (exfalso;simp at*;omega;done)
        all_goals
          refine Zs (Zq rfl (QW.eql (.tmp rfl) .const) (Zq rfl (QW.assign (.tmp rfl)) (Zn ?_)))
          refine J.cond (.tmp rfl) (fun c5=>?_) (fun c5=>?_)
          · try (exfalso;simp at*;omega;done)
            all_goals
              refine Zk ?_
              refine J.cond (.tmp rfl) (fun c6=>?_) (fun c6=>?_)
              · try (exfalso;simp at*;omega;done)
                all_goals
                  exact Zs (Zq rfl (QW.assign .const) (Zn (J.ret (blkQ.r (thenQ.r (Zr [] (RetEv.one rfl (REv.tmp rfl lr)) rfl ⟨by congr 3;simp at*;unfold Q7;(repeat' split)<;>omega,rfl⟩))))))
              try (exfalso;simp at*;omega;done)
              all_goals
                refine Zs (Zq rfl (QW.eql (.tmp rfl) .const) (Zq rfl (QW.assign (.tmp rfl)) (Zn ?_)))
                refine J.cond (.tmp rfl) (fun c7=>?_) (fun c7=>?_)
                · try (exfalso;simp at*;omega;done)
                  all_goals
                    exact Zs (Zq rfl (QW.assign .const) (Zn (J.ret (blkQ.r (thenQ.r (Zr [] (RetEv.one rfl (REv.tmp rfl lr)) rfl ⟨by congr 3;simp at*;unfold Q7;(repeat' split)<;>omega,rfl⟩))))))
                try (exfalso;simp at*;omega;done)
                all_goals
                  exact J.skip (blkQ.n (thenQ.n (Zs (Zq rfl (QW.assign .const) (Zn (J.ret (Zr [] (RetEv.one rfl (REv.tmp rfl lr)) rfl ⟨by congr 3;simp at*;unfold Q7;(repeat' split)<;>omega,rfl⟩)))))))
          try (exfalso;simp at*;omega;done)
          all_goals
            refine Zs (Zq rfl (QW.eql (.tmp rfl) .const) (Zq rfl (QW.assign (.tmp rfl)) (Zn ?_)))
            refine J.cond (.tmp rfl) (fun c6=>?_) (fun c6=>?_)
            · try (exfalso;simp at*;omega;done)
              all_goals
                refine Zk ?_
                refine J.cond (.tmp rfl) (fun c7=>?_) (fun c7=>?_)
                · try (exfalso;simp at*;omega;done)
                  all_goals
                    exact Zs (Zq rfl (QW.assign .const) (Zn (J.ret (blkQ.r (thenQ.r (Zr [] (RetEv.one rfl (REv.tmp rfl lr)) rfl ⟨by congr 3;simp at*;unfold Q7;(repeat' split)<;>omega,rfl⟩))))))
                try (exfalso;simp at*;omega;done)
                all_goals
                  refine Zs (Zq rfl (QW.eql (.tmp rfl) .const) (Zq rfl (QW.assign (.tmp rfl)) (Zn ?_)))
                  refine J.cond (.tmp rfl) (fun c8=>?_) (fun c8=>?_)
                  · try (exfalso;simp at*;omega;done)
                    all_goals
                      exact Zs (Zq rfl (QW.assign .const) (Zn (J.ret (blkQ.r (thenQ.r (Zr [] (RetEv.one rfl (REv.tmp rfl lr)) rfl ⟨by congr 3;simp at*;unfold Q7;(repeat' split)<;>omega,rfl⟩))))))
                  try (exfalso;simp at*;omega;done)
                  all_goals
                    exact J.skip (blkQ.n (thenQ.n (Zs (Zq rfl (QW.assign .const) (Zn (J.ret (Zr [] (RetEv.one rfl (REv.tmp rfl lr)) rfl ⟨by congr 3;simp at*;unfold Q7;(repeat' split)<;>omega,rfl⟩)))))))
            try (exfalso;simp at*;omega;done)
            all_goals
              refine Zs (Zq rfl (QW.eql (.tmp rfl) .const) (Zq rfl (QW.assign (.tmp rfl)) (Zn ?_)))
              refine J.cond (.tmp rfl) (fun c7=>?_) (fun c7=>?_)
              · try (exfalso;simp at*;omega;done)
                all_goals
                  refine Zk ?_
                  refine J.cond (.tmp rfl) (fun c8=>?_) (fun c8=>?_)
                  · try (exfalso;simp at*;omega;done)
                    all_goals
                      exact Zs (Zq rfl (QW.assign .const) (Zn (J.ret (blkQ.r (thenQ.r (Zr [] (RetEv.one rfl (REv.tmp rfl lr)) rfl ⟨by congr 3;simp at*;unfold Q7;(repeat' split)<;>omega,rfl⟩))))))
                  try (exfalso;simp at*;omega;done)
                  all_goals
                    refine Zs (Zq rfl (QW.eql (.tmp rfl) .const) (Zq rfl (QW.assign (.tmp rfl)) (Zn ?_)))
                    refine J.cond (.tmp rfl) (fun c9=>?_) (fun c9=>?_)
                    · try (exfalso;simp at*;omega;done)
                      all_goals
                        exact Zs (Zq rfl (QW.assign .const) (Zn (J.ret (blkQ.r (thenQ.r (Zr [] (RetEv.one rfl (REv.tmp rfl lr)) rfl ⟨by congr 3;simp at*;unfold Q7;(repeat' split)<;>omega,rfl⟩))))))
                    try (exfalso;simp at*;omega;done)
                    all_goals
                      exact J.skip (blkQ.n (thenQ.n (Zs (Zq rfl (QW.assign .const) (Zn (J.ret (Zr [] (RetEv.one rfl (REv.tmp rfl lr)) rfl ⟨by congr 3;simp at*;unfold Q7;(repeat' split)<;>omega,rfl⟩)))))))
              try (exfalso;simp at*;omega;done)
              all_goals
                refine Qg (Zq rfl (QW.eql (.tmp rfl) .const) (Zq rfl (QW.assign (.tmp rfl)) (Zn ?_)))
                refine J.cond (.tmp rfl) (fun c8=>?_) (fun c8=>?_)
                · try (exfalso;simp at*;omega;done)
                  all_goals
                    exact Zs (Zq rfl (QW.assign .const) (Zn (J.ret (blkQ.r (thenQ.r (Zr [] (RetEv.one rfl (REv.tmp rfl lr)) rfl ⟨by congr 3;simp at*;unfold Q7;(repeat' split)<;>omega,rfl⟩))))))
                try (exfalso;simp at*;omega;done)
                all_goals
                  refine Zs (Zq rfl (QW.eql (.tmp rfl) .const) (Zq rfl (QW.assign (.tmp rfl)) (Zn ?_)))
                  refine J.cond (.tmp rfl) (fun c9=>?_) (fun c9=>?_)
                  · try (exfalso;simp at*;omega;done)
                    all_goals
                      exact Zs (Zq rfl (QW.assign .const) (Zn (J.ret (blkQ.r (thenQ.r (Zr [] (RetEv.one rfl (REv.tmp rfl lr)) rfl ⟨by congr 3;simp at*;unfold Q7;(repeat' split)<;>omega,rfl⟩))))))
                  try (exfalso;simp at*;omega;done)
                  all_goals
                    exact J.skip (blkQ.n (thenQ.n (Zs (Zq rfl (QW.assign .const) (Zn (J.ret (Zr [] (RetEv.one rfl (REv.tmp rfl lr)) rfl ⟨by congr 3;simp at*;unfold Q7;(repeat' split)<;>omega,rfl⟩)))))))
theorem Cq(o:Int):Fn Tryz.prog 80 [.c (.int .i64 o)] (.tup [.c (.int .i64 (Uw o)),.c (.int .i64 (Ur o))]):=by
  refine AC.of_J Tryz.func80 rfl Tryz.ntmps80 rfl fun w0 A0=>?_
  refine Zs (Zq rfl (QW.assign .const) (Zq rfl (QW.assign .const) (Zn (J.seq (Zs (Zq rfl (QW.move (.tmp rfl)) (Zn (J.block (Zs ?_)))))))))
  refine Zq rfl (QW.eql (.tmp rfl) .const) (Zq rfl (QW.assign (.tmp rfl)) (Zn ?_))
  refine J.cond (.tmp rfl) (fun c1=>?_) (fun c1=>?_)
  · try (exfalso;simp at*;omega;done)
    all_goals
      exact Zs (Zq rfl (QW.assign .const) (Zq rfl (QW.assign .const) (Zn (J.ret (blkQ.r (thenQ.r (Zr [] (QB rfl (REv.tmp rfl lr) (REv.tmp rfl lr)) rfl ⟨by simp at*;unfold Uw Ur;(repeat' split)<;>first|rfl|omega,rfl⟩)))))))
  try (exfalso;simp at*;omega;done)
  all_goals
    refine J.seq (Zs (Zq rfl (QW.eql (.tmp rfl) .const) (Zq rfl (QW.assign (.tmp rfl)) (Zn ?_))))
    refine J.cond (.tmp rfl) (fun c2=>?_) (fun c2=>?_)
    · try (exfalso;simp at*;omega;done)
      all_goals
        refine Zk ?_
        refine J.cond (.tmp rfl) (fun c3=>?_) (fun c3=>?_)
        · try (exfalso;simp at*;omega;done)
          all_goals
            exact Zs (Zq rfl (QW.assign .const) (Zq rfl (QW.assign .const) (Zn (J.ret (blkQ.r (thenQ.r (Zr [] (QB rfl (REv.tmp rfl lr) (REv.tmp rfl lr)) rfl ⟨by simp at*;unfold Uw Ur;(repeat' split)<;>first|rfl|omega,rfl⟩)))))))
        try (exfalso;simp at*;omega;done)
        all_goals
          exact J.skip (blkQ.n (thenQ.n (Zs (Zq rfl (QW.assign .const) (Zq rfl (QW.assign .const) (Zn (J.ret (Zr [] (QB rfl (REv.tmp rfl lr) (REv.tmp rfl lr)) rfl ⟨by simp at*;unfold Uw Ur;(repeat' split)<;>first|rfl|omega,rfl⟩))))))))
    try (exfalso;simp at*;omega;done)
    all_goals
      refine Qg (Zq rfl (QW.eql (.tmp rfl) .const) (Zq rfl (QW.assign (.tmp rfl)) (Zn ?_)))
      refine J.cond (.tmp rfl) (fun c3=>?_) (fun c3=>?_)
      · try (exfalso;simp at*;omega;done)
        all_goals
          exact Zs (Zq rfl (QW.assign .const) (Zq rfl (QW.assign .const) (Zn (J.ret (blkQ.r (thenQ.r (Zr [] (QB rfl (REv.tmp rfl lr) (REv.tmp rfl lr)) rfl ⟨by simp at*;unfold Uw Ur;(repeat' split)<;>first|rfl|omega,rfl⟩)))))))
      try (exfalso;simp at*;omega;done)
      all_goals
        exact J.skip (blkQ.n (thenQ.n (Zs (Zq rfl (QW.assign .const) (Zq rfl (QW.assign .const) (Zn (J.ret (Zr [] (QB rfl (REv.tmp rfl lr) (REv.tmp rfl lr)) rfl ⟨by simp at*;unfold Uw Ur;(repeat' split)<;>first|rfl|omega,rfl⟩))))))))
theorem Cw(o:Int)(b:Nat)(t:List UInt8)(l:List EX):(EX.mk o b t l).ok=(decide (Q7 o≠ -2)&&(Q7 o== -1||((l.length:Int)==Q7 o))&&decide ((l.length:Int)≤8)&&decide (Uw o≤(t.length:Int))&&decide ((t.length:Int)≤Ur o)&&
    (if o=3 then UB b==b else b==0)):=rfl
theorem RJ{q n lo hi tl:Int}{z:Bool}(hq:q= -2∨q= -1∨(0≤q∧q≤3)):
    (decide (q≠ -2)&&(q== -1||(n==q))&&decide (n≤8)&&decide (lo≤tl)&&decide (tl≤hi)&&z)=(!((((q== -2)||(decide (0≤q)&&(n !=q)))||decide (8<n))||decide (tl<lo)||decide (hi<tl))&&z):=by
  cases z with
  |false=>simp
  |true=>
    rw[Bool.eq_iff_iff]
    simp
    omega
theorem LD{o:Int}{b:Nat}{t:List UInt8}{l:List EX}{n:Int}(hn:n=(l.length:Int)):
    (EX.mk o b t l).ok=(!((((Q7 o== -2)||(decide (0≤Q7 o)&&(n !=Q7 o)))||decide (8<n))||decide ((t.length:Int)<Uw o)||decide (Ur o<(t.length:Int)))&&(if o=3 then UB b==b else b==0)):=by
  subst hn
  rw[Cw,RJ]
  unfold Q7;(repeat' split)<;>omega
theorem CZ{fr:Bool}{v:EX}{ys:List AV}(hv:Xc fr v ys)(hw:v.wf):Fn Tryz.prog 68 [.agg ys] (.c (.bool v.ok)):=by
  obtain⟨o,b,t,l⟩:=v
  subst hv
  have hb:=hw.inv.2.1
  refine AC.of_J Tryz.func68 rfl Tryz.ntmps68 rfl fun w0 A0=>?_
  refine Zs (Qp (.tmp rfl) rfl fun b1=>Zq rfl (QW.assign .const) (Zn (Zs (Zq rfl (Qa N7 (.tmp rfl) rfl) (Zq rfl (Qb 0 UQ (.tmp rfl) rfl rfl) (Zq rfl (QW.call gofn79 (.cons (.tmp rfl) .nil) (FY _)) (Zq rfl (QW.assign (.tmp rfl)) (Zn ?_))))))))
  refine Zs (Zq rfl (Qa N7 (.tmp rfl) rfl) (Zq rfl (Qb 0 UQ (.tmp rfl) rfl rfl) (Zq rfl (QW.call gofn80 (.cons (.tmp rfl) .nil) (Cq _)) (Zq rfl (QW.move (.tmp rfl)) (Zq rfl (QW.extract (.tmp rfl) rfl) (Zq rfl (QW.extract (.tmp rfl) rfl) (Zq rfl (QW.assign (.tmp rfl)) (Zq rfl (QW.assign (.tmp rfl)) (Zn ?_)))))))))
  refine J.seq (Zs (Zq rfl (QW.move (.tmp rfl)) (Zq rfl (QW.eql (.tmp rfl) .const) (Zq rfl (QW.move (.tmp rfl)) (Zg rfl (fun hg=>(QW.move (.tmp rfl))) (Zg rfl (fun hg=>(QW.geq (.when rfl hg) .const)) (Zg rfl (fun hg=>(QW.move (.when rfl hg))) (JL.gg rfl rfl rfl rfl rfl (fun hg=>(Qa Ht (.tmp rfl) rfl)) (JL.gg rfl rfl rfl rfl rfl (fun hg=>(Qb 0 Ce (.when rfl hg) rfl rfl)) ?_)))))))))
  refine JL.gg rfl rfl rfl rfl rfl (fun hg=>(Qr NH (.when rfl hg))) (JL.gg rfl rfl rfl rfl rfl (fun hg=>(QW.move (.tmp rfl))) (JL.gg rfl rfl rfl rfl rfl (fun hg=>(QW.neq (.when rfl hg) (.when rfl hg))) (Zg rfl (fun hg=>(Yo hg (.when rfl hg) (.tmp rfl))) (Zq rfl (QW.pick_or (.tmp rfl) (.tmp rfl)) (Zq rfl (QW.move (.tmp rfl)) (Zg rfl (fun hg=>(Qa Ht (.tmp rfl) rfl)) (Zg rfl (fun hg=>(Qb 0 Ce (.when rfl hg) rfl rfl)) (Zg rfl (fun hg=>(Qr NH (.when rfl hg))) (Zg rfl (fun hg=>(QW.gtr (.when rfl hg) .const)) ?_)))))))))
  refine Zq rfl (QW.pick_or (.tmp rfl) (.tmp rfl)) (Zq rfl (QW.move (.tmp rfl)) (Zg rfl (fun hg=>(Qa Dy (.tmp rfl) rfl)) (Zg rfl (fun hg=>(Qb 0 U9 (.when rfl hg) rfl rfl)) (Zg rfl (fun hg=>(U1 TW (.when rfl hg))) (Zg rfl (fun hg=>(QW.move (.tmp rfl))) (Zg rfl (fun hg=>(QW.lss (.when rfl hg) (.when rfl hg))) (Zq rfl (QW.pick_or (.tmp rfl) (.tmp rfl)) (Zq rfl (QW.move (.tmp rfl)) (Zg rfl (fun hg=>(Qa Dy (.tmp rfl) rfl)) ?_)))))))))
  refine Zg rfl (fun hg=>(Qb 0 U9 (.when rfl hg) rfl rfl)) (Zg rfl (fun hg=>(U1 TW (.when rfl hg))) (Zg rfl (fun hg=>(QW.move (.tmp rfl))) (Zg rfl (fun hg=>(QW.gtr (.when rfl hg) (.when rfl hg))) (Zq rfl (QW.pick_or (.tmp rfl) (.tmp rfl)) (Zn ?_)))))
  refine J.cond (.tmp rfl) (fun c1=>?_) (fun c1=>?_)
  · skip
    exact Zs (Zq rfl (QW.assign .const) (Zn (J.ret (thenQ.r (Zr [.k] (RetEv.one rfl (REv.tmp rfl lr)) rfl ⟨by rw[LD (n:=((EX.css fr l).length:Int)) (by rw[EX.css_length]),c1];rfl,rfl⟩)))))
  refine Zk (J.seq (Zs (Zq rfl (Qa N7 (.tmp rfl) rfl) (Zq rfl (Qb 0 UQ (.tmp rfl) rfl rfl) (Zq rfl (QW.eql (.tmp rfl) .const) (Zn ?_))))))
  refine J.cond (.tmp rfl) (fun c2=>?_) (fun c2=>?_)
  · skip
    have h3:o=3:=by simpa using c2
    refine J.seq (QY 5 Uc (by kernel_rfl) (by kernel_rfl) (by kernel_rfl) rfl ?_)
    refine .cons [] rfl rfl rfl (.q rfl (Qa N6 (.tmp rfl) rfl)) ?_
    refine .cons [51] rfl rfl rfl (.q rfl (Qb 0 Wi (.tmp rfl) rfl rfl)) ?_
    refine .cons [52] rfl rfl rfl (.q rfl (QW.call BL (.cons (.tmp rfl) .nil) (MS _ (by assumption)))) ?_
    refine .cons [] rfl rfl rfl (.q rfl (Qa N6 (.tmp rfl) rfl)) ?_
    refine .cons [54] rfl rfl rfl (.q rfl (Qb 0 Wi (.tmp rfl) rfl rfl)) ?_
    refine .nil ?_
    exact Zq rfl (QW.eql (.tmp rfl) (.tmp rfl)) (Zq rfl (QW.assign (.tmp rfl)) (Zn (J.ret (thenQ.r (Zr [.k] (RetEv.one rfl (REv.tmp rfl lr)) rfl ⟨by rw[LD (n:=((EX.css fr l).length:Int)) (by rw[EX.css_length]),c1,if_pos h3];congr 3;rw[Bool.eq_iff_iff];simp;omega,rfl⟩)))))
  have h3:¬o=3:=by simpa using c2
  exact Zk (Zs (Zq rfl (Qa N6 (.tmp rfl) rfl) (Zq rfl (Qb 0 Wi (.tmp rfl) rfl rfl) (Zq rfl (QW.eql (.tmp rfl) .const) (Zq rfl (QW.assign (.tmp rfl)) (Zn (J.ret (Zr [.k] (RetEv.one rfl (REv.tmp rfl lr)) rfl ⟨by rw[LD (n:=((EX.css fr l).length:Int)) (by rw[EX.css_length]),c1,if_neg h3];congr 3;rw[Bool.eq_iff_iff];simp,rfl⟩))))))))

end
section
/- Walks: both walks over an expression. -/
set_option maxRecDepth 10000
set_option maxHeartbeats 4000000
theorem EX.chks_cons{is:List EX}{j:Nat}(h:j<is.length)(lev n:Int):EX.chks (is.drop j) lev n=if(EX.chk is[j] (lev+1) n).1≠0 then EX.chk is[j] (lev+1) n else EX.chks (is.drop (j+1)) lev (EX.chk is[j] (lev+1) n).2:=by
  rw[List.drop_eq_getElem_cons h,EX.chks]
theorem EX.depths_cons{is:List EX}{j:Nat}(h:j<is.length):EX.depths (is.drop j)=max is[j].depth (EX.depths (is.drop (j+1))):=by
  rw[List.drop_eq_getElem_cons h,EX.depths]
def EWalkR(v:EX)(lev n:Int):AV→List Own→Prop:=fun x o=>o=[]∧∃p d:Int,x=.tup [.c (.int .i64 p),.c (.int .i64 d),.c (.int .i64 (v.chk lev n).1)]∧((v.chk lev n).1=0→p=(v.chk lev n).2∧d=lev+v.depth-1)
theorem EWalkR.mk{v:EX}{lev n p d e:Int}(he:e=(v.chk lev n).1)(h:(v.chk lev n).1=0→p=(v.chk lev n).2∧d=lev+v.depth-1):Ww (EWalkR v lev n) (.ret (.tup [.c (.int .i64 p),.c (.int .i64 d),.c (.int .i64 e)])) []:=
  ⟨_,rfl,rfl,p,d,by rw[he],h⟩
theorem Pr:∀(n:Nat) {v:EX} {ys:List AV} {fr:Bool} {lev p:Int},Xc fr v ys→v.wf→1≤lev∧lev≤9→0≤p∧p≤64→v.sz≤n→
    AC Tryz.prog 58 [] [.agg ys,.c (.int .i64 lev),.c (.int .i64 p)] (Ww (EWalkR v lev p)):=by
  intro n
  induction n with
  |zero=>intro v ys fr lev p hv hw hl hp h;exact absurd h (by have:=EX.sz_pos v;omega)
  |succ n ih=>
    intro v ys fr lev p hv hw hl hp hn
    obtain⟨o,b,t,is⟩:=v
    subst hv
    obtain⟨-,-,-,hi80,hwi⟩:=hw.inv
    have hi64:is.length≤9223372036854775806:=by unfold Qu at hi80;omega
    refine AC.of_J Tryz.func58 rfl Tryz.ntmps58 rfl fun w0 A0=>?_
    refine Zs (Qp (.tmp rfl) rfl fun b3=>Zq rfl (QW.assign .const) (Zq rfl (QW.assign .const) (Zq rfl (QW.assign .const) (Zn (J.seq (J.block (Zs (Zq rfl (QW.move (.tmp rfl)) ?_))))))))
    refine Zq rfl (QW.gtr (.tmp rfl) .const) (Zq rfl (QW.assign (.tmp rfl)) (Zn ?_))
    refine J.cond (.tmp rfl) (fun c1=>?_) (fun c1=>?_)
    · skip
      simp at c1
      exact Zs (Zq rfl (QW.move (.tmp rfl)) (Zq rfl (QW.move (.tmp rfl)) (Zq rfl (QW.assign (.tmp rfl)) (Zq rfl (QW.assign (.tmp rfl)) (Zq rfl (QW.assign .const) (Zn (J.ret (blkQ.r (thenQ.r (Zr [.k] (QQ rfl (REv.tmp rfl lr) (REv.tmp rfl lr) (REv.tmp rfl lr)) rfl (EWalkR.mk (by simp[EX.chk,c1]) (fun h=>by simp[EX.chk,c1]at h))))))))))))
    simp at c1
    refine Zs (Zq rfl (QW.move (.tmp rfl)) (Zq rfl (QW.geq (.tmp rfl) .const) (Zq rfl (QW.assign (.tmp rfl)) (Zn ?_))))
    refine J.cond (.tmp rfl) (fun c2=>?_) (fun c2=>?_)
    · skip
      simp at c2
      exact Zs (Zq rfl (QW.move (.tmp rfl)) (Zq rfl (QW.move (.tmp rfl)) (Zq rfl (QW.assign (.tmp rfl)) (Zq rfl (QW.assign (.tmp rfl)) (Zq rfl (QW.assign .const) (Zn (J.ret (blkQ.r (thenQ.r (Zr [.k] (QQ rfl (REv.tmp rfl lr) (REv.tmp rfl lr) (REv.tmp rfl lr)) rfl (EWalkR.mk (by simp[EX.chk,show ¬8<lev by omega,c2]) (fun h=>by simp[EX.chk,show ¬8<lev by omega,c2]at h))))))))))))
    simp at c2
    refine Zs (Zq rfl (Qf 0 WS (.tmp rfl) rfl rfl rfl) (Zq rfl (QW.call gofn68 (.cons (.tmp rfl) .nil) (CZ Xc.mk hw)) (Zq rfl (QW.not (.tmp rfl)) (Zq rfl (QW.assign (.tmp rfl)) (Zn ?_)))))
    refine J.cond (.tmp rfl) (fun c3=>?_) (fun c3=>?_)
    · skip
      simp at c3
      exact Zs (Zq rfl (QW.move (.tmp rfl)) (Zq rfl (QW.move (.tmp rfl)) (Zq rfl (QW.assign (.tmp rfl)) (Zq rfl (QW.assign (.tmp rfl)) (Zq rfl (QW.assign .const) (Zn (J.ret (blkQ.r (thenQ.r (Zr [.k] (QQ rfl (REv.tmp rfl lr) (REv.tmp rfl lr) (REv.tmp rfl lr)) rfl (EWalkR.mk (by simp[EX.chk,show ¬8<lev by omega,show ¬64≤p by omega,c3]) (fun h=>by simp[EX.chk,show ¬8<lev by omega,show ¬64≤p by omega,c3]at h))))))))))))
    simp at c3
    refine J.skip (blkQ.n (thenQ.n (Zs (Zq rfl (QW.move (.tmp rfl)) (Zq rfl (QW.add (.tmp rfl) .const (WW (by omega))) (Zq rfl (QW.assign (.tmp rfl)) (Zn (Zs (Zq rfl (QW.move (.tmp rfl)) ?_)))))))))
    refine Zq rfl (QW.assign (.tmp rfl)) (Zn (J.seq (Zs (Zq rfl (QW.assign .const) (Zn (J.block ?_))))))
    have hck:EX.chk (.mk o b t is) lev p=EX.chks is lev (p+1):=by unfold EX.chk;rw[if_neg (by omega),if_neg (by omega),if_neg (by simp[c3])]
    refine Q0 (ι:=Nat×Int×Int) [1,3] (fun⟨j,q,e⟩=>[(10,.c (.int .i64 (j:Int))),(2,.c (.int .i64 q)),(9,.c (.int .i64 e))]) (fun _ oo=>oo) (fun⟨j,q,e⟩=>j≤is.length∧EX.chks is lev (p+1)=EX.chks (is.drop j) lev q∧max e (lev+EX.depths (is.drop j))=lev+EX.depths is∧(0≤q∧q≤64∧lev≤e)) (fun⟨j,q,e⟩=>is.length-j) ⟨0,p+1,lev⟩ (⟨Nat.zero_le _,rfl,by have:=EX.depths_nonneg is;rw[List.drop_zero];omega,by omega⟩) (QK (.cons rfl lr (.cons rfl lr (.cons rfl lr (.cons rfl lr (.cons rfl lr .nil))))) (Reown.refl _) (fun _ h=>by first|exact h|simp[h])) ?_
    intro⟨j,q,e⟩ ⟨hj,hcs,hde,hq⟩
    refine J.conv (by(try simp only[nl,Qk,Qz,QA,Qy,QR,AV.cellsOf,Qd,Qe,Nat.reduceAdd]);rfl) ?_
    refine J.seq (Zs (Zq rfl (QW.move (.tmp rfl)) (Zq rfl (Qa Ht (.tmp rfl) rfl) (Zq rfl (Qb 0 Ce (.tmp rfl) rfl rfl) (Zq rfl (Qr NH (.tmp rfl)) (Zq rfl (QW.lss (.tmp rfl) (.tmp rfl)) (Zn ?_)))))))
    refine J.cond (.tmp rfl) (fun c4=>?_) (fun c4=>?_)
    · skip
      have hlt:j<is.length:=by simpa[EX.css_length]using c4
      refine Zk (J.seq (J.block (Zs ?_)))
      have hlt:j<is.length:=by simpa[EX.css_length]using c4
      refine Zq rfl (Qa Ht (.tmp rfl) rfl) (Zq rfl (Qb 0 Ce (.tmp rfl) rfl rfl) (Zq rfl (QW.move (.tmp rfl)) (Zq rfl (Qi NH WS rfl (.tmp rfl) (.tmp rfl) rfl (by exact EX.css_getE _ hlt)) ?_)))
      refine Zq rfl (Ql WS (.tmp rfl) (QH xl rfl) xl) (Zq rfl (QW.move (.tmp rfl)) (Zq rfl (QW.add (.tmp rfl) .const (WW (by omega))) (Zq rfl (QW.move (.tmp rfl)) (JL.callRF [] BN rfl Lent.nil (fun _=>(.cons (.tmp rfl) (.cons (.tmp rfl) (.cons (.tmp rfl) .nil)))) (ih (Xc.self) (hwi _ (List.getElem_mem _)) (by omega) (by omega) (EX.sz_get hn hlt)) (.inl rfl) fun x49 o49 h49=>?_))))
      obtain⟨rfl,p49,d49,rfl,hp49⟩:=h49
      refine Zq rfl (QW.move (.tmp rfl)) (Zq rfl (QW.extract (.tmp rfl) rfl) (Zq rfl (QW.extract (.tmp rfl) rfl) (Zq rfl (QW.extract (.tmp rfl) rfl) (Zq rfl (QW.assign (.tmp rfl)) (Zq rfl (QW.assign (.tmp rfl)) (Zq rfl (QW.assign (.tmp rfl)) (Zn (J.seq (Zs ?_)))))))))
      refine Zq rfl (QW.move (.tmp rfl)) (Zq rfl (QW.neq (.tmp rfl) .const) (Zn ?_))
      refine J.cond (.tmp rfl) (fun c5=>?_) (fun c5=>?_)
      · skip
        simp at c5
        refine Zs (Zq rfl (QW.move (.tmp rfl)) (Zq rfl (QW.move (.tmp rfl)) (Zq rfl (QW.move (.tmp rfl)) (Zq rfl (QW.assign (.tmp rfl)) (Zq rfl (QW.assign (.tmp rfl)) (Zq rfl (QW.assign (.tmp rfl)) (Zn (J.ret (thenQ.r ?_)))))))))
        refine blkQ.r (thenQ.r (thenQ.r (blkQ.r (thenQ.r ?_))))
        rw[EX.chks_cons hlt,if_pos (by simpa using c5)]at hcs
        have he:=hck.trans hcs
        exact Zr [.k] (QQ rfl (REv.tmp rfl lr) (REv.tmp rfl lr) (REv.tmp rfl lr)) rfl (EWalkR.mk (by rw[he]) (fun h=>absurd (by rw[he]at h;exact h) c5))
      simp at c5
      refine Zk (Qg (Zq rfl (QW.move (.tmp rfl)) (Zq rfl (QW.move (.tmp rfl)) (Zq rfl (QW.move (.tmp rfl)) (Zq rfl (QW.max2 (.tmp rfl) (.tmp rfl)) (Zq rfl (QW.assign (.tmp rfl)) (Zq rfl (QW.assign (.tmp rfl)) (JL.nil (blkQ.n ?_)))))))))
      refine thenQ.n (Qg (Zq rfl (QW.move (.tmp rfl)) (Zq rfl (QW.add (.tmp rfl) .const (WW (by omega))) (Zq rfl (QW.assign (.tmp rfl)) (Zn ?_)))))
      have hb:=EX.chk_bounds is[j] (lev+1) q
      obtain⟨hq1,hq2⟩:=hp49 c5
      rw[EX.chks_cons hlt,if_neg (by simp[c5])]at hcs
      rw[EX.depths_cons hlt]at hde
      exact⟨⟨j+1,p49,max e d49⟩,⟨hlt,by rw[hcs,hq1],by omega,by omega⟩,by show is.length-(j+1)<is.length-j;omega,QK (.cons rfl lr (.cons rfl lr (.cons rfl (Rn (by simp only[Int.max_def];split<;>split<;>omega)) (.cons rfl lr (.cons rfl lr .nil))))) (Reown.refl _) (fun _ h=>by first|exact h|simp[h])⟩
    have hge:is.length≤j:=by simpa[EX.css_length]using c4
    refine J.exit (Qv (Qv (QM (thenQ.n (Zs (Zq rfl (QW.move (.tmp rfl)) (Zq rfl (QW.move (.tmp rfl)) (Zq rfl (QW.assign (.tmp rfl)) (Zq rfl (QW.assign (.tmp rfl)) ?_)))))))))
    refine Zq rfl (QW.assign .const) (Zn (J.ret ?_))
    obtain rfl:j=is.length:=by omega
    simp only[List.drop_length,EX.chks,EX.depths]at hcs hde
    have he:=hck.trans hcs
    exact Zr [.k] (QQ rfl (REv.tmp rfl lr) (REv.tmp rfl lr) (REv.tmp rfl lr)) rfl (EWalkR.mk (by rw[he]) (fun h=>⟨by rw[he],by unfold EX.depth;omega⟩))
theorem CY{v:EX}{ys:List AV}{fr:Bool}{lev p:Int}(hv:Xc fr v ys)(hw:v.wf)(hl:1≤lev∧lev≤9)(hp:0≤p∧p≤64):
    AC Tryz.prog 58 [] [.agg ys,.c (.int .i64 lev),.c (.int .i64 p)] (Ww (EWalkR v lev p)):=Pr _ hv hw hl hp (Nat.le_refl _)
def EWR(v:EX)(lev p d:Int)(bw:Nat):W1→List Own→Prop:=PanR ((v.chk lev p).1=0) (YR (v.chk lev p).1) fun x o=>x=.tup []∧o=[wk bw (v.chk lev p).2 (max d (lev+v.depth-1))]
theorem Qal:∀(n:Nat) {v:EX} {ys:List AV} {fr:Bool} {lev p d:Int} {bw:Nat},Xc fr v ys→v.wf→1≤lev∧lev≤9→0≤p∧p≤64→v.sz≤n→
    AC Tryz.prog 75 [wk bw p d] [.c (.pointer (some ⟨bw,0,none⟩)),.agg ys,.c (.int .i64 lev)] (EWR v lev p d bw):=by
  intro n
  induction n with
  |zero=>intro v ys fr lev p d bw hv hw hl hp h;exact absurd h (by have:=EX.sz_pos v;omega)
  |succ n ih=>
    intro v ys fr lev p d bw hv hw hl hp hn
    obtain⟨o,b,t,is⟩:=v
    subst hv
    obtain⟨-,-,-,hi80,hwi⟩:=hw.inv
    have hi64:is.length≤9223372036854775806:=by unfold Qu at hi80;omega
    refine AC.of_J Tryz.func75 rfl Tryz.ntmps75 rfl fun w0 A0=>?_
    refine Zs (Qp (.tmp rfl) rfl fun b4=>Zn (Zs (Zq rfl (QW.move (.tmp rfl)) (Zq rfl (QW.leq (.tmp rfl) .const) ?_))))
    refine Qs [] Dm rfl Lent.nil (fun _=>(.cons (.tmp rfl) (.cons .const .nil))) (NR _ _) (.inl rfl) (fun k10 x10 o10 h10=>?_) (fun k10=>?_)
    rotate_left
    · skip
      refine thenQ.p ?_
      exact⟨_,QN [.k,.k] _,_,rfl,rfl,Qn [.k,.k] _,PanR.of (by simp[EX.chk,show 8<lev by simpa using k10]) (by decide)⟩
    obtain⟨rfl,rfl⟩:=h10
    refine Zn (Zs ?_)
    have hk10:lev≤8:=by simpa using k10
    refine Zq rfl (QW.move (.tmp rfl)) (Zq rfl (QG (.tmp rfl)) (Zq rfl (Qa Lg (.tmp rfl) rfl) (Zq rfl (Qb 1 UQ (.tmp rfl) rfl rfl) (Zq rfl (QW.lss (.tmp rfl) .const) ?_))))
    refine Qs [] Dm rfl Lent.nil (fun _=>(.cons (.tmp rfl) (.cons .const .nil))) (NR _ _) (.inl rfl) (fun k16 x16 o16 h16=>?_) (fun k16=>?_)
    rotate_left
    · skip
      refine thenQ.p ?_
      exact⟨_,QN [.k,.k] _,_,rfl,rfl,Qn [.k,.k] _,PanR.of (by simp[EX.chk,show ¬8<lev by omega,show 64≤p by simpa using k16]) (by decide)⟩
    obtain⟨rfl,rfl⟩:=h16
    refine Zn (Zs ?_)
    have hk16:p<64:=by simpa using k16
    refine Zq rfl (Qf 0 Uz (.tmp rfl) rfl rfl rfl) (Zq rfl (QW.call gofn85 (.cons (.tmp rfl) .nil) (Pt Xc.mk)) ?_)
    refine Qs [] Dm rfl Lent.nil (fun _=>(.cons (.tmp rfl) (.cons .const .nil))) (NR _ _) (.inl rfl) (fun k19 x19 o19 h19=>?_) (fun k19=>?_)
    rotate_left
    · skip
      refine thenQ.p ?_
      exact⟨_,QN [.k,.k] _,_,rfl,rfl,Qn [.k,.k] _,PanR.of (by simp[EX.chk,show ¬8<lev by omega,show ¬64≤p by omega,show(EX.mk o b t is).ok=false by simpa using k19]) (by decide)⟩
    obtain⟨rfl,rfl⟩:=h19
    refine Zn (Zs ?_)
    have hk19:(EX.mk o b t is).ok=true:=k19
    refine Zq rfl (QW.move (.tmp rfl)) (Zq rfl (QG (.tmp rfl)) (Zq rfl (Qa Lg (.tmp rfl) rfl) (Zq rfl (Qb 1 UQ (.tmp rfl) rfl rfl) (Zq rfl (QW.add (.tmp rfl) .const (WW (by omega))) (Zq rfl (QG (.tmp rfl)) (Zq rfl (Qa Lg (.tmp rfl) rfl) (JL.store_box 1 UQ (.tmp rfl) rfl (.tmp rfl) rfl rfl rfl rfl rfl (Zn (Zs ?_)))))))))
    refine Zq rfl (QW.move (.tmp rfl)) (Zq rfl (QW.move (.tmp rfl)) (Zq rfl (QG (.tmp rfl)) (Zq rfl (Qa Rb (.tmp rfl) rfl) (Zq rfl (Qb 1 UQ (.tmp rfl) rfl rfl) (Zq rfl (QW.move (.tmp rfl)) (Zq rfl (QW.max2 (.tmp rfl) (.tmp rfl)) (Zq rfl (QG (.tmp rfl)) (Zq rfl (Qa Rb (.tmp rfl) rfl) (JL.store_box 1 UQ (.tmp rfl) rfl (.tmp rfl) rfl rfl rfl rfl rfl ?_)))))))))
    refine Zn (Zs (Zq rfl (Qa WX (.tmp rfl) rfl) (Zq rfl (Qb 0 K4 (.tmp rfl) rfl rfl) (Zq rfl (Qr XT (.tmp rfl)) (Zq rfl (QW.move .const) (Zn (J.block ?_)))))))
    have hck:EX.chk (.mk o b t is) lev p=EX.chks is lev (p+1):=by unfold EX.chk;rw[if_neg (by omega),if_neg (by omega),if_neg (by simp[hk19])]
    refine Q0 (ι:=Nat×Int×Int) [0,2,37,38] (fun⟨j,q,e⟩=>[(39,.c (.int .i64 (j:Int)))]) (fun⟨j,q,e⟩ oo=>List.set oo 1 (wk bw q e)) (fun⟨j,q,e⟩=>j≤is.length∧EX.chks is lev (p+1)=EX.chks (is.drop j) lev q∧max e (lev+EX.depths (is.drop j))=max d (lev+EX.depths is)∧(0≤q∧q≤64∧lev≤e)) (fun⟨j,q,e⟩=>is.length-j) ⟨0,p+1,if lev>d then lev else d⟩ (⟨Nat.zero_le _,rfl,by have:=EX.depths_nonneg is;rw[List.drop_zero];split<;>omega,by split<;>omega⟩) (QK (.cons rfl lr (.cons rfl lr (.cons rfl lr (.cons rfl lr (.cons rfl lr .nil))))) (Reown.refl _) (fun _ h=>by first|exact h|simp[h])) ?_
    intro⟨j,q,e⟩ ⟨hj,hcs,hde,hq⟩
    refine J.conv (by(try simp only[nl,Qk,Qz,QA,Qy,QR,AV.cellsOf,Qd,Qe,Nat.reduceAdd]);rfl) ?_
    refine Zs (Zq rfl (QW.lss (.tmp rfl) (.tmp rfl)) (Zn (J.seq ?_)))
    refine J.cond (.tmp rfl) (fun c1=>?_) (fun c1=>?_)
    · skip
      have hlt:j<is.length:=by simpa[EX.css_length]using c1
      refine Zk (J.seq (J.block (Zs (Zq rfl (Qi XT Uz rfl (.tmp rfl) (.tmp rfl) rfl (by exact EX.css_getE _ hlt)) ?_))))
      refine Zq rfl (Ql Uz (.tmp rfl) (QH xl rfl) xl) (JL.alloc z79 rfl rfl fun b7=>Qc 0 Uz (.tmp rfl) rfl (.tmp rfl) rfl xl rfl rfl (Zn (Qg (Zq rfl (QW.move (.tmp rfl)) (Zq rfl (Qf 0 Uz (.tmp rfl) rfl (Qm xl rfl) xl) (Zq rfl (QW.move (.tmp rfl)) (Zq rfl (QW.add (.tmp rfl) .const (WW (by omega))) ?_)))))))
      refine Qs [.k,.k,.p] BH rfl Lent.nil (fun _=>(.cons (.tmp rfl) (.cons (.tmp rfl) (.cons (.tmp rfl) .nil)))) (ih (Xc.self) (hwi _ (List.getElem_mem _)) (by omega) (by omega) (EX.sz_get hn hlt)) (.inl rfl) (fun k47 x47 o47 h47=>?_) (fun k47=>?_)
      rotate_left
      · skip
        refine blkQ.p (thenQ.p (thenQ.p (blkQ.p ?_)))
        rw[EX.chks_cons hlt,if_pos k47]at hcs
        have he:=hck.trans hcs
        exact⟨_,QN [.k,.k] _,_,rfl,rfl,Qn [.k,.k] _,PanR.of (by rw[he]) k47⟩
      obtain⟨rfl,rfl⟩:=h47
      refine JL.nil (blkQ.n (thenQ.n (Qg (Zq rfl (QW.add (.tmp rfl) .const (WW (by omega))) (Zq rfl (QW.move (.tmp rfl)) (Zn ?_))))))
      have hb:=EX.chk_bounds is[j] (lev+1) q
      rw[EX.chks_cons hlt,if_neg (by simp[k47])]at hcs
      rw[EX.depths_cons hlt]at hde
      exact⟨⟨j+1,(EX.chk is[j] (lev+1) q).2,max e (lev+1+is[j].depth -1)⟩,⟨hlt,hcs,by omega,by omega⟩,by show is.length-(j+1)<is.length-j;omega,QK (.cons rfl lr (.cons rfl lr (.cons rfl lr (.cons rfl lr (.cons rfl lr .nil))))) (Q9 1 _ rfl) (fun _ h=>by first|exact h|simp[h])⟩
    have hge:is.length≤j:=by simpa[EX.css_length]using c1
    refine J.exit (Qv (Qv (QM ?_)))
    obtain rfl:j=is.length:=by omega
    simp only[List.drop_length,EX.chks,EX.depths]at hcs hde
    have he:=hck.trans hcs
    exact Zr [.k,.p] (Up rfl) rfl (PanR.ret (by rw[he]) ⟨rfl,by rw[he];unfold EX.depth;rw[show max d (lev+(1+EX.depths is)-1)=e by omega];rfl⟩)

end
section
/- Walks: sizes, checks of expressions; are two one. -/
set_option maxRecDepth 10000
set_option maxHeartbeats 4000000
theorem FB(c:Nat)(z:Int):AC Tryz.prog 74 [Wd c z] [.c .nilIface,.c (.pointer (some ⟨c,0,none⟩))] (Ww fun x o=>x=.c (.bool false)∧o=[Wd c z]):=by
  refine AC.of_J Tryz.func74 rfl Tryz.ntmps74 rfl fun w0 A0=>?_
  refine Zs (Zq rfl (QW.assign .const) (Zn (Zs (Zq rfl (QW.move (.tmp rfl)) (Zq rfl (YC ⟨_,Tryz.underlying33,by intro ms h;cases h⟩ KM (.tmp rfl)) ?_)))))
  refine Zq rfl (QW.move (.tmp rfl)) (Zq rfl (QW.extract (.tmp rfl) rfl) (Zq rfl (QW.extract (.tmp rfl) rfl) (Zq rfl (QW.assign (.tmp rfl)) (Zq rfl (QW.assign (.tmp rfl)) (Zn (J.seq (Zs (Zq rfl (QW.move (.tmp rfl)) (Zn ?_)))))))))
  refine J.cond (.tmp rfl) (fun c1=>absurd c1 (by simp)) (fun c1=>?_)
  exact Zk (Zs (Zq rfl (QW.move (.tmp rfl)) (Zq rfl (QW.assign (.tmp rfl)) (Zn (J.ret (Zr [.p] (RetEv.one rfl (REv.tmp rfl lr)) rfl ⟨_,rfl,rfl,rfl⟩))))))
theorem FC(c:Nat)(z e:Int):AC Tryz.prog 74 [Wd c z] [.c (YR e),.c (.pointer (some ⟨c,0,none⟩))] (Ww fun x o=>x=.c (.bool true)∧o=[Wd c e]):=by
  refine AC.of_J Tryz.func74 rfl Tryz.ntmps74 rfl fun w0 A0=>?_
  refine Zs (Zq rfl (QW.assign .const) (Zn (Zs (Zq rfl (QW.move (.tmp rfl)) (Zq rfl (YD ⟨_,Tryz.underlying33,by intro ms h;cases h⟩ (.tmp rfl)) ?_)))))
  refine Zq rfl (QW.move (.tmp rfl)) (Zq rfl (QW.extract (.tmp rfl) rfl) (Zq rfl (QW.extract (.tmp rfl) rfl) (Zq rfl (QW.assign (.tmp rfl)) (Zq rfl (QW.assign (.tmp rfl)) (Zn (J.seq (Zs (Zq rfl (QW.move (.tmp rfl)) (Zn ?_)))))))))
  refine J.cond (.tmp rfl) (fun c1=>?_) (fun c1=>absurd c1 (by simp))
  refine Qg (Zq rfl (QW.move (.tmp rfl)) (Zq rfl (QW.move (.tmp rfl)) (Zq rfl (QG (.tmp rfl)) (JL.store_box 0 Xz (.tmp rfl) rfl (.tmp rfl) rfl rfl rfl rfl rfl (Zn (Zs (Zq rfl (QW.move (.tmp rfl)) (Zq rfl (QW.assign (.tmp rfl)) (Zn ?_)))))))))
  exact J.ret (Zr [.p] (RetEv.one rfl (REv.tmp rfl lr)) rfl ⟨_,rfl,rfl,rfl⟩)
theorem DI(a b c:Nat)(x y z:Int):DC Tryz.prog 73 [Wd a x,Wd c z,Wd b y] [.c (.pointer (some ⟨a,0,none⟩)),.c (.pointer (some ⟨b,0,none⟩)),.c (.pointer (some ⟨c,0,none⟩))] .returning fun r u' o=>r=.ret (.tup [])∧u'=.returning∧o=[Wd a x,Wd c z,Wd b y]:=by
  refine DC.of_JD Tryz.func73 rfl Tryz.ntmps73 rfl fun w0 A0=>?_
  refine JD.seq (Uq rfl rfl (.inl ⟨rfl,rfl,rfl⟩) rfl (JL.callRF [.p] BI rfl Lent.nil (fun _=>(.cons (.tmp rfl) (.cons (.tmp rfl) .nil))) (FB _ _) (.inl rfl) fun x4 o4 h4=>?_))
  obtain⟨rfl,rfl⟩:=h4
  refine JL.nil ?_
  refine YE ?_
  refine JD.of_J rfl ?_
  refine J.cond (.tmp rfl) (fun c1=>absurd c1 (by simp)) (fun c1=>?_)
  refine J.skip ?_
  exact⟨_,QN [.p,.p,.p] _,_,Up rfl,rfl,Qn [.p,.p,.p] _,⟨rfl,rfl,rfl⟩⟩
theorem DJ(a b c:Nat)(x y z e:Int):DC Tryz.prog 73 [Wd a x,Wd c z,Wd b y] [.c (.pointer (some ⟨a,0,none⟩)),.c (.pointer (some ⟨b,0,none⟩)),.c (.pointer (some ⟨c,0,none⟩))] (.panicking [{v:=YR e,recovered:=false}]) fun r u' o=>r=.ret (.tup [])∧u'=.panicking [{v:=YR e,recovered:=true}]∧o=[Wd a e,Wd c 0,Wd b 0]:=by
  refine DC.of_JD Tryz.func73 rfl Tryz.ntmps73 rfl fun w0 A0=>?_
  refine JD.seq (Uq rfl rfl (.inr ⟨[],rfl,rfl⟩) rfl (JL.callRF [.p] BI rfl Lent.nil (fun _=>(.cons (.tmp rfl) (.cons (.tmp rfl) .nil))) (FC _ _ _) (.inl rfl) fun x4 o4 h4=>?_))
  obtain⟨rfl,rfl⟩:=h4
  refine JL.nil ?_
  refine YE ?_
  refine JD.of_J rfl ?_
  refine J.cond (.tmp rfl) (fun c1=>?_) (fun c1=>absurd c1 (by simp))
  refine Qg (JL.store_box 2 UQ (.tmp rfl) rfl .const rfl rfl rfl rfl rfl (JL.store_box 1 UQ (.tmp rfl) rfl .const rfl rfl rfl rfl rfl (JL.nil ?_)))
  exact⟨_,QN [.p,.p,.p] _,_,Up rfl,rfl,Qn [.p,.p,.p] _,⟨rfl,rfl,rfl⟩⟩
def GZ(v:EX):AV:=.tup [.c (.int .i64 (if v.err=0 then v.cnt else 0)),.c (.int .i64 (if v.err=0 then v.depth else 0)),.c (.int .i64 v.err)]
theorem DG{v:EX}{n d:Int}(h:v.err=0)(hn:n=v.cnt)(hd:d=v.depth):GZ v=.tup [.c (.int .i64 n),.c (.int .i64 d),.c (.int .i64 0)]:=by
  subst hn hd;simp[GZ,h]
theorem DH{v:EX}{e:Int}(h:¬v.err=0)(he:e=v.err):GZ v=.tup [.c (.int .i64 0),.c (.int .i64 0),.c (.int .i64 e)]:=by
  subst he;simp[GZ,h]
theorem Pq{fr:Bool}{v:EX}{ys:List AV}(hv:Xc fr v ys)(hw:v.wf):Fn Tryz.prog 62 [.agg ys] (GZ v):=by
  subst hv
  refine AC.of_JD Tryz.func62 rfl Tryz.ntmps62 rfl fun w0 A0=>?_
  refine Zs (Qp (.tmp rfl) rfl fun b1=>JL.alloc z3 rfl rfl fun b2=>JL.alloc z3 rfl rfl fun b3=>JL.alloc z33 rfl rfl fun b4=>Zn (Zs (Zq rfl (UF .nil (.cons (.tmp rfl) (.cons (.tmp rfl) (.cons (.tmp rfl) .nil)))) (JL.defer rfl (.tmp rfl) (Zn ?_)))))
  refine Zs (JL.alloc z138 rfl rfl fun b5=>Zn (Zs (Zq rfl (Qf 4 Uz (.tmp rfl) rfl (Qm xl rfl) xl) ?_)))
  refine Qs [.p] BH rfl Lent.nil (fun _=>(.cons (.tmp rfl) (.cons (.tmp rfl) (.cons .const .nil)))) (Qal _ Xc.self hw (by omega) (by omega) (Nat.le_refl _)) (.inl rfl) (fun k8 x8 o8 h8=>?_) (fun k8=>?_)
  rotate_left
  · skip
    refine thenQ.p ?_
    exact⟨_,_,[],[_,_,_],QN [.p,.p,.p] _,_,rfl,rfl,BJ,Qn [.p,.p,.p] _,DC.mono (DJ _ _ _ _ _ _ _) fun r u' o ⟨h1,h2,h3⟩=>by subst h1 h2 h3;exact⟨⟨_,rfl⟩,rfl,_,[],_,QQ rfl (Q2 2 UQ rfl rfl rfl lr) (Q2 1 UQ rfl rfl rfl lr) (Q2 0 Xz rfl rfl rfl lr),List.Perm.refl _,(congrArg W1.ret (DH k8 rfl)).symm,rfl⟩⟩
  obtain⟨rfl,rfl⟩:=h8
  refine Zn (J.seq (W6 5 1 (fun os_ ow_ x_ o_=>match os_ with|[]=>(x_=.c undef∧o_=ow_.set 3 (Wd b2 (v.chk 1 0).2))|_=>False) Uc (by kernel_rfl) (by kernel_rfl) (by kernel_rfl) rfl ?_))
  refine OutK.quiet [] rfl rfl rfl (fun qs_ qv_ ql_=>(.q rfl (Qa Lg (.tmp rfl) rfl))) ?_
  refine OutK.quiet [9] rfl rfl rfl (fun qs_ qv_ ql_=>by
      rcases qs_ with _|⟨⟨y0,p0⟩,qs_⟩
      · skip
        exact(.q rfl (Qb 0 UQ (.tmp rfl) rfl rfl))
      rcases qs_ with _|⟨⟨y1,p1⟩,qs_⟩
      · skip
        obtain⟨hr0,_⟩:=qv_
        obtain⟨rfl,rfl⟩:=hr0
        exact(.q rfl (Qb 0 UQ (.tmp rfl) rfl rfl))
      exact absurd ql_ (by simp)) ?_
  refine OutK.quiet [] rfl rfl rfl (fun qs_ qv_ ql_=>(.q rfl (Qa Rb (.tmp rfl) rfl))) ?_
  refine OutK.quiet [11] rfl rfl rfl (fun qs_ qv_ ql_=>by
      rcases qs_ with _|⟨⟨y0,p0⟩,qs_⟩
      · skip
        exact(.q rfl (Qb 0 UQ (.tmp rfl) rfl rfl))
      rcases qs_ with _|⟨⟨y1,p1⟩,qs_⟩
      · skip
        obtain⟨hr0,_⟩:=qv_
        obtain⟨rfl,rfl⟩:=hr0
        exact(.q rfl (Qb 0 UQ (.tmp rfl) rfl rfl))
      exact absurd ql_ (by simp)) ?_
  refine OutK.store [10] rfl (fun qs_ ow x o h ql_=>by
      obtain rfl:qs_=[]:=List.length_eq_zero_iff.1 (by simpa using ql_)
      exact h.1) rfl rfl rfl (fun qs_ qv_ ql_=>by
      obtain rfl:qs_=[]:=List.length_eq_zero_iff.1 ql_
      exact Nu rfl (LStep.store_box 3 UQ (.tmp rfl) rfl (.tmp rfl) rfl rfl rfl rfl rfl) ⟨rfl,rfl⟩) ?_
  refine .nil fun qs_ qv_ ql_=>?_
  obtain⟨⟨y0,p0⟩,qs_,rfl⟩:∃p t,qs_=p::t:=by(cases qs_ with|nil=>simp at ql_|cons p t=>exact⟨p,t,rfl⟩)
  obtain rfl:qs_=[]:=List.length_eq_zero_iff.1 (by simpa using ql_)
  obtain⟨hr0,_⟩:=qv_
  obtain⟨rfl,rfl⟩:=hr0
  refine JL.conv (by(try simp only[nl,Qk,Qz,QA,Qy,QR,AV.cellsOf,Qd,Qe,Nat.reduceAdd]);rfl) ?_
  refine JL.store_box 2 UQ (.tmp rfl) rfl (.tmp rfl) rfl rfl rfl rfl rfl (JL.store_box 1 Xz (.tmp rfl) rfl .const rfl rfl rfl rfl rfl (Zn (J.ret ?_)))
  exact⟨_,_,[],[_,_,_],QN [.k,.p,.p,.p] _,_,rfl,rfl,BJ,Qn [.k,.p,.p,.p] _,DC.mono (DI _ _ _ _ _ _) fun r u' o ⟨h1,h2,h3⟩=>by subst h1 h2 h3;exact⟨⟨_,rfl⟩,rfl,_,[],_,QQ rfl (Q2 2 UQ rfl rfl rfl lr) (Q2 1 UQ rfl rfl rfl lr) (Q2 0 Xz rfl rfl rfl lr),List.Perm.refl _,(congrArg W1.ret (DG k8 rfl (by have:=EX.chk_depth v 1 0 k8;omega))).symm,rfl⟩⟩
theorem Hw{fr:Bool}{v:EX}{ys:List AV}(hv:Xc fr v ys)(hw:v.wf):Fn Tryz.prog 47 [.agg ys] (.c (.int .i64 v.err)):=by
  subst hv
  refine AC.of_J Tryz.func47 rfl Tryz.ntmps47 rfl fun w0 A0=>?_
  refine Zs (Qp (.tmp rfl) rfl fun b1=>Zq rfl (QW.assign .const) (Zn (Zs (Zq rfl (Qf 0 Uz (.tmp rfl) rfl (Qm xl rfl) xl) (Zq rfl (QW.call gofn62 (.cons (.tmp rfl) .nil) (Pq (Xc.self) (by assumption))) ?_)))))
  refine Zq rfl (QW.move (.tmp rfl)) (Zq rfl (QW.extract (.tmp rfl) rfl) (Zq rfl (QW.extract (.tmp rfl) rfl) (Zq rfl (QW.extract (.tmp rfl) rfl) (Zq rfl (QW.assign (.tmp rfl)) (Zq rfl (QW.assign (.tmp rfl)) (Zq rfl (QW.assign (.tmp rfl)) (Zn (Zs (Zq rfl (QW.move (.tmp rfl)) ?_)))))))))
  exact Zq rfl (QW.assign (.tmp rfl)) (Zn (J.ret (Zr [.k] (RetEv.one rfl (REv.tmp rfl lr)) rfl ⟨rfl,rfl⟩)))
theorem Gx{fr:Bool}{v:EX}{ys:List AV}(hv:Xc fr v ys)(hw:v.wf):Fn Tryz.prog 42 [.agg ys] (.c (.int .i64 v.err)):=by
  subst hv
  refine AC.of_J Tryz.func42 rfl Tryz.ntmps42 rfl fun w0 A0=>?_
  refine Zs (Qp (.tmp rfl) rfl fun b1=>Zq rfl (QW.assign .const) (Zn (Zs (Zq rfl (Qf 0 WS (.tmp rfl) rfl (Qm xl rfl) xl) (JL.callRF [] BN rfl Lent.nil (fun _=>(.cons (.tmp rfl) (.cons .const (.cons .const .nil)))) (CY Xc.self hw (by omega) (by omega)) (.inl rfl) fun x8 o8 h8=>?_)))))
  obtain⟨rfl,p8,d8,rfl,hp8⟩:=h8
  refine Zq rfl (QW.move (.tmp rfl)) (Zq rfl (QW.extract (.tmp rfl) rfl) (Zq rfl (QW.extract (.tmp rfl) rfl) (Zq rfl (QW.extract (.tmp rfl) rfl) (Zq rfl (QW.assign (.tmp rfl)) (Zq rfl (QW.assign (.tmp rfl)) (Zq rfl (QW.assign (.tmp rfl)) (Zn (Zs (Zq rfl (QW.move (.tmp rfl)) ?_)))))))))
  exact Zq rfl (QW.assign (.tmp rfl)) (Zn (J.ret (Zr [.k] (RetEv.one rfl (REv.tmp rfl lr)) rfl ⟨rfl,rfl⟩)))

end
section
/- Walks: are two expressions one; copies; octets that are copied, spoilt, compared. -/
set_option maxRecDepth 10000
set_option maxHeartbeats 4000000
theorem of14_n:∀(n:Nat) {v:EX} {ys:List AV} {fr:Bool},Xc fr v ys→v.wf→v.sz≤n→AC Tryz.prog 24 [] [.agg ys] (Ww (PU v)):=by
  intro n
  induction n with
  |zero=>intro v ys fr hv hw h;exact absurd h (by have:=EX.sz_pos v;omega)
  |succ n ih=>
    intro v ys fr hv hw hn
    obtain⟨o,b,t,is⟩:=v
    subst hv
    obtain⟨-,-,-,hi80,hwi⟩:=hw.inv
    have h1:is.length≤9223372036854775806:=by unfold Qu at hi80;omega
    refine AC.of_J Tryz.func24 rfl Tryz.ntmps24 rfl fun w0 A0=>?_
    refine Zs (Qp (.tmp rfl) rfl fun b1=>JL.alloc z79 rfl rfl fun b2=>Zn (Zs (Zq rfl (Qa N7 (.tmp rfl) rfl) (Zq rfl (Qb 1 UQ (.tmp rfl) rfl rfl) (Zq rfl (Qa N6 (.tmp rfl) rfl) (Zq rfl (Qb 1 Wi (.tmp rfl) rfl rfl) (Zq rfl (Qa Dy (.tmp rfl) rfl) ?_)))))))
    refine Zq rfl (Qb 1 U9 (.tmp rfl) rfl rfl) (Zq rfl (QW.build (idx:=[0,1,2]) pl79 z79 rfl (.cons (.tmp rfl) (.cons (.tmp rfl) (.cons (.tmp rfl) .nil))) rfl rfl rfl rfl) (JL.alloc z79 rfl rfl fun b3=>Qc 0 Uz (.tmp rfl) rfl (.tmp rfl) rfl rfl rfl rfl (Zn (J.seq (Zs (Zq rfl (QW.assign .const) (Zn (J.block ?_))))))))
    refine J.reown (Uf C3 _) (J.reown (YB _) (Q0 (ι:=Nat×Value×List (List AV)×List Value×Own) [1,2,3] (fun⟨j,v,cs,us,g⟩=>[(4,.c (.int .i64 (j:Int)))]) (fun⟨j,v,cs,us,g⟩ oo=>List.set (List.set (List.set oo 0 (.box b3 ((EX.mk o b t is).raw v))) 3 (.arr v C3 cs)) 4 (g)) (fun⟨j,v,cs,us,g⟩=>j≤is.length∧EKids (is.take j) cs us g) (fun⟨j,v,cs,us,g⟩=>is.length-j) ⟨0,.slice none 0 0,[],[],.grp []⟩ (⟨Nat.zero_le _,.nil⟩) (QK (.cons rfl lr (.cons rfl lr (.cons rfl lr (.cons rfl lr .nil)))) (Reown.refl _) (fun _ h=>by first|exact h|simp[h])) ?_))
    intro⟨j,v,cs,us,g⟩ ⟨hj,hK⟩
    refine J.conv (by(try simp only[nl,Qk,Qz,QA,Qy,QR,AV.cellsOf,Qd,Qe,Nat.reduceAdd]);rfl) ?_
    refine J.seq (Zs (Zq rfl (QW.move (.tmp rfl)) (Zq rfl (Qa Ht (.tmp rfl) rfl) (Zq rfl (Qb 2 Ce (.tmp rfl) rfl rfl) (Zq rfl (Qh NH (.tmp rfl) (EX.css_length _ _)) (Zq rfl (QW.lss (.tmp rfl) (.tmp rfl)) (Zn ?_)))))))
    refine J.cond (.tmp rfl) (fun c1=>?_) (fun c1=>?_)
    · skip
      have hlt:j<is.length:=by simpa[EX.css_length]using c1
      refine Zk (J.seq (J.block (QU Uc (Zf 0 [] rfl (fun _=>Qa WX (.tmp rfl) rfl) (Zo 1 0 [19] rfl (fun _ ho_=>Qb 0 K4 (.tmp rfl) ho_ rfl) (Zf 2 [] rfl (fun _=>Qa Ht (.tmp rfl) rfl) (Zo 3 2 [21] rfl (fun _ ho_=>Qb 2 Ce (.tmp rfl) ho_ rfl) (Zf 4 [] rfl (fun _=>QW.move (.tmp rfl)) (Zf 5 [22,23] rfl (fun _=>Qi NH WS rfl (.tmp rfl) (.tmp rfl) rfl (by exact EX.css_getE _ hlt)) ?_)))))))))
      refine Zf 6 [24] rfl (fun _=>Ql WS (.tmp rfl) (QH xl rfl) xl) (JX.one 7 [true,true,true,true,true,false,false] rfl (by kernel_rfl) (by kernel_rfl) rfl rfl (by kernel_rfl) rfl fun bs7_ pe_ ex_=>?_)
      refine JL.conv (by(try simp only[Ua,Uj,Q5,QS,Flt.val,Flt.bx,nx,nl,Qk,Qz,QA,Qy,QR,AV.cellsOf,Qd,Qe,Nat.reduceAdd]);rfl) ?_
      refine JL.callRF [] NY rfl Lent.nil (fun _=>(.cons (.tmp rfl) .nil)) (ih Xc.self (hwi _ (List.getElem_mem _)) (EX.sz_get hn hlt)) (.inl rfl) fun x26 o26 h26=>?_
      obtain⟨iv26,oi26,rfl,rfl,hV26⟩:=h26
      refine JL.nil ?_
      refine thenQ.n ⟨[_],_,rfl,rfl,rfl,rfl,rfl,Wp 5 rfl rfl,⟨rfl,rfl⟩,⟨rfl,⟨trivial,trivial⟩⟩,?_⟩
      refine JX.conv (S':=[7,6,5,4,3,2]) rfl (by(try simp only[QS]);rfl) (by(try simp only[Ua,Uj,Q5,QS,Flt.val,Flt.bx,nx,nl,Qk,Qz,QA,Qy,QR,AV.cellsOf,Qd,Qe,Nat.reduceAdd]);rfl) ?_
      refine Zf 8 [26] rfl (fun _=>QW.buildSlice (idx:=[0]) (xs:=[is[j].raw iv26]) XT el79 z79 rfl (.cons (.tmp rfl) .nil) rfl rfl rfl rfl rfl rfl rfl rfl rfl) (JX.one 9 [true,true,true] rfl (by kernel_rfl) (by kernel_rfl) rfl rfl (by kernel_rfl) rfl fun bs9_ pe_ ex_=>?_)
      refine JL.conv (by(try simp only[Ua,Uj,Q5,QS,Flt.val,Flt.bx,nx,nl,Qk,Qz,QA,Qy,QR,AV.cellsOf,Qd,Qe,Nat.reduceAdd]);rfl) ?_
      refine JL.append 3 XT el79 rfl (.tmp rfl) rfl (UL XT (.tmp rfl)) (by have:=hK.h2;rw[List.length_take]at this;simp;unfold Qu at*;omega) rfl fun v28=>?_
      refine JL.nil ?_
      refine thenQ.n ⟨[_],_,rfl,rfl,rfl,rfl,rfl,QJ 6 rfl,⟨rfl,rfl⟩,trivial,?_⟩
      refine JX.conv (S':=[9,8,1,0,7,6,5,4,3,2]) rfl (by(try simp only[QS]);rfl) (by(try simp only[Ua,Uj,Q5,QS,Flt.val,Flt.bx,nx,nl,Qk,Qz,QA,Qy,QR,AV.cellsOf,Qd,Qe,Nat.reduceAdd]);rfl) ?_
      refine Zf 10 [] rfl (fun _=>Qa WX (.tmp rfl) rfl) (JX.one 11 [true] rfl (by kernel_rfl) (by kernel_rfl) rfl rfl (by kernel_rfl) rfl fun bs11_ pe_ ex_=>?_)
      refine JL.conv (by(try simp only[Ua,Uj,Q5,QS,Flt.val,Flt.bx,nx,nl,Qk,Qz,QA,Qy,QR,AV.cellsOf,Qd,Qe,Nat.reduceAdd]);rfl) ?_
      refine JL.isSlice 3 rfl fun hs2=>JL.store_box 0 K4 (.tmp rfl) rfl (.tmp rfl) (by assumption) rfl rfl rfl rfl ?_
      refine JL.nil ?_
      refine thenQ.n ⟨[],_,rfl,rfl,rfl,rfl,rfl,QJ 6 rfl,trivial,trivial,?_⟩
      refine JX.conv (S':=[11,10,9,8,1,0,7,6,5,4,3,2]) rfl (by(try simp only[QS]);rfl) (by(try simp only[Ua,Uj,Q5,QS,Flt.val,Flt.bx,nx,nl,Qk,Qz,QA,Qy,QR,AV.cellsOf,Qd,Qe,Nat.reduceAdd]);rfl) ?_
      refine JX.fin (by kernel_rfl) (by kernel_rfl) fun bs_=>?_
      refine QX.conv (by(try simp only[Ua,Uj,Q5,QS,Flt.val,Flt.bx,nx,nl,Qk,Qz,QA,Qy,QR,AV.cellsOf,Qd,Qe,Nat.reduceAdd]);rfl) ?_
      refine blkQ.n (thenQ.n (Qg (Zq rfl (QW.move (.tmp rfl)) (Zq rfl (QW.add (.tmp rfl) .const (WW (by omega))) (Zq rfl (QW.assign (.tmp rfl)) (Zn ?_))))))
      exact⟨⟨j+1,_,_,_,_⟩,⟨hlt,by rw[List.take_succ_eq_append_getElem hlt];exact hK.snoc hV26⟩,by show is.length-(j+1)<is.length-j;omega,QK (.cons rfl lr (.cons rfl lr (.cons rfl lr (.cons rfl lr .nil)))) ((Reown.cons (Reown.cons (Reown.cons (Reown.cons (Yb _ _ _)))))) (fun _ h=>by first|exact h|simp[h])⟩
    have hge:is.length≤j:=by simpa[EX.css_length]using c1
    refine J.exit (Qv (Qv (QM (thenQ.n (J.seq (J.isSlice 3 rfl fun hs1=>J.reown (Reown.cons (Reown.cons (Reown.cons (Yb _ _ _)))) (Qg (Zq rfl (Qf 0 Uz (.tmp rfl) rfl rfl rfl) ?_))))))))
    refine Qc 1 Uz (.tmp rfl) rfl (.tmp rfl) rfl rfl rfl rfl (Zn (J.ret ?_))
    obtain rfl:j=is.length:=by omega
    rw[List.take_length]at hK
    exact Zr [.k,.k,.k,.p] (RetEv.one rfl (REv.cell 1 Uz rfl rfl rfl rfl lr)) rfl ⟨_,rfl,_,_,rfl,rfl,hs1,hK.tr hi80⟩
theorem Bj{v:EX}{ys:List AV}{fr:Bool}(hv:Xc fr v ys)(hw:v.wf):AC Tryz.prog 24 [] [.agg ys] (Ww (PU v)):=of14_n _ hv hw (Nat.le_refl _)
theorem NQ{v:EX}{ys:List AV}{fr:Bool}(hv:Xc fr v ys)(hw:v.wf):Fn Tryz.prog 24 [.agg ys] (.agg (v.cs true)):=D4 (Bj hv hw)

end
section
/- Walks: an expression over a scope, with fuel. -/
set_option maxRecDepth 10000
set_option maxHeartbeats 4000000
def zV:List AV:=[.c (.int .i64 0),.c (.int .u64 0),.c (Um []),.c (.slice none 0 0),.c (.slice none 0 0)]
def ScT.cs(s:ScT):List AV:=s.st.cs false++s.ev.cs false++s.it.cs false
def FQ(r:V×Int×Int):AV:=.tup [.agg (r.1.cs true),.c (.int .i64 r.2.1),.c (.int .i64 r.2.2)]
theorem Sd{e:EX}{s:ScT}{f c:Int}(h:e.ev s f=.error c):MB e s f=(.nil,0,c):=by unfold MB;rw[h]
theorem Sa{e:EX}{s:ScT}{f f':Int}{v:V}(h:e.ev s f=.ok (v,f')):MB e s f=(v,f',0):=by unfold MB;rw[h]
theorem FR(a b c:Nat)(zs:List AV)(y z:Int):DC Tryz.prog 86 [Wd c z,Wd b y,.box a zs] [.c (.pointer (some ⟨a,0,none⟩)),.c (.pointer (some ⟨b,0,none⟩)),.c (.pointer (some ⟨c,0,none⟩))] .returning fun r u' o=>r=.ret (.tup [])∧u'=.returning∧o=[Wd c z,Wd b y,.box a zs]:=by
  refine DC.of_JD Tryz.func86 rfl Tryz.ntmps86 rfl fun w0 A0=>?_
  refine JD.seq (Uq rfl rfl (.inl ⟨rfl,rfl,rfl⟩) rfl (Zq rfl (YC ⟨_,Tryz.underlying33,by intro ms h;cases h⟩ KM (.tmp rfl)) ?_))
  refine Zq rfl (QW.move (.tmp rfl)) (Zq rfl (QW.extract (.tmp rfl) rfl) (Zq rfl (QW.extract (.tmp rfl) rfl) (Zq rfl (QW.assign (.tmp rfl)) (Zq rfl (QW.assign (.tmp rfl)) (JL.nil ?_)))))
  refine YE ?_
  refine JD.of_J rfl (Zs (Zq rfl (QW.move (.tmp rfl)) (Zn ?_)))
  refine J.cond (.tmp rfl) (fun c1=>absurd c1 (by simp)) (fun c1=>?_)
  refine J.skip ?_
  exact⟨_,QN [.p,.p,.p] _,_,Up rfl,rfl,Qn [.p,.p,.p] _,⟨rfl,rfl,rfl⟩⟩
theorem FS(a b c:Nat)(zs:List AV)(hz:zs.length=5)(y z e:Int):DC Tryz.prog 86 [Wd c z,Wd b y,.box a zs] [.c (.pointer (some ⟨a,0,none⟩)),.c (.pointer (some ⟨b,0,none⟩)),.c (.pointer (some ⟨c,0,none⟩))] (.panicking [{v:=YR e,recovered:=false}]) fun r u' o=>r=.ret (.tup [])∧u'=.panicking [{v:=YR e,recovered:=true}]∧o=[Wd c e,Wd b 0,.box a zV]:=by
  refine DC.of_JD Tryz.func86 rfl Tryz.ntmps86 rfl fun w0 A0=>?_
  refine JD.seq (Uq rfl rfl (.inr ⟨[],rfl,rfl⟩) rfl (Zq rfl (YD ⟨_,Tryz.underlying33,by intro ms h;cases h⟩ (.tmp rfl)) ?_))
  refine Zq rfl (QW.move (.tmp rfl)) (Zq rfl (QW.extract (.tmp rfl) rfl) (Zq rfl (QW.extract (.tmp rfl) rfl) (Zq rfl (QW.assign (.tmp rfl)) (Zq rfl (QW.assign (.tmp rfl)) (JL.nil ?_)))))
  refine YE ?_
  refine JD.of_J rfl (Zs (Zq rfl (QW.move (.tmp rfl)) (Zn ?_)))
  refine J.cond (.tmp rfl) (fun c1=>?_) (fun c1=>absurd c1 (by simp))
  refine Qg (Zq rfl (QW.build (idx:=[]) Xt WQ rfl .nil rfl rfl rfl rfl) (Zq rfl (QW.move (.tmp rfl)) (JL.store_box 2 Qj (.tmp rfl) rfl (.tmp rfl) rfl rfl (by rw[hz];rfl) (UY (by rw[hz];rfl)) rfl ?_)))
  refine JL.store_box 1 UQ (.tmp rfl) rfl .const rfl rfl rfl rfl rfl (JL.store_box 0 Xz (.tmp rfl) rfl (.tmp rfl) rfl rfl rfl rfl rfl (JL.nil ?_))
  exact⟨_,QN [.p,.p,.p] _,_,Up rfl,rfl,Qn [.p,.p,.p] _,⟨rfl,rfl,rfl⟩⟩
theorem run_ok{fr:Bool}{e:EX}{ys:List AV}(he:Xc fr e ys)(hw:e.wf)(hf:e.Fine){s:ScT}(hs:s.good){f:Int}(h0:KQ f):Fn Tryz.prog 76 [.agg ys,.agg s.cs,.c (.int .i64 f)] (FQ (MB e s f)):=by
  subst he
  obtain⟨⟨ka,ua,ta,va,ia⟩,⟨kb,ub,tb,vb,ib⟩,⟨kc,uc,tc,vc,ic⟩⟩:=s
  have hs0:=hs
  refine AC.of_JD Tryz.func76 rfl Tryz.ntmps76 rfl fun w0 A0=>?_
  refine Zs (Qp (.tmp rfl) rfl fun b3=>Qp (.tmp rfl) rfl fun b4=>JL.alloc WQ rfl rfl fun b6=>JL.alloc z3 rfl rfl fun b7=>JL.alloc z33 rfl rfl fun b8=>Zn (Zs (Zq rfl (UF .nil (.cons (.tmp rfl) (.cons (.tmp rfl) (.cons (.tmp rfl) .nil)))) (JL.defer rfl (.tmp rfl) ?_))))
  refine Zn (Zs (Zq rfl (Qf 3 ty117 (.tmp rfl) rfl rfl rfl) (Zq rfl (QW.move (.tmp rfl)) (Zq rfl (QW.build (idx:=[0,1]) pl157 z157 rfl (.cons (.tmp rfl) (.cons (.tmp rfl) .nil)) rfl rfl rfl rfl) (Qp (.tmp rfl) rfl fun b14=>Zq rfl (QW.assign (.tmp rfl)) (Zn (Zs (Zq rfl (QW.move (.tmp rfl)) ?_))))))))
  refine Zq rfl (Qf 5 Uz (.tmp rfl) rfl (Qm xl rfl) xl) ?_
  refine Qs [.p] Gt rfl Lent.nil (fun _=>(.cons (.tmp rfl) (.cons (.tmp rfl) .nil))) (Sw _ e ⟨⟨ka,ua,ta,va,ia⟩,⟨kb,ub,tb,vb,ib⟩,⟨kc,uc,tc,vc,ic⟩⟩ f b14 fr hw hf hs h0 (Nat.le_refl _)) (.inl rfl) (fun k17 x17 o17 h17=>?_) (fun k17=>?_)
  rotate_left
  · skip
    refine thenQ.p ?_
    exact⟨_,_,[],[_,_,_],QN [.p,.p,.p] _,_,rfl,rfl,BF,Qn [.p,.p,.p] _,DC.mono (FS _ _ _ _ rfl _ _ _) fun r u' o ⟨h1,h2,h3⟩=>by subst h1 h2 h3;exact⟨⟨_,rfl⟩,rfl,_,[],_,(QQ rfl (REv.cell 2 Qj rfl rfl rfl rfl (.aggL (.cons lr (.cons lr (.cons lr (.cons (.nil true false _) (.cons (.nil true false _) .nil))))))) (Q2 1 UQ rfl rfl rfl lr) (Q2 0 Xz rfl rfl rfl lr)),List.Perm.refl _,(congrArg (fun r=>W1.ret (FQ r)) (Sd (Wh k17)).symm),rfl⟩⟩
  obtain⟨v17,f17,hv17,rfl,rfl⟩:=h17
  refine Zq rfl (QW.call Gu (.cons (.tmp rfl) .nil) (G3 Vc.self (Kb hw hf hs h0 hv17).1.wf)) (Qc 3 Qj (.tmp rfl) rfl (.tmp rfl) rfl vl rfl rfl (Zn (J.seq (QU Uc (Zo 0 3 [] rfl (fun _ ho_=>Qf 3 Qj (.tmp rfl) ho_ (Qm vl rfl) vl) (Zf 1 [] rfl (fun _=>QW.move (.tmp rfl)) (Zf 2 [20] rfl (fun _=>QG (.tmp rfl)) (Zf 3 [21] rfl (fun _=>Qa Lf (.tmp rfl) rfl) (Zo 4 0 [22] rfl (fun _ ho_=>Qb 0 UQ (.tmp rfl) ho_ rfl) ?_)))))))))
  refine JX.one 5 [false,false,false,false,true] rfl (by kernel_rfl) (by kernel_rfl) rfl rfl (by kernel_rfl) rfl fun bs5_ pe_ ex_=>?_
  refine JL.conv (by(try simp only[Ua,Uj,Q5,QS,Flt.val,Flt.bx,nx,nl,Qk,Qz,QA,Qy,QR,AV.cellsOf,Qd,Qe,Nat.reduceAdd]);rfl) ?_
  refine Qc 3 Qj (.tmp rfl) rfl (.tmp rfl) rfl vl vl rfl (JL.nil ?_)
  refine thenQ.n ⟨[],_,rfl,rfl,rfl,rfl,rfl,QJ 6 rfl,trivial,⟨rfl,⟨trivial,⟨trivial,⟨trivial,trivial⟩⟩⟩⟩,?_⟩
  refine JX.conv (S':=[5,0]) rfl (by(try simp only[QS]);rfl) (by(try simp only[Ua,Uj,Q5,QS,Flt.val,Flt.bx,nx,nl,Qk,Qz,QA,Qy,QR,AV.cellsOf,Qd,Qe,Nat.reduceAdd]);rfl) ?_
  refine JX.one 6 [true,true,true,true] rfl (by kernel_rfl) (by kernel_rfl) rfl rfl (by kernel_rfl) rfl fun bs6_ pe_ ex_=>?_
  refine JL.conv (by(try simp only[Ua,Uj,Q5,QS,Flt.val,Flt.bx,nx,nl,Qk,Qz,QA,Qy,QR,AV.cellsOf,Qd,Qe,Nat.reduceAdd]);rfl) ?_
  refine JL.store_box 2 UQ (.tmp rfl) rfl (.tmp rfl) rfl rfl rfl rfl rfl (JL.nil ?_)
  refine thenQ.n ⟨[],_,rfl,rfl,rfl,rfl,rfl,QJ 6 rfl,trivial,trivial,?_⟩
  refine JX.conv (S':=[6,4,3,2,1,5,0]) rfl (by(try simp only[QS]);rfl) (by(try simp only[Ua,Uj,Q5,QS,Flt.val,Flt.bx,nx,nl,Qk,Qz,QA,Qy,QR,AV.cellsOf,Qd,Qe,Nat.reduceAdd]);rfl) ?_
  refine JX.one 7 [] rfl (by kernel_rfl) (by kernel_rfl) rfl rfl (by kernel_rfl) rfl fun bs7_ pe_ ex_=>?_
  refine JL.conv (by(try simp only[Ua,Uj,Q5,QS,Flt.val,Flt.bx,nx,nl,Qk,Qz,QA,Qy,QR,AV.cellsOf,Qd,Qe,Nat.reduceAdd]);rfl) ?_
  refine JL.store_box 1 Xz (.tmp rfl) rfl .const rfl rfl rfl rfl rfl (JL.nil ?_)
  refine thenQ.n ⟨[],_,rfl,rfl,rfl,rfl,rfl,QJ 6 rfl,trivial,trivial,?_⟩
  refine JX.conv (S':=[7,6,4,3,2,1,5,0]) rfl (by(try simp only[QS]);rfl) (by(try simp only[Ua,Uj,Q5,QS,Flt.val,Flt.bx,nx,nl,Qk,Qz,QA,Qy,QR,AV.cellsOf,Qd,Qe,Nat.reduceAdd]);rfl) ?_
  refine JX.fin (by kernel_rfl) (by kernel_rfl) fun bs_=>?_
  refine QX.conv (by(try simp only[Ua,Uj,Q5,QS,Flt.val,Flt.bx,nx,nl,Qk,Qz,QA,Qy,QR,AV.cellsOf,Qd,Qe,Nat.reduceAdd]);rfl) ?_
  refine thenQ.n (J.ret ?_)
  exact⟨_,_,[],[_,_,_],QN [.k,.p,.p,.p] _,_,rfl,rfl,BF,Qn [.k,.p,.p,.p] _,DC.mono (FR _ _ _ _ _ _) fun r u' o ⟨h1,h2,h3⟩=>by subst h1 h2 h3;exact⟨⟨_,rfl⟩,rfl,_,[],_,(QQ rfl (REv.cell 2 Qj rfl rfl (Qm vl rfl) vl lr) (Q2 1 UQ rfl rfl rfl lr) (Q2 0 Xz rfl rfl rfl lr)),List.Perm.refl _,(congrArg (fun r=>W1.ret (FQ r)) (Sa hv17).symm),rfl⟩⟩
theorem Mn(s:ScT):s.cs.length=15:=by simp[ScT.cs,V.cs_length]

end
section
/- Programs as plain data: a first state, handlers; what an event makes of a state. -/
structure SetT where
  key:Ui
  ex:EX
structure EmT where
  wh:EX
  nm:Ui
  ar:EX
structure HdT where
  on:Ui
  sets:List SetT
  ems:List EmT
structure PgT where
  init:V
  hs:List HdT
def eSe:We:=⟨5,72⟩
def eEm:We:=⟨9,128⟩
def eHd:We:=⟨3,64⟩
/-! cells -/
def SetT.cs(fr:Bool)(s:SetT):List AV:=.c (Um s.key)::s.ex.cs fr
def SetT.css(fr:Bool)(l:List SetT):List (List AV):=l.map (SetT.cs fr)
def EmT.cs(fr:Bool)(e:EmT):List AV:=e.wh.cs fr++.c (Um e.nm)::e.ar.cs fr
def EmT.css(fr:Bool)(l:List EmT):List (List AV):=l.map (EmT.cs fr)
def HdT.cs(fr:Bool)(h:HdT):List AV:=[.c (Um h.on),.sl fr false eSe (SetT.css fr h.sets),.sl fr false eEm (EmT.css fr h.ems)]
def HdT.css(fr:Bool)(l:List HdT):List (List AV):=l.map (HdT.cs fr)
def PgT.cs(fr:Bool)(p:PgT):List AV:=p.init.cs fr++[.sl fr false eHd (HdT.css fr p.hs)]
theorem SetT.cs_length(fr:Bool)(s:SetT):(s.cs fr).length=5:=by simp[SetT.cs,EX.cs_length]
theorem SetT.css_length(fr:Bool)(l:List SetT):(SetT.css fr l).length=l.length:=by simp[SetT.css]
theorem SetT.css_getE(fr:Bool){l:List SetT}{i:Nat}(h:i<l.length):(SetT.css fr l)[i]? =some ((l[i]).cs fr):=by simp[SetT.css,h]
theorem SetT.css_sz(fr:Bool)(l:List SetT):∀x∈SetT.css fr l,x.length=eSe.sz:=fun x hx=>by obtain⟨v,_,rfl⟩:=List.mem_map.1 hx;exact SetT.cs_length fr v
theorem EmT.cs_length(fr:Bool)(e:EmT):(e.cs fr).length=9:=by simp[EmT.cs,EX.cs_length]
theorem EmT.css_length(fr:Bool)(l:List EmT):(EmT.css fr l).length=l.length:=by simp[EmT.css]
theorem EmT.css_getE(fr:Bool){l:List EmT}{i:Nat}(h:i<l.length):(EmT.css fr l)[i]? =some ((l[i]).cs fr):=by simp[EmT.css,h]
theorem EmT.css_sz(fr:Bool)(l:List EmT):∀x∈EmT.css fr l,x.length=eEm.sz:=fun x hx=>by obtain⟨v,_,rfl⟩:=List.mem_map.1 hx;exact EmT.cs_length fr v
theorem HdT.cs_length(fr:Bool)(h:HdT):(h.cs fr).length=3:=rfl
theorem HdT.css_length(fr:Bool)(l:List HdT):(HdT.css fr l).length=l.length:=by simp[HdT.css]
theorem HdT.css_getE(fr:Bool){l:List HdT}{i:Nat}(h:i<l.length):(HdT.css fr l)[i]? =some ((l[i]).cs fr):=by simp[HdT.css,h]
theorem HdT.css_sz(fr:Bool)(l:List HdT):∀x∈HdT.css fr l,x.length=eHd.sz:=fun x hx=>by obtain⟨v,_,rfl⟩:=List.mem_map.1 hx;exact HdT.cs_length fr v
theorem PgT.cs_length(fr:Bool)(p:PgT):(p.cs fr).length=6:=by simp[PgT.cs,V.cs_length]
theorem SetT.css_snoc(fr:Bool)(l:List SetT)(x:SetT):SetT.css fr l++[x.cs fr]=SetT.css fr (l++[x]):=by simp[SetT.css]
theorem EmT.css_snoc(fr:Bool)(l:List EmT)(x:EmT):EmT.css fr l++[x.cs fr]=EmT.css fr (l++[x]):=by simp[EmT.css]
theorem HdT.css_snoc(fr:Bool)(l:List HdT)(x:HdT):HdT.css fr l++[x.cs fr]=HdT.css fr (l++[x]):=by simp[HdT.css]
theorem EmT.at0{fr:Bool}{e:EmT}:((e.cs fr).drop 0).take 4=e.wh.cs fr:=by rw[List.drop_zero,EmT.cs,List.take_left' (EX.cs_length _ _)]
theorem EmT.at5{fr:Bool}{e:EmT}:((e.cs fr).drop 5).take 4=e.ar.cs fr:=by
  obtain⟨⟨a,b,c,d⟩,n,⟨a2,b2,c2,d2⟩⟩:=e;rfl
theorem EvT.at1{fr:Bool}{e:EvT}:((e.cs fr).drop 1).take 5=e.arg.cs fr:=by
  obtain⟨n,⟨a,b,c,d,f⟩⟩:=e;rfl
theorem SetT.at1{fr:Bool}{s:SetT}:((s.cs fr).drop 1).take 4=s.ex.cs fr:=by
  obtain⟨n,⟨a,b,c,d⟩⟩:=s;rfl
theorem E8{fr:Bool}{e:EmT}:(e.cs fr)[4]? =some (.c (Um e.nm)):=by
  obtain⟨⟨a,b,c,d⟩,n,⟨a2,b2,c2,d2⟩⟩:=e;rfl
theorem TN{fr:Bool}{e:EmT}:((e.cs fr).drop 4)[0]? =some (.c (Um e.nm)):=by
  obtain⟨⟨a,b,c,d⟩,n,⟨a2,b2,c2,d2⟩⟩:=e;rfl
theorem EvT.at0{fr:Bool}{e:EvT}:(e.cs fr)[0]? =some (.c (Um e.name)):=rfl
theorem PgT.at5{fr:Bool}{p:PgT}:(p.cs fr)[5]? =some (.sl fr false eHd (HdT.css fr p.hs)):=by
  obtain⟨⟨a,b,c,d,f⟩,hs⟩:=p;rfl
theorem PgT.at0{fr:Bool}{p:PgT}:((p.cs fr).drop 0).take 5=p.init.cs fr:=by
  obtain⟨⟨a,b,c,d,f⟩,hs⟩:=p;rfl
theorem map_at{vs:List Value}{j:Nat}(h:j<vs.length):(vs.map fun v=>[AV.c v])[j]? =some [AV.c vs[j]]:=by simp[h]
/-! what fits a machine -/
structure SetT.wf(s:SetT):Prop where
  key:s.key.length≤Qu
  ex:s.ex.wf
structure EmT.wf(e:EmT):Prop where
  wh:e.wh.wf
  nm:e.nm.length≤Qu
  ar:e.ar.wf
structure HdT.wf(h:HdT):Prop where
  on:h.on.length≤Qu
  slen:h.sets.length*72≤Qu
  sets:∀x∈h.sets,x.wf
  elen:h.ems.length*128≤Qu
  ems:∀x∈h.ems,x.wf
structure PgT.wf(p:PgT):Prop where
  init:p.init.wf
  hlen:p.hs.length*64≤Qu
  hs:∀x∈p.hs,x.wf
/-! errors -/
def Us(s:Ui):Int:=if Wa s then 0 else 31
def US:List Int→Int
  |[]=>0
  |e::r=>if e≠0 then e else US r
def SetT.es(s:SetT):List Int:=[Us s.key,s.ex.err]
def EmT.es(e:EmT):List Int:=[e.wh.err,Us e.nm,e.ar.err]
def HdT.es(h:HdT):List Int:=Us h.on::(h.sets.flatMap SetT.es++h.ems.flatMap EmT.es)
def HdT.err(h:HdT):Int:=if 8<h.sets.length∨8<h.ems.length then 3 else US h.es
def Km:List HdT→Ui→Int→Int
  |[],_,_=> -1
  |h::r,s,i=>if h.on=s then i else Km r s (i+1)
def PgT.at(p:PgT)(s:Ui):Int:=Km p.hs s 0
def twiceB(p:PgT):List HdT→Int→Bool
  |[],_=>false
  |h::r,i=>p.at h.on !=i||twiceB p r (i+1)
def PgT.err(p:PgT):Int:=if p.init.err≠0 then p.init.err else if p.init.kind≠5 then 81 else if 16<p.hs.length then 3 else if US (p.hs.map HdT.err)≠0 then US (p.hs.map HdT.err)else if twiceB p p.hs 0 then 6 else 0
theorem LY(a b:List Int):US (a++b)=if US a≠0 then US a else US b:=by
  induction a with
  |nil=>simp[US]
  |cons x r ih=>
    simp only[List.cons_append,US]
    by_cases hx:x=0
    · simp[hx,ih]
    · simp[hx]
theorem KC{l:List Int}(h:US l=0):∀x∈l,x=0:=by
  induction l with
  |nil=>intro x hx;cases hx
  |cons y r ih=>
    unfold US at h
    by_cases hy:y=0
    · rw[if_neg (fun h=>h hy)]at h
      intro x hx
      rcases List.mem_cons.1 hx with rfl|hx
      · exact hy
      · exact ih h x hx
    · rw[if_pos hy]at h;exact absurd h hy
/-! what an event makes of a state -/
def Fw(s:ScT)(l:List SetT)(f:Int):ER (List V):=Q8 (l.map SetT.ex) s f
def Wc:V→List (SetT×V)→Except Int V
  |v,[]=>.ok v
  |v,(s,x)::r=>if(v.setv [⟨true,s.key,0⟩] x).2=0 then Wc (v.setv [⟨true,s.key,0⟩] x).1 r else .error 84
def WY(s:ScT):List EmT→Int→ER (List EvT)
  |[],f=>.ok ([],f)
  |x::r,f=>match UW (x.wh.ev s f)with
    |.error e=>.error e
    |.ok (false,f1)=>WY s r f1
    |.ok (true,f1)=>match x.ar.ev s f1 with
      |.error e=>.error e
      |.ok (v,f2)=>match WY s r f2 with
        |.error e=>.error e
        |.ok (l,f3)=>.ok (⟨x.nm,v⟩::l,f3)
def HdT.runE(h:HdT)(st arg:V):Except Int (V×List EvT):=match Fw ⟨st,arg,.nil⟩ h.sets 4096 with
  |.error e=>.error e
  |.ok (vs,f)=>match Wc st (h.sets.zip vs)with
    |.error e=>.error e
    |.ok v=>match WY ⟨v,arg,.nil⟩ h.ems f with
      |.error e=>.error e
      |.ok (l,_)=>.ok (v,l)
def W2(p:PgT)(st:V)(e:EvT):Except Int (V×List EvT):=
  if US [st.err,if st.kind=5 then 0 else 81,Us e.name,e.arg.err]≠0 then .error (US [st.err,if st.kind=5 then 0 else 81,Us e.name,e.arg.err])
  else if p.at e.name<0 then .error 71
  else match p.hs[(p.at e.name).toNat]? with
    |some h=>h.runE st e.arg
    |none=>.error 71
def RO(r:Except Int (V×List EvT)):V×List EvT×Int:=match r with
  |.error c=>(.nil,[],c)
  |.ok (v,l)=>(v,l,0)
def Uy(p:PgT):V→List EvT→List EvT→Int→V×List EvT×Int×Int
  |st,out,[],i=>(st,out,i,0)
  |st,out,e::r,i=>match W2 p st e with
    |.error c=>(st,out,i,c)
    |.ok (v,m)=>Uy p v (out++m) r (i+1)
def YJ(p:PgT)(l:List EvT):V×List EvT×Int×Int:=if p.err≠0 then(.nil,[],0,p.err)else Uy p p.init [] l 0

end
section
/- What programs and events among the inputs read as. -/
set_option maxRecDepth 10000
set_option maxHeartbeats 4000000
theorem EvT.rd{H:Type}{enc:TypeId×Value→H}{w:World}:∀(fuel:Nat) (cs:List Value) (x:DataW H×List MemPlace),TS enc Tryz.prog w fuel 47 cs=some x→Fits Tryz.prog 47 x.1→∃v:EvT,v.wf∧RdC w cs (v.cs false):=by
  intro fuel
  intro cs x h hf
  obtain⟨xs,n,rfl,rfl,hl,hlen,hg⟩:=DataW.trod_struct Tryz.underlying47 h
  obtain⟨y0,y1,rfl⟩:∃y0 y1,xs=[y0,y1]:=by
    match xs,hlen with
    |[y0,y1],_=>exact⟨y0,y1,rfl⟩
  have h0:=hg 0 _ rfl
  obtain⟨a0,b0,r0⟩:=Gh Tryz.underlying9 h0 (Ul Tryz.underlying47 hf (i:=0) rfl rfl)
  have h1:=hg 1 _ rfl
  obtain⟨a1,b1,r1⟩:=V.rd n _ _ h1 (Ul Tryz.underlying47 hf (i:=1) rfl rfl)
  refine⟨⟨a0,a1⟩,⟨b0,b1⟩,?_⟩
  have:=(U8 r0 (by kernel_rfl) (by kernel_rfl) (RdC.last r1 (hl.trans (by kernel_rfl))))
  simpa[EvT.cs]using this
theorem SetT.rd{H:Type}{enc:TypeId×Value→H}{w:World}:∀(fuel:Nat) (cs:List Value) (x:DataW H×List MemPlace),TS enc Tryz.prog w fuel 62 cs=some x→Fits Tryz.prog 62 x.1→∃v:SetT,v.wf∧RdC w cs (v.cs false):=by
  intro fuel
  intro cs x h hf
  obtain⟨xs,n,rfl,rfl,hl,hlen,hg⟩:=DataW.trod_struct Tryz.underlying62 h
  obtain⟨y0,y1,rfl⟩:∃y0 y1,xs=[y0,y1]:=by
    match xs,hlen with
    |[y0,y1],_=>exact⟨y0,y1,rfl⟩
  have h0:=hg 0 _ rfl
  obtain⟨a0,b0,r0⟩:=Gh Tryz.underlying9 h0 (Ul Tryz.underlying62 hf (i:=0) rfl rfl)
  have h1:=hg 1 _ rfl
  obtain⟨a1,b1,r1⟩:=EX.rd n _ _ h1 (Ul Tryz.underlying62 hf (i:=1) rfl rfl)
  refine⟨⟨a0,a1⟩,⟨b0,b1⟩,?_⟩
  have:=(U8 r0 (by kernel_rfl) (by kernel_rfl) (RdC.last r1 (hl.trans (by kernel_rfl))))
  simpa[SetT.cs]using this
theorem EmT.rd{H:Type}{enc:TypeId×Value→H}{w:World}:∀(fuel:Nat) (cs:List Value) (x:DataW H×List MemPlace),TS enc Tryz.prog w fuel 84 cs=some x→Fits Tryz.prog 84 x.1→∃v:EmT,v.wf∧RdC w cs (v.cs false):=by
  intro fuel
  intro cs x h hf
  obtain⟨xs,n,rfl,rfl,hl,hlen,hg⟩:=DataW.trod_struct Tryz.underlying84 h
  obtain⟨y0,y1,y2,rfl⟩:∃y0 y1 y2,xs=[y0,y1,y2]:=by
    match xs,hlen with
    |[y0,y1,y2],_=>exact⟨y0,y1,y2,rfl⟩
  have h0:=hg 0 _ rfl
  obtain⟨a0,b0,r0⟩:=EX.rd n _ _ h0 (Ul Tryz.underlying84 hf (i:=0) rfl rfl)
  have h1:=hg 1 _ rfl
  obtain⟨a1,b1,r1⟩:=Gh Tryz.underlying9 h1 (Ul Tryz.underlying84 hf (i:=1) rfl rfl)
  have h2:=hg 2 _ rfl
  obtain⟨a2,b2,r2⟩:=EX.rd n _ _ h2 (Ul Tryz.underlying84 hf (i:=2) rfl rfl)
  refine⟨⟨a0,a1,a2⟩,⟨b0,b1,b2⟩,?_⟩
  have:=(U8 r0 (by rw[EX.cs_length];kernel_rfl) (by kernel_rfl) ((U8 r1 (by kernel_rfl) (by kernel_rfl) (RdC.last r2 (hl.trans (by kernel_rfl))))))
  simpa[EmT.cs]using this
theorem HdT.rd{H:Type}{enc:TypeId×Value→H}{w:World}:∀(fuel:Nat) (cs:List Value) (x:DataW H×List MemPlace),TS enc Tryz.prog w fuel 57 cs=some x→Fits Tryz.prog 57 x.1→∃v:HdT,v.wf∧RdC w cs (v.cs false):=by
  intro fuel
  intro cs x h hf
  obtain⟨xs,n,rfl,rfl,hl,hlen,hg⟩:=DataW.trod_struct Tryz.underlying57 h
  obtain⟨y0,y1,y2,rfl⟩:∃y0 y1 y2,xs=[y0,y1,y2]:=by
    match xs,hlen with
    |[y0,y1,y2],_=>exact⟨y0,y1,y2,rfl⟩
  have h0:=hg 0 _ rfl
  obtain⟨a0,b0,r0⟩:=Gh Tryz.underlying9 h0 (Ul Tryz.underlying57 hf (i:=0) rfl rfl)
  have h1:=hg 1 _ rfl
  obtain⟨a1,b1,c1,r1⟩:=Y9 (ei:=eSe) (f:=SetT.cs false) (Wf:=SetT.wf) Tryz.underlying54 (by kernel_rfl) (by kernel_rfl) (by decide) h1 (Ul Tryz.underlying57 hf (i:=1) rfl rfl) (fun _=>SetT.cs_length false _) (fun m cs' y hm hy hfy=>SetT.rd m cs' y hy hfy)
  have h2:=hg 2 _ rfl
  obtain⟨a2,b2,c2,r2⟩:=Y9 (ei:=eEm) (f:=EmT.cs false) (Wf:=EmT.wf) Tryz.underlying55 (by kernel_rfl) (by kernel_rfl) (by decide) h2 (Ul Tryz.underlying57 hf (i:=2) rfl rfl) (fun _=>EmT.cs_length false _) (fun m cs' y hm hy hfy=>EmT.rd m cs' y hy hfy)
  refine⟨⟨a0,a1,a2⟩,⟨b0,c1,b1,c2,b2⟩,?_⟩
  have:=(U8 r0 (by kernel_rfl) (by kernel_rfl) ((U8 r1 (by kernel_rfl) (by kernel_rfl) (RdC.last r2 (hl.trans (by kernel_rfl))))))
  simpa[HdT.cs,SetT.css,EmT.css]using this
theorem PgT.rd{H:Type}{enc:TypeId×Value→H}{w:World}:∀(fuel:Nat) (cs:List Value) (x:DataW H×List MemPlace),TS enc Tryz.prog w fuel 29 cs=some x→Fits Tryz.prog 29 x.1→∃v:PgT,v.wf∧RdC w cs (v.cs false):=by
  intro fuel
  intro cs x h hf
  obtain⟨xs,n,rfl,rfl,hl,hlen,hg⟩:=DataW.trod_struct Tryz.underlying29 h
  obtain⟨y0,y1,rfl⟩:∃y0 y1,xs=[y0,y1]:=by
    match xs,hlen with
    |[y0,y1],_=>exact⟨y0,y1,rfl⟩
  have h0:=hg 0 _ rfl
  obtain⟨a0,b0,r0⟩:=V.rd n _ _ h0 (Ul Tryz.underlying29 hf (i:=0) rfl rfl)
  have h1:=hg 1 _ rfl
  obtain⟨a1,b1,c1,r1⟩:=Y9 (ei:=eHd) (f:=HdT.cs false) (Wf:=HdT.wf) Tryz.underlying27 (by kernel_rfl) (by kernel_rfl) (by decide) h1 (Ul Tryz.underlying29 hf (i:=1) rfl rfl) (fun _=>HdT.cs_length false _) (fun m cs' y hm hy hfy=>HdT.rd m cs' y hy hfy)
  refine⟨⟨a0,a1⟩,⟨b0,c1,b1⟩,?_⟩
  have:=(U8 r0 (by rw[V.cs_length];kernel_rfl) (by kernel_rfl) (RdC.last r1 (hl.trans (by kernel_rfl))))
  simpa[PgT.cs,HdT.css]using this

end
section
/- A slice literal as an own array. -/
section
variable {P:Program} {E:WV} {Q:Exit→St→Prop} {n:Nat} {env:List (Nat×AV)} {own:List Own} {F:List (Value×AV)} {D:List Deferred} {ops:Array Oper} {rest:List Oper}
variable {ty t et:TypeId} {pos:String} {af:Array Edge} {d:Nat}
theorem TL{e:We}{zc:List Value}{idx:List Nat}{l:List Operand}{zs:List AV}{xs:List (List AV)}{parts:Array (Nat×Operand)}{len:Nat}(hU:P.underlying t=some (.slice et))(hE:WL P et e=true)
    (hz:QI P et=some zc) (hz1:zc.all (·.oneCell')=true) (hl:EvL E ⟨n,env,own,F,D⟩ l zs) (hparts:parts=(idx.zip l).toArray) (hp:zs.all AV.plain=true) (hi:idx.length=l.length) (hsmall:Nat.ble (len*e.sz) 16777216=true) (hpos:Nat.blt 0 (len*e.sz)=true)
    (hf:Ym (fun i=>some (i*e.sz,e.sz)) ((List.range (len*e.sz)).map fun k=>AV.c (zc.getD (k%zc.length) undef)) (idx.zip (zs.map AV.cellsOf))=some xs.flatten) (hlen:xs.length=len) (hxl:(xs.all fun x=>Nat.beq x.length e.sz)=true) (hd:Nat.blt d n=true)
    (h:∀v,JL P E ops rest ⟨n,(d,.c v)::env,.arr v e xs::own,F,D⟩ Q):
    JL P E ops (⟨some d,.buildSlice t len parts,ty,pos,af,none⟩::rest) ⟨n,env,own,F,D⟩ Q:=fun a w ⟨A,hA⟩=>by
  refine wpListIn_plain rfl fun K hK=>?_
  refine H4 (by intro c h;cases h) ?_
  unfold Oper.wp
  obtain⟨cs,hr,hs,hc⟩:=Kg (pl:=fun _=>none) (dd:=some d) (ty:=ty) (pos:=pos) (af:=af) (gd:=none) hU hE hz hz1 hA hl hparts hp hi hsmall hpos hf
  have hl1:0<len:=by
    have:=Uo hpos
    exact Nat.pos_of_ne_zero fun h=>by subst h;simp at this
  have hsz:∀x∈xs,x.length=e.sz:=fun x hx=>Nat.eq_of_beq_eq_true ((List.all_eq_true.1 hxl) x hx)
  rw[hr,Oper.upon_value]
  have hs2:=hA.step (.push _ _ _) (fun _ _ h=>h) (hA.hp.push_box (us:=cs) (t:=et) hA.keep.size hs hc)
  have hs3:=hs2.fold (i:=0) (b:=w.heap.size) (cap:=len-1) (v:=.slice (some ⟨w.heap.size,0,none⟩) len len) (e:=e) (xs:=xs) rfl (by rw[hlen,show len-1+1=len by omega]) (by omega) hsz
    (by rw[show len-1+1=len by omega,← hlen];exact QP xs hsz) (by rw[List.take_length])
  exact hK _ _ (h (.slice (some ⟨w.heap.size,0,none⟩) len len) _ _ ⟨A,hs3.put (Uo hd) (.c _)⟩)
end

end
section
/- One of a group, taken out and laid back. -/
theorem Reown.pick(l1 l2:List Own)(o:Own)(a:List Own):Reown (.grp (l1++o::l2)::a) (o::.grp (l1++l2)::a):=by
  refine(U0 (l1++o::l2) a).trans ((Reown.perm (b:=o::((l1++l2)++a)) ?_).trans (Reown.cons (Wb (l1++l2) a)))
  rw[List.append_assoc,List.append_assoc,List.cons_append]
  exact List.perm_middle
theorem UU(l1 l2:List Own)(o:Own)(a:List Own):Reown (o::.grp (l1++l2)::a) (.grp (l1++o::l2)::a):=by
  refine(Reown.cons (U0 (l1++l2) a)).trans ((Reown.perm (b:=(l1++o::l2)++a) ?_).trans (Wb (l1++o::l2) a))
  rw[List.append_assoc,List.append_assoc,List.cons_append]
  exact List.perm_middle.symm

end
section
/- Walks: events: may one be, lists of them. -/
set_option maxRecDepth 10000
set_option maxHeartbeats 4000000
theorem Sv(s:Ui):Fn Tryz.prog 53 [.c (Um s)] (.c (.bool (Wa s))):=by
  refine AC.of_J Tryz.func53 rfl Tryz.ntmps53 rfl fun w0 A0=>?_
  refine Zs (Zq rfl (QW.assign .const) (Zn (Zs (Zq rfl (QW.move (.tmp rfl)) (Zq rfl (YK (.tmp rfl) .const) (Zq rfl (QW.move (.tmp rfl)) (Zg rfl (fun hg=>(QW.move (.tmp rfl))) (Zg rfl (fun hg=>(U1 TW (.when rfl hg))) (Zg rfl (fun hg=>(QW.leq (.when rfl hg) .const)) ?_)))))))))
  exact Zq rfl (QW.pick_and (.tmp rfl) (.tmp rfl)) (Zq rfl (QW.assign (.tmp rfl)) (Zn (J.ret (Zr [] (RetEv.one rfl (REv.tmp rfl lr)) rfl ⟨by simp only[Wa,Kh];congr 3;rw[Bool.eq_iff_iff];cases s<;>simp[bne]<;>omega,rfl⟩))))
theorem LE(s:Ui):Fn Tryz.prog 41 [.c (Um s)] (.c (.bool (Wa s))):=by
  refine AC.of_J Tryz.func41 rfl Tryz.ntmps41 rfl fun w0 A0=>?_
  refine Zs (Zq rfl (QW.assign .const) (Zn (Zs (Zq rfl (QW.move (.tmp rfl)) (Zq rfl (U1 TW (.tmp rfl)) (Zq rfl (QW.geq (.tmp rfl) .const) (Zq rfl (QW.move (.tmp rfl)) (Zg rfl (fun hg=>(QW.move (.tmp rfl))) (Zg rfl (fun hg=>(U1 TW (.when rfl hg))) ?_)))))))))
  exact Zg rfl (fun hg=>(QW.leq (.when rfl hg) .const)) (Zq rfl (QW.pick_and (.tmp rfl) (.tmp rfl)) (Zq rfl (QW.assign (.tmp rfl)) (Zn (J.ret (Zr [] (RetEv.one rfl (REv.tmp rfl lr)) rfl ⟨by simp only[Wa,Kh];congr 3;rw[Bool.eq_iff_iff];simp;omega,rfl⟩)))))

end
section
/- Walks: checks, one by one: the closures that look for an error. -/
set_option maxRecDepth 10000
set_option maxHeartbeats 4000000
def eFn:We:=⟨1,8⟩
def YZ(b:Nat):Value:=.pointer (some ⟨b,0,none⟩)
def CloS(G:Own)(v:Value)(e:Int):Prop:=∃(g:FuncId) (ca:List Value),v=.func (.func g) #[] ca.toArray∧QE Tryz.prog g=true∧AC Tryz.prog g [G] (ca.map AV.c) (Ww fun x o=>x=.c (.int .i64 e)∧o=[G])
theorem Tm{l1 l2:List Own}{b:Nat}{s:Ui}:AC Tryz.prog 52 [.grp (l1++.box b [.c (Um s)]::l2)] [.c (YZ b)] (Ww fun x o=>x=.c (.int .i64 (Us s))∧o=[.grp (l1++.box b [.c (Um s)]::l2)]):=by
  refine AC.of_J Tryz.func52 rfl Tryz.ntmps52 rfl fun w0 A0=>?_
  refine J.seq (J.reown (Reown.pick _ _ _ []) (Qg (Zq rfl (QW.assign .const) (Zn (J.seq (Zs (Zq rfl (Qb 0 U9 (.tmp rfl) rfl rfl) (Zq rfl (QW.call gofn53 (.cons (.tmp rfl) .nil) (Sv _)) (Zq rfl (QW.not (.tmp rfl)) ?_)))))))))
  refine Zn ?_
  refine J.cond (.tmp rfl) (fun c1=>?_) (fun c1=>?_)
  · skip
    have hn:Wa s=false:=by simpa using c1
    exact J.seq (J.reown (UU _ _ _ []) (Qg (Zq rfl (QW.assign .const) (Zn (J.ret (thenQ.r (Zr [.p] (RetEv.one rfl (REv.tmp rfl lr)) rfl ⟨_,rfl,by rw[Us,hn];rfl,rfl⟩)))))))
  have hn:Wa s=true:=by simpa using c1
  exact Zk (J.seq (J.reown (UU _ _ _ []) (Qg (Zq rfl (QW.assign .const) (Zn (J.ret (Zr [.p] (RetEv.one rfl (REv.tmp rfl lr)) rfl ⟨_,rfl,by rw[Us,hn];rfl,rfl⟩)))))))
theorem Qay{l1 l2:List Own}{b:Nat}{v:V}{fr:Bool}(hw:v.wf):AC Tryz.prog 35 [.grp (l1++.box b (v.cs fr)::l2)] [.c (YZ b)] (Ww fun x o=>x=.c (.int .i64 v.err)∧o=[.grp (l1++.box b (v.cs fr)::l2)]):=by
  refine AC.of_J Tryz.func35 rfl Tryz.ntmps35 rfl fun w0 A0=>?_
  refine J.seq (J.reown (Reown.pick _ _ _ []) (Qg (Zq rfl (QW.assign .const) (Zn (Zs (Zq rfl (by first|exact Qf 0 Qj (.tmp rfl) rfl rfl rfl|exact Qf 0 Qj (.tmp rfl) rfl (Qm vl rfl) vl) ?_))))))
  exact Zq rfl (QW.call Xw (.cons (.tmp rfl) .nil) (W5 Vc.self hw)) (JL.reown (UU _ _ _ []) (Zq rfl (QW.assign (.tmp rfl)) (Zn (J.ret (Zr [.p] (RetEv.one rfl (REv.tmp rfl lr)) rfl ⟨_,rfl,rfl,rfl⟩)))))
theorem Qax{l1 l2:List Own}{b:Nat}{v:V}{fr:Bool}:AC Tryz.prog 36 [.grp (l1++.box b (v.cs fr)::l2)] [.c (YZ b)] (Ww fun x o=>x=.c (.int .i64 (if v.kind=5 then 0 else 81))∧o=[.grp (l1++.box b (v.cs fr)::l2)]):=by
  obtain⟨vk,vb,vt,vks,vis⟩:=v
  refine AC.of_J Tryz.func36 rfl Tryz.ntmps36 rfl fun w0 A0=>?_
  refine J.seq (J.reown (Reown.pick _ _ _ []) (Qg (Zq rfl (QW.assign .const) (Zn (J.seq (Zs (Zq rfl (Qa UJ (.tmp rfl) rfl) (Zq rfl (Qb 0 UQ (.tmp rfl) rfl rfl) (Zq rfl (QW.neq (.tmp rfl) .const) ?_)))))))))
  refine Zn ?_
  refine J.cond (.tmp rfl) (fun c1=>?_) (fun c1=>?_)
  · skip
    have hk:¬vk=5:=by simpa using c1
    exact J.seq (J.reown (UU _ _ _ []) (Qg (Zq rfl (QW.assign .const) (Zn (J.ret (thenQ.r (Zr [.p] (RetEv.one rfl (REv.tmp rfl lr)) rfl ⟨_,rfl,by simp[V.kind,hk],rfl⟩)))))))
  have hk:vk=5:=by simpa using c1
  exact Zk (J.seq (J.reown (UU _ _ _ []) (Qg (Zq rfl (QW.assign .const) (Zn (J.ret (Zr [.p] (RetEv.one rfl (REv.tmp rfl lr)) rfl ⟨_,rfl,by simp[V.kind,hk],rfl⟩)))))))
theorem Qaw{l1 l2:List Own}{b:Nat}{e:EvT}{fr:Bool}(hw:e.wf):AC Tryz.prog 38 [.grp (l1++.box b (e.cs fr)::l2)] [.c (YZ b)] (Ww fun x o=>x=.c (.int .i64 e.arg.err)∧o=[.grp (l1++.box b (e.cs fr)::l2)]):=by
  refine AC.of_J Tryz.func38 rfl Tryz.ntmps38 rfl fun w0 A0=>?_
  refine J.seq (J.reown (Reown.pick _ _ _ []) (Qg (Zq rfl (QW.assign .const) (Zn (Zs (Zq rfl (Qa Pa (.tmp rfl) rfl) (Zq rfl (Qf 0 Qj (.tmp rfl) rfl EvT.at1 vl) (Zq rfl (QW.call Xw (.cons (.tmp rfl) .nil) (W5 Vc.self hw.arg)) (JL.reown (UU _ _ _ []) ?_)))))))))
  exact Zq rfl (QW.assign (.tmp rfl)) (Zn (J.ret (Zr [.p] (RetEv.one rfl (REv.tmp rfl lr)) rfl ⟨_,rfl,rfl,rfl⟩)))
theorem QaB{l1 l2:List Own}{b:Nat}{s:SetT}{fr:Bool}(hw:s.wf):AC Tryz.prog 46 [.grp (l1++.box b (s.cs fr)::l2)] [.c (YZ b)] (Ww fun x o=>x=.c (.int .i64 s.ex.err)∧o=[.grp (l1++.box b (s.cs fr)::l2)]):=by
  refine AC.of_J Tryz.func46 rfl Tryz.ntmps46 rfl fun w0 A0=>?_
  refine J.seq (J.reown (Reown.pick _ _ _ []) (Qg (Zq rfl (QW.assign .const) (Zn (Zs (Zq rfl (Qa B6 (.tmp rfl) rfl) (Zq rfl (Qf 0 Uz (.tmp rfl) rfl SetT.at1 xl) (Zq rfl (QW.call Ds (.cons (.tmp rfl) .nil) (Hw Xc.self hw.ex)) (JL.reown (UU _ _ _ []) ?_)))))))))
  exact Zq rfl (QW.assign (.tmp rfl)) (Zn (J.ret (Zr [.p] (RetEv.one rfl (REv.tmp rfl lr)) rfl ⟨_,rfl,rfl,rfl⟩)))
theorem QaA{l1 l2:List Own}{b:Nat}{e:EmT}{fr:Bool}(hw:e.wf):AC Tryz.prog 48 [.grp (l1++.box b (e.cs fr)::l2)] [.c (YZ b)] (Ww fun x o=>x=.c (.int .i64 e.wh.err)∧o=[.grp (l1++.box b (e.cs fr)::l2)]):=by
  refine AC.of_J Tryz.func48 rfl Tryz.ntmps48 rfl fun w0 A0=>?_
  refine J.seq (J.reown (Reown.pick _ _ _ []) (Qg (Zq rfl (QW.assign .const) (Zn (Zs (Zq rfl (Qa B2 (.tmp rfl) rfl) (Zq rfl (Qf 0 Uz (.tmp rfl) rfl EmT.at0 xl) (Zq rfl (QW.call Ds (.cons (.tmp rfl) .nil) (Hw Xc.self hw.wh)) (JL.reown (UU _ _ _ []) ?_)))))))))
  exact Zq rfl (QW.assign (.tmp rfl)) (Zn (J.ret (Zr [.p] (RetEv.one rfl (REv.tmp rfl lr)) rfl ⟨_,rfl,rfl,rfl⟩)))
theorem Qaz{l1 l2:List Own}{b:Nat}{e:EmT}{fr:Bool}(hw:e.wf):AC Tryz.prog 49 [.grp (l1++.box b (e.cs fr)::l2)] [.c (YZ b)] (Ww fun x o=>x=.c (.int .i64 e.ar.err)∧o=[.grp (l1++.box b (e.cs fr)::l2)]):=by
  refine AC.of_J Tryz.func49 rfl Tryz.ntmps49 rfl fun w0 A0=>?_
  refine J.seq (J.reown (Reown.pick _ _ _ []) (Qg (Zq rfl (QW.assign .const) (Zn (Zs (Zq rfl (Qa B0 (.tmp rfl) rfl) (Zq rfl (Qf 0 Uz (.tmp rfl) rfl EmT.at5 xl) (Zq rfl (QW.call Ds (.cons (.tmp rfl) .nil) (Hw Xc.self hw.ar)) (JL.reown (UU _ _ _ []) ?_)))))))))
  exact Zq rfl (QW.assign (.tmp rfl)) (Zn (J.ret (Zr [.p] (RetEv.one rfl (REv.tmp rfl lr)) rfl ⟨_,rfl,rfl,rfl⟩)))
theorem Nn{fr cl:Bool}{G:Own}{fs:List Value}{es:List Int}(hl:fs.length=es.length)(hs:∀i (h:i<fs.length) (h2:i<es.length),CloS G fs[i] es[i])(hr:fs.length*8≤Qu):
    AC Tryz.prog 34 [G] [.sl fr cl eFn (fs.map fun v=>[AV.c v])] (Ww fun x o=>x=.c (.int .i64 (US es))∧o=[G]):=by
  have hlen:fs.length≤9223372036854775805:=by unfold Qu at hr;omega
  refine AC.of_J Tryz.func34 rfl Tryz.ntmps34 rfl fun w0 A0=>?_
  refine Zs (Zq rfl (QW.assign .const) (Zn (J.seq (Zs (Zq rfl (QW.move (.tmp rfl)) (Zq rfl (by first|exact Qh XA (.tmp rfl) wl|exact Qh XA (.tmp rfl) (EX.css_length _ _)|exact Qr XA (.tmp rfl)|exact QW.len_nil XA (.tmp rfl)) ?_))))))
  refine Zq rfl (QW.move .const) (Zn (J.block (Q0 (ι:=Nat) [6,7] (fun j=>[(8,.c (.int .i64 (j:Int)))]) (fun _ oo=>oo) (fun j=>j≤fs.length∧US es=US (es.drop j)) (fun j=>fs.length-j) 0 (⟨Nat.zero_le _,rfl⟩) (QK (.cons rfl lr (.cons rfl lr (.cons rfl lr .nil))) (Reown.refl _) (fun _ h=>by first|exact h|simp[h])) ?_)))
  intro j ⟨hj,hf⟩
  refine J.conv (by(try simp only[nl,Qk,Qz,QA,Qy,QR,AV.cellsOf,Qd,Qe,Nat.reduceAdd]);rfl) ?_
  refine Zs (Zq rfl (QW.lss (.tmp rfl) (.tmp rfl)) (Zn (J.seq ?_)))
  refine J.cond (.tmp rfl) (fun c1=>?_) (fun c1=>?_)
  · skip
    have hlt:j<fs.length:=by simpa using c1
    refine Zk (J.seq (J.block (Zs (Zq rfl (Qi XA ty94 rfl (.tmp rfl) (.tmp rfl) (by first|rfl|omega|(simp;done)) (by exact map_at hlt)) ?_))))
    refine Zq rfl (Qq ty94 (.tmp rfl) rfl) (Zq rfl (QW.assign (.tmp rfl)) (Zn (Zs (Zq rfl (QW.move (.tmp rfl)) ?_))))
    obtain⟨g1,ca,hv,hgo,hAC⟩:=hs j hlt (by omega)
    rw[hv]
    refine Mt [.p] hgo rfl (.tmp rfl) Lent.nil (fun _=>.nil) rfl (hAC) (.inl rfl) fun x13 o13 h13=>?_
    obtain⟨rfl,rfl⟩:=h13
    refine Zq rfl (QW.assign (.tmp rfl)) (Zn (Zs (Zq rfl (QW.move (.tmp rfl)) (Zq rfl (QW.neq (.tmp rfl) .const) (Zn ?_)))))
    refine J.cond (.tmp rfl) (fun c2=>?_) (fun c2=>?_)
    · skip
      have hne:¬es[j]=0:=by simpa using c2
      exact Zs (Zq rfl (QW.move (.tmp rfl)) (Zq rfl (QW.assign (.tmp rfl)) (Zn (J.ret (blkQ.r (thenQ.r (thenQ.r (blkQ.r (thenQ.r (Zr [.p] (RetEv.one rfl (REv.tmp rfl lr)) rfl ⟨_,rfl,by rw[hf,List.drop_eq_getElem_cons (by omega:j<es.length),US,if_pos hne],rfl⟩))))))))))
    have he0:es[j]=0:=by simpa using c2
    refine J.skip (blkQ.n (thenQ.n (Qg (Zq rfl (QW.add (.tmp rfl) .const (by first|exact U5 (by first|rfl|omega|(simp;done)) (by omega)|exact WW (by omega)|rfl)) ?_))))
    refine Zq rfl (QW.move (.tmp rfl)) (Zn ?_)
    exact⟨j+1,⟨hlt,by rw[hf,List.drop_eq_getElem_cons (by omega:j<es.length),US,if_neg (fun h=>h he0)]⟩,by omega,QK (.cons rfl lr (.cons rfl lr (.cons rfl lr .nil))) (Reown.refl _) (fun _ h=>by first|exact h|simp[h])⟩
  have hge:fs.length≤j:=by simpa using c1
  rw[List.drop_of_length_le (by omega)]at hf
  exact J.exit (Qv (Qv (QM (thenQ.n (Zs (Zq rfl (QW.assign .const) (Zn (J.ret (Zr [.p] (RetEv.one rfl (REv.tmp rfl lr)) rfl ⟨_,rfl,by rw[hf];rfl,rfl⟩)))))))))

end
section
/- Walks: may a handler be? where is an event's handler? may a program be? -/
set_option maxRecDepth 10000
set_option maxHeartbeats 4000000
def CloO(o:Own)(v:Value)(e:Int):Prop:=∀l1 l2,CloS (.grp (l1++o::l2)) v e
def ClP(os:List Own)(ps:List (Value×Int)):Prop:=∀p∈ps,∃o∈os,CloO o p.1 p.2
theorem ClP.clos{os:List Own}{ps:List (Value×Int)}(h:ClP os ps):∀i (hi:i<(ps.map (·.1)).length) (h2:i<(ps.map (·.2)).length),CloS (.grp os) (ps.map (·.1))[i] (ps.map (·.2))[i]:=fun i hi h2=>by
  have hi':i<ps.length:=by simpa using hi
  obtain⟨o,ho,hc⟩:=h _ (List.getElem_mem hi')
  obtain⟨l1,l2,rfl⟩:=List.append_of_mem ho
  simpa using hc l1 l2
theorem ClP.add{os os':List Own}{ps qs:List (Value×Int)}(h:ClP os ps)(hsub:∀o∈os,o∈os')(hq:∀p∈qs,∃o∈os',CloO o p.1 p.2):ClP os' (ps++qs):=fun p hp=>by
  rcases List.mem_append.1 hp with hp|hp
  · obtain⟨o,ho,hc⟩:=h p hp;exact⟨o,hsub o ho,hc⟩
  · exact hq p hp
def YV(b:Nat):Value:=.func (.func 52) #[] #[YZ b]
def Pi(b:Nat):Value:=.func (.func 46) #[] #[YZ b]
def Ph(b:Nat):Value:=.func (.func 48) #[] #[YZ b]
def Pg(b:Nat):Value:=.func (.func 49) #[] #[YZ b]
theorem CloO.name(b:Nat)(s:Ui):CloO (.box b [.c (Um s)]) (YV b) (Us s):=fun l1 l2=>⟨_,[YZ b],rfl,BO,Tm⟩
theorem PX(b:Nat){s:SetT}(fr:Bool)(hw:s.wf):CloO (.box b (s.cs fr)) (Pi b) s.ex.err:=fun l1 l2=>⟨_,[YZ b],rfl,gofn46,QaB hw⟩
theorem PW(b:Nat){s:EmT}(fr:Bool)(hw:s.wf):CloO (.box b (s.cs fr)) (Ph b) s.wh.err:=fun l1 l2=>⟨_,[YZ b],rfl,gofn48,QaA hw⟩
theorem PV(b:Nat){s:EmT}(fr:Bool)(hw:s.wf):CloO (.box b (s.cs fr)) (Pg b) s.ar.err:=fun l1 l2=>⟨_,[YZ b],rfl,gofn49,Qaz hw⟩
theorem Mo(b a c n:Own)(os:List Own):Reown [b,a,c,.grp os,n] [a,c,.grp (b::n::os)]:=
  ⟨fun x=>by simp only[QV,UT,Xx,List.count_append,List.count_nil];omega,fun w A h=>by
    simp only[List.forall_mem_cons,Xb,List.not_mem_nil,false_implies,implies_true,and_true]at h⊢
    exact⟨h.2.1,h.2.2.1,h.1,h.2.2.2.2,h.2.2.2.1⟩⟩
theorem Tb{l:List SetT}{j:Nat}(h:j<l.length):(l.take (j+1)).flatMap SetT.es=(l.take j).flatMap SetT.es++[Us l[j].key,l[j].ex.err]:=by
  rw[List.take_succ_eq_append_getElem h,List.flatMap_append];simp[SetT.es]
theorem Tc{l:List EmT}{j:Nat}(h:j<l.length):(l.take (j+1)).flatMap EmT.es=(l.take j).flatMap EmT.es++[l[j].wh.err,Us l[j].nm,l[j].ar.err]:=by
  rw[List.take_succ_eq_append_getElem h,List.flatMap_append];simp[EmT.es]
theorem XY(s:Ui):AC Tryz.prog 37 [] [.c (Um s)] (Ww fun x o=>∃b,x=.c (YV b)∧o=[.box b [.c (Um s)]]):=by
  refine AC.of_J Tryz.func37 rfl Tryz.ntmps37 rfl fun w0 A0=>?_
  exact Zs (GB (.tmp rfl) rfl rfl fun b1=>Zq rfl (QW.assign .const) (Zn (Zs (Zq rfl (UF .nil (.cons (.tmp rfl) .nil)) (Zq rfl (QW.assign (.tmp rfl)) (Zn (J.ret (Zr [.p] (RetEv.one rfl (REv.tmp rfl lr)) rfl ⟨_,rfl,b1,rfl,rfl⟩))))))))
theorem CQ{fr:Bool}{h:HdT}(hw:h.wf):Fn Tryz.prog 30 [.agg (h.cs fr)] (.c (.int .i64 h.err)):=by
  obtain⟨on,sets,ems⟩:=h
  obtain⟨-,hsl,hsw,hel,hew⟩:=hw
  simp only at hsl hsw hel hew
  refine AC.of_J Tryz.func30 rfl Tryz.ntmps30 rfl fun w0 A0=>?_
  refine Zs (Qp (.tmp rfl) rfl fun b1=>Zq rfl (QW.assign .const) (Zn (J.seq (Zs (Zq rfl (Qa L2 (.tmp rfl) rfl) (Zq rfl (Qb 0 Fy (.tmp rfl) rfl rfl) (Zq rfl (by first|exact Qh Yf (.tmp rfl) wl|exact Qh Yf (.tmp rfl) (EX.css_length _ _)|exact Qh Yf (.tmp rfl) (SetT.css_length _ _)|exact Qh Yf (.tmp rfl) (EmT.css_length _ _)|exact Qh Yf (.tmp rfl) (HdT.css_length _ _)|exact Qr Yf (.tmp rfl)|exact QW.len_nil Yf (.tmp rfl)) ?_)))))))
  refine Zq rfl (Qa L1 (.tmp rfl) rfl) (Zq rfl (Qb 0 Fx (.tmp rfl) rfl rfl) (Zq rfl (by first|exact Qh YY (.tmp rfl) wl|exact Qh YY (.tmp rfl) (EX.css_length _ _)|exact Qh YY (.tmp rfl) (SetT.css_length _ _)|exact Qh YY (.tmp rfl) (EmT.css_length _ _)|exact Qh YY (.tmp rfl) (HdT.css_length _ _)|exact Qr YY (.tmp rfl)|exact QW.len_nil YY (.tmp rfl)) ?_))
  refine Zq rfl (QW.max2 (.tmp rfl) (.tmp rfl)) (Zq rfl (QW.gtr (.tmp rfl) .const) (Zn ?_))
  refine J.cond (.tmp rfl) (fun c1=>?_) (fun c1=>?_)
  · skip
    have hbad:8<sets.length∨8<ems.length:=by(simp[SetT.css_length,EmT.css_length]at c1;omega)
    exact Zs (Zq rfl (QW.assign .const) (Zn (J.ret (thenQ.r (Zr [.k] (RetEv.one rfl (REv.tmp rfl lr)) rfl ⟨by rw[HdT.err,if_pos hbad],rfl⟩)))))
  have hok:sets.length≤8∧ems.length≤8:=by(simp[SetT.css_length,EmT.css_length]at c1;omega)
  refine Zk (Zs (Zq rfl (Qa Dw (.tmp rfl) rfl) (Zq rfl (Qb 0 U9 (.tmp rfl) rfl rfl) (JL.callRF [] NX rfl Lent.nil (fun _=>(.cons (.tmp rfl) .nil)) (XY _) (.inl rfl) fun x18 o18 h18=>?_))))
  obtain⟨b18,rfl,rfl⟩:=h18
  refine TL (idx:=[0]) (e:=eFn) (xs:=[[.c (YV b18)]]) XA C0 z94 rfl (.cons (.tmp rfl) .nil) rfl rfl rfl rfl rfl rfl rfl rfl rfl fun v19=>Zq rfl (QW.assign (.tmp rfl)) (Zn (J.seq (Zs (Zq rfl (Qa L2 (.tmp rfl) rfl) (Zq rfl (Qb 1 Fy (.tmp rfl) rfl rfl) (Zq rfl (by first|exact Qh Yf (.tmp rfl) wl|exact Qh Yf (.tmp rfl) (EX.css_length _ _)|exact Qh Yf (.tmp rfl) (SetT.css_length _ _)|exact Qh Yf (.tmp rfl) (EmT.css_length _ _)|exact Qh Yf (.tmp rfl) (HdT.css_length _ _)|exact Qr Yf (.tmp rfl)|exact QW.len_nil Yf (.tmp rfl)) ?_))))))
  refine Zq rfl (QW.move .const) (Zn (J.block (J.reown (Reown.cons (Reown.cons (Wb [_] []))) (Q0 (ι:=Nat×Value×List (Value×Int)×List Own) [1,2,21,22] (fun⟨j,v,ps,os⟩=>[(23,.c (.int .i64 (j:Int))),(3,.c v)]) (fun⟨j,v,ps,os⟩ oo=>List.set (List.set oo 0 (.arr v eFn ((ps.map (·.1)).map fun v=>[AV.c v]))) 2 (.grp os)) (fun⟨j,v,ps,os⟩=>j≤sets.length∧ps.length=1+2*j∧ps.map (·.2)=Us on::(sets.take j).flatMap SetT.es∧ClP os ps) (fun⟨j,v,ps,os⟩=>sets.length-j) ⟨0,v19,[(YV b18,Us on)],[.box b18 [.c (Um on)]]⟩ (⟨Nat.zero_le _,rfl,by simp,fun p hp=>⟨_,List.mem_singleton.2 rfl,by rw[List.mem_singleton.1 hp];exact CloO.name _ _⟩⟩) (QK (.cons rfl lr (.cons rfl lr (.cons rfl lr (.cons rfl lr (.cons rfl lr (.cons rfl lr .nil)))))) (Reown.refl _) (fun _ h=>by first|exact h|simp[h])) ?_))))
  intro⟨j,v,ps,os⟩ ⟨hj,hpl,hpe,hcl⟩
  refine J.conv (by(try simp only[nl,Qk,Qz,QA,Qy,QR,AV.cellsOf,Qd,Qe,Nat.reduceAdd]);rfl) ?_
  refine Zs (Zq rfl (QW.lss (.tmp rfl) (.tmp rfl)) (Zn (J.seq ?_)))
  refine J.cond (.tmp rfl) (fun c2=>?_) (fun c2=>?_)
  · skip
    have hlt:j<sets.length:=by simpa[SetT.css_length]using c2
    refine Zk (J.seq (J.block (Zs (Zq rfl (Qi Yf Yr rfl (.tmp rfl) (.tmp rfl) (by first|rfl|omega|(simp;done)) (by exact SetT.css_getE _ hlt)) ?_))))
    refine Zq rfl (by first|exact Ql Yr (.tmp rfl) rfl rfl|exact Ql Yr (.tmp rfl) (QH (SetT.cs_length _ _) rfl) (SetT.cs_length _ _)) ?_
    refine JL.alloc z82 rfl rfl fun b5=>?_
    first|refine Qc 0 Yr (.tmp rfl) rfl (.tmp rfl) (by first|rfl|assumption) rfl rfl rfl ?_|refine Qc 0 Yr (.tmp rfl) rfl (.tmp rfl) (by first|rfl|assumption) rfl (SetT.cs_length _ _) rfl ?_|refine Qc 0 Yr (.tmp rfl) rfl (.tmp rfl) (by first|rfl|assumption) (SetT.cs_length _ _) rfl rfl ?_|refine Qc 0 Yr (.tmp rfl) rfl (.tmp rfl) (by first|rfl|assumption) (SetT.cs_length _ _) (SetT.cs_length _ _) rfl ?_|refine JL.store_box 0 Yr (.tmp rfl) rfl (.tmp rfl) (by first|rfl|assumption) rfl rfl rfl rfl ?_|refine JL.store_box 0 Yr (.tmp rfl) rfl (.tmp rfl) (by first|rfl|assumption) (SetT.cs_length _ _) rfl rfl rfl ?_
    refine Zn (Qg (Zq rfl (QW.move (.tmp rfl)) (Zq rfl (Qa B7 (.tmp rfl) rfl) (Zq rfl (Qb 0 U9 (.tmp rfl) rfl rfl) (JL.callRF [] NX rfl Lent.nil (fun _=>(.cons (.tmp rfl) .nil)) (XY _) (.inl rfl) fun x30 o30 h30=>?_)))))
    obtain⟨b30,rfl,rfl⟩:=h30
    refine Zq rfl (UF .nil (.cons (.tmp rfl) .nil)) (Zq rfl (QW.buildSlice (idx:=[0,1]) (xs:=[[.c (YV b30)],[.c (Pi b5)]]) XA C0 z94 rfl (.cons (.tmp rfl) (.cons (.tmp rfl) .nil)) rfl rfl rfl rfl rfl rfl rfl rfl rfl) (JL.append 1 XA C0 rfl (.tmp rfl) rfl (UL XA (.tmp rfl)) (by simp;show _*8≤_;unfold Qu;omega) rfl fun v33=>?_))
    refine Zq rfl (QW.assign (.tmp rfl)) (JL.nil (blkQ.n (thenQ.n ?_)))
    rw[show((ps.map (·.1)).map fun v=>[AV.c v])++[[AV.c (YV b30)],[AV.c (Pi b5)]]=((ps++[(YV b30,Us sets[j].key),(Pi b5,sets[j].ex.err)]).map (·.1)).map fun v=>[AV.c v] by simp]
    refine J.reown (Mo _ _ _ _ _) (Qg (Zq rfl (QW.add (.tmp rfl) .const (by first|exact U5 (by first|rfl|omega|(simp;done)) (by omega)|exact WW (by omega)|rfl)) ?_))
    refine Zq rfl (QW.move (.tmp rfl)) (Zn ?_)
    exact⟨⟨j+1,v33,ps++[(YV b30,Us sets[j].key),(Pi b5,sets[j].ex.err)],.box b5 (sets[j].cs fr)::.box b30 [.c (Um sets[j].key)]::os⟩,⟨hlt,by simp;omega,by rw[List.map_append,hpe,Tb hlt];simp,hcl.add (fun o ho=>by simp[ho]) (fun p hp=>by simp at hp;rcases hp with rfl|rfl;exact⟨_,by simp,CloO.name _ _⟩;exact⟨_,by simp,PX _ fr (hsw _ (List.getElem_mem hlt))⟩)⟩,by show sets.length-(j+1)<sets.length-j;omega,QK (.cons rfl lr (.cons rfl lr (.cons rfl lr (.cons rfl lr (.cons rfl lr (.cons rfl lr .nil)))))) (Reown.refl _) (fun _ h=>by first|exact h|simp[h])⟩
  obtain rfl:j=sets.length:=by(simp[SetT.css_length]at c2;omega)
  refine J.exit (Qv (Qv (QM (thenQ.n (J.seq (Zs (Zq rfl (Qa L1 (.tmp rfl) rfl) (Zq rfl (Qb 1 Fx (.tmp rfl) rfl rfl) (Zq rfl (by first|exact Qh YY (.tmp rfl) wl|exact Qh YY (.tmp rfl) (EX.css_length _ _)|exact Qh YY (.tmp rfl) (SetT.css_length _ _)|exact Qh YY (.tmp rfl) (EmT.css_length _ _)|exact Qh YY (.tmp rfl) (HdT.css_length _ _)|exact Qr YY (.tmp rfl)|exact QW.len_nil YY (.tmp rfl)) ?_)))))))))
  refine Zq rfl (QW.move .const) (Zn (J.block (Q0 (ι:=Nat×Value×List (Value×Int)×List Own) [2,36,37] (fun⟨i,v,ps,os⟩=>[(38,.c (.int .i64 (i:Int))),(3,.c v)]) (fun⟨i,v,ps,os⟩ oo=>List.set (List.set oo 0 (.arr v eFn ((ps.map (·.1)).map fun v=>[AV.c v]))) 2 (.grp os)) (fun⟨i,v,ps,os⟩=>i≤ems.length∧ps.length=1+2*sets.length+3*i∧ps.map (·.2)=Us on::(sets.flatMap SetT.es++(ems.take i).flatMap EmT.es)∧ClP os ps) (fun⟨i,v,ps,os⟩=>ems.length-i) ⟨0,v,ps,os⟩ (⟨Nat.zero_le _,by omega,by rw[hpe,List.take_length];simp,hcl⟩) (QK (.cons rfl lr (.cons rfl lr (.cons rfl lr (.cons rfl lr (.cons rfl lr .nil))))) (Reown.refl _) (fun _ h=>by first|exact h|simp[h])) ?_)))
  intro⟨i,v,ps,os⟩ ⟨hi,hpl,hpe,hcl⟩
  refine J.conv (by(try simp only[nl,Qk,Qz,QA,Qy,QR,AV.cellsOf,Qd,Qe,Nat.reduceAdd]);rfl) ?_
  refine Zs (Zq rfl (QW.lss (.tmp rfl) (.tmp rfl)) (Zn (J.seq ?_)))
  refine J.cond (.tmp rfl) (fun c3=>?_) (fun c3=>?_)
  · skip
    have hlt:i<ems.length:=by simpa[EmT.css_length]using c3
    refine Zk (J.seq (J.block (Zs (Zq rfl (Qi YY Kl rfl (.tmp rfl) (.tmp rfl) (by first|rfl|omega|(simp;done)) (by exact EmT.css_getE _ hlt)) ?_))))
    refine Zq rfl (by first|exact Ql Kl (.tmp rfl) rfl rfl|exact Ql Kl (.tmp rfl) (QH (EmT.cs_length _ _) rfl) (EmT.cs_length _ _)) ?_
    refine JL.alloc z86 rfl rfl fun b7=>?_
    first|refine Qc 0 Kl (.tmp rfl) rfl (.tmp rfl) (by first|rfl|assumption) rfl rfl rfl ?_|refine Qc 0 Kl (.tmp rfl) rfl (.tmp rfl) (by first|rfl|assumption) rfl (EmT.cs_length _ _) rfl ?_|refine Qc 0 Kl (.tmp rfl) rfl (.tmp rfl) (by first|rfl|assumption) (EmT.cs_length _ _) rfl rfl ?_|refine Qc 0 Kl (.tmp rfl) rfl (.tmp rfl) (by first|rfl|assumption) (EmT.cs_length _ _) (EmT.cs_length _ _) rfl ?_|refine JL.store_box 0 Kl (.tmp rfl) rfl (.tmp rfl) (by first|rfl|assumption) rfl rfl rfl rfl ?_|refine JL.store_box 0 Kl (.tmp rfl) rfl (.tmp rfl) (by first|rfl|assumption) (EmT.cs_length _ _) rfl rfl rfl ?_
    refine Zn (Qg (Zq rfl (QW.move (.tmp rfl)) (Zq rfl (UF .nil (.cons (.tmp rfl) .nil)) (Zq rfl (Qa B1 (.tmp rfl) rfl) (Zq rfl (Qb 0 U9 (.tmp rfl) rfl E8) (JL.callRF [] NX rfl Lent.nil (fun _=>(.cons (.tmp rfl) .nil)) (XY _) (.inl rfl) fun x46 o46 h46=>?_))))))
    obtain⟨b46,rfl,rfl⟩:=h46
    refine Zq rfl (UF .nil (.cons (.tmp rfl) .nil)) (Zq rfl (QW.buildSlice (idx:=[0,1,2]) (xs:=[[.c (Ph b7)],[.c (YV b46)],[.c (Pg b7)]]) XA C0 z94 rfl (.cons (.tmp rfl) (.cons (.tmp rfl) (.cons (.tmp rfl) .nil))) rfl rfl rfl rfl rfl rfl rfl rfl rfl) (JL.append 1 XA C0 rfl (.tmp rfl) rfl (UL XA (.tmp rfl)) (by simp;show _*8≤_;unfold Qu;omega) rfl fun v49=>?_))
    refine Zq rfl (QW.assign (.tmp rfl)) (JL.nil (blkQ.n (thenQ.n ?_)))
    rw[show((ps.map (·.1)).map fun v=>[AV.c v])++[[AV.c (Ph b7)],[AV.c (YV b46)],[AV.c (Pg b7)]]=((ps++[(Ph b7,ems[i].wh.err),(YV b46,Us ems[i].nm),(Pg b7,ems[i].ar.err)]).map (·.1)).map fun v=>[AV.c v] by simp]
    refine J.reown (Mo _ _ _ _ _) (Qg (Zq rfl (QW.add (.tmp rfl) .const (by first|exact U5 (by first|rfl|omega|(simp;done)) (by omega)|exact WW (by omega)|rfl)) ?_))
    refine Zq rfl (QW.move (.tmp rfl)) (Zn ?_)
    exact⟨⟨i+1,v49,ps++[(Ph b7,ems[i].wh.err),(YV b46,Us ems[i].nm),(Pg b7,ems[i].ar.err)],.box b7 (ems[i].cs fr)::.box b46 [.c (Um ems[i].nm)]::os⟩,⟨hlt,by simp;omega,by rw[List.map_append,hpe,Tc hlt];simp,hcl.add (fun o ho=>by simp[ho]) (fun p hp=>by simp at hp;rcases hp with rfl|rfl|rfl;exact⟨_,by simp,PW _ fr (hew _ (List.getElem_mem hlt))⟩;exact⟨_,by simp,CloO.name _ _⟩;exact⟨_,by simp,PV _ fr (hew _ (List.getElem_mem hlt))⟩)⟩,by show ems.length-(i+1)<ems.length-i;omega,QK (.cons rfl lr (.cons rfl lr (.cons rfl lr (.cons rfl lr (.cons rfl lr .nil))))) (Reown.refl _) (fun _ h=>by first|exact h|simp[h])⟩
  obtain rfl:i=ems.length:=by(simp[EmT.css_length]at c3;omega)
  refine J.exit (Qv (Qv (QM (thenQ.n (J.seq (J.closeArr 0 rfl (by simp;show _*8≤_;unfold Qu;omega) rfl (fun _ h=>by cases h) ?_))))))
  refine Qg (Zq rfl (QW.move (.tmp rfl)) (JL.callRF [.k,.p] BS rfl Lent.nil (fun _=>(.cons (Ev.le (.tmp rfl) (.fact (by simp) (.refl _))) .nil)) (Nn (fr:=true) (cl:=false) (fs:=ps.map (·.1)) (es:=ps.map (·.2)) (by simp) hcl.clos (by simp;unfold Qu;omega)) (.inl rfl) fun x52 o52 h52=>?_))
  obtain⟨rfl,rfl⟩:=h52
  exact Zq rfl (QW.assign (.tmp rfl)) (Zn (J.ret (Zr [.k,.k] (RetEv.one rfl (REv.tmp rfl lr)) rfl ⟨by rw[hpe,List.take_length,HdT.err,if_neg (by show ¬(8<sets.length∨8<ems.length);omega)];rfl,rfl⟩)))

end
section
/- Walks: where an event's handler is; may a program be? -/
set_option maxRecDepth 10000
set_option maxHeartbeats 4000000
theorem M8{l:List HdT}{j:Nat}(h:j<l.length)(s:Ui)(i:Int):Km (l.drop j) s i=if l[j].on=s then i else Km (l.drop (j+1)) s (i+1):=by
  rw[List.drop_eq_getElem_cons h,Km]
theorem Ls(p:PgT):∀(l:List HdT) (h:HdT) (i:Int),twiceB p (l++[h]) i=(twiceB p l i||(p.at h.on !=i+l.length))
  |[],h,i=>by simp[twiceB]
  |x::r,h,i=>by
    rw[List.cons_append,twiceB,twiceB,Ls p r h (i+1),Bool.or_assoc,List.length_cons]
    congr 3;push_cast;omega
theorem Lr(p:PgT){l:List HdT}{j:Nat}(h:j<l.length):twiceB p (l.take (j+1)) 0=(twiceB p (l.take j) 0||(p.at l[j].on !=(j:Int))):=by
  rw[List.take_succ_eq_append_getElem h,Ls,List.length_take,Nat.min_eq_left (by omega)];simp
theorem R4{l:List HdT}{j:Nat}(h:j<l.length)(h0:US ((l.take j).map HdT.err)=0)(he:¬l[j].err=0):US (l.map HdT.err)=l[j].err:=by
  have hl:l=l.take j++(l[j]::l.drop (j+1)):=by rw[← List.drop_eq_getElem_cons h,List.take_append_drop]
  conv=>lhs;rw[hl]
  rw[List.map_append,LY,if_neg (fun h=>h h0),List.map_cons]
  exact if_pos he
theorem LI{k:Int}{bt:Nat}{t:Ui}{ks:List Ui}{is:List V}{hs:List HdT}:PgT.err ⟨.mk k bt t ks is,hs⟩=if(V.mk k bt t ks is).err≠0 then(V.mk k bt t ks is).err else if k≠5 then 81 else if 16<hs.length then 3 else if US (hs.map HdT.err)≠0 then US (hs.map HdT.err)else if twiceB ⟨.mk k bt t ks is,hs⟩ hs 0 then 6 else 0:=rfl
theorem LX{l:List HdT}{j:Nat}(h:j<l.length)(h0:US ((l.take j).map HdT.err)=0)(he:l[j].err=0):US ((l.take (j+1)).map HdT.err)=0:=by
  rw[List.take_succ_eq_append_getElem h,List.map_append,LY,if_neg (fun h=>h h0)]
  simp[US,he]
theorem SC{h:HdT}{fr:Bool}{b:Nat}{s:Ui}:AC Tryz.prog 51 [.box b [.c (Um s)]] [.agg (h.cs fr),.c (YZ b)] (Ww fun x o=>x=.c (.bool (decide (h.on=s)))∧o=[.box b [.c (Um s)]]):=by
  refine AC.of_J Tryz.func51 rfl Tryz.ntmps51 rfl fun w0 A0=>?_
  refine Zs (Qp (.tmp rfl) rfl fun b2=>Zq rfl (QW.assign .const) (Zn (Zs (Zq rfl (Qa Dw (.tmp rfl) rfl) (Zq rfl (Qb 0 U9 (.tmp rfl) rfl rfl) (Zq rfl (Qb 1 U9 (.tmp rfl) rfl rfl) (Zq rfl (KI (.tmp rfl) (.tmp rfl)) (Zq rfl (QW.assign (.tmp rfl)) ?_))))))))
  exact Zn (J.ret (Zr [.k,.p] (RetEv.one rfl (REv.tmp rfl lr)) rfl ⟨_,rfl,by congr 2;rw[Bool.eq_iff_iff];simp,rfl⟩))
theorem SA{fr c:Bool}{l:List HdT}{b:Nat}{s:Ui}(hr:l.length*64≤Qu):
    AC Tryz.prog 50 [.box b [.c (Um s)]] [.sl fr c eHd (HdT.css fr l),.c (.func (.func 51) #[] #[YZ b])] (Ww fun x o=>x=.c (.int .i64 (Km l s 0))∧o=[.box b [.c (Um s)]]):=by
  have hlen:l.length≤9223372036854775805:=by unfold Qu at hr;omega
  refine AC.of_J Tryz.func50 rfl Tryz.ntmps50 rfl fun w0 A0=>?_
  refine Zs (Zq rfl (QW.assign .const) (Zn (J.seq (Zs (Zq rfl (QW.move (.tmp rfl)) (Zq rfl (by first|exact Qh Yt (.tmp rfl) wl|exact Qh Yt (.tmp rfl) (EX.css_length _ _)|exact Qh Yt (.tmp rfl) (SetT.css_length _ _)|exact Qh Yt (.tmp rfl) (EmT.css_length _ _)|exact Qh Yt (.tmp rfl) (HdT.css_length _ _)|exact Qr Yt (.tmp rfl)|exact QW.len_nil Yt (.tmp rfl)) ?_))))))
  refine Zq rfl (QW.move .const) (Zn (J.block (Q0 (ι:=Nat) [0,1,7] (fun j=>[(8,.c (.int .i64 (j:Int)))]) (fun _ oo=>oo) (fun j=>j≤l.length∧Km l s 0=Km (l.drop j) s (j:Int)) (fun j=>l.length-j) 0 (⟨Nat.zero_le _,rfl⟩) (QK (.cons rfl lr (.cons rfl lr (.cons rfl lr (.cons rfl lr .nil)))) (Reown.refl _) (fun _ h=>by first|exact h|simp[h])) ?_)))
  intro j ⟨hj,hi⟩
  refine J.conv (by(try simp only[nl,Qk,Qz,QA,Qy,QR,AV.cellsOf,Qd,Qe,Nat.reduceAdd]);rfl) ?_
  refine Zs (Zq rfl (QW.lss (.tmp rfl) (.tmp rfl)) (Zn (J.seq ?_)))
  refine J.cond (.tmp rfl) (fun c1=>?_) (fun c1=>?_)
  · skip
    have hlt:j<l.length:=by simpa[HdT.css_length]using c1
    refine Zk (J.seq (J.block (Zs (Zq rfl (QW.move (.tmp rfl)) (Zq rfl (QW.assign (.tmp rfl)) (Zn (Zs (Zq rfl (QW.move (.tmp rfl)) (Zq rfl (QW.move (.tmp rfl)) ?_)))))))))
    refine Zq rfl (QW.move (.tmp rfl)) (Zq rfl (Qi Yt YW rfl (.tmp rfl) (.tmp rfl) (by first|rfl|omega|(simp;done)) (by exact HdT.css_getE _ hlt)) ?_)
    refine Zq rfl (by first|exact Ql YW (.tmp rfl) rfl rfl|exact Ql YW (.tmp rfl) (QH rfl rfl) rfl) ?_
    refine Mt [.p] gofn51 rfl (.tmp rfl) Lent.nil (fun _=>(.cons (.tmp rfl) .nil)) rfl (SC) (.inl rfl) fun x16 o16 h16=>?_
    obtain⟨rfl,rfl⟩:=h16
    refine Zn ?_
    refine J.cond (.tmp rfl) (fun c2=>?_) (fun c2=>?_)
    · skip
      have he:l[j].on=s:=by simpa using c2
      exact Zs (Zq rfl (QW.move (.tmp rfl)) (Zq rfl (QW.assign (.tmp rfl)) (Zn (J.ret (blkQ.r (thenQ.r (thenQ.r (blkQ.r (thenQ.r (Zr [.p] (RetEv.one rfl (REv.tmp rfl lr)) rfl ⟨_,rfl,by rw[hi,M8 hlt,if_pos he],rfl⟩))))))))))
    have hne:¬l[j].on=s:=by simpa using c2
    refine J.skip (blkQ.n (thenQ.n (Qg (Zq rfl (QW.add (.tmp rfl) .const (by first|exact U5 (by first|rfl|omega|(simp;done)) (by omega)|exact WW (by omega)|rfl)) ?_))))
    refine Zq rfl (QW.move (.tmp rfl)) (Zn ?_)
    exact⟨j+1,⟨hlt,by rw[hi,M8 hlt,if_neg hne];simp⟩,by omega,QK (.cons rfl lr (.cons rfl lr (.cons rfl lr (.cons rfl lr .nil)))) (Reown.refl _) (fun _ h=>by first|exact h|simp[h])⟩
  have hge:l.length≤j:=by simpa[HdT.css_length]using c1
  exact J.exit (Qv (Qv (QM (thenQ.n (Zs (Zq rfl (QW.assign .const) (Zn (J.ret (Zr [.p] (RetEv.one rfl (REv.tmp rfl lr)) rfl ⟨_,rfl,by rw[hi,List.drop_of_length_le hge];rfl,rfl⟩)))))))))
theorem LT{fr:Bool}{p:PgT}(hw:p.wf)(s:Ui):Fn Tryz.prog 31 [.agg (p.cs fr),.c (Um s)] (.c (.int .i64 (p.at s))):=by
  obtain⟨⟨k,bt,t,ks,is⟩,hs⟩:=p
  refine AC.of_J Tryz.func31 rfl Tryz.ntmps31 rfl fun w0 A0=>?_
  refine Zs (Qp (.tmp rfl) rfl fun b2=>GB (.tmp rfl) rfl rfl fun b3=>Zq rfl (QW.assign .const) (Zn (Zs (Zq rfl (Qa Hu (.tmp rfl) rfl) (Zq rfl (Qb 1 Cf (.tmp rfl) rfl rfl) (Zq rfl (UF .nil (.cons (.tmp rfl) .nil)) (JL.callRF [.p] gofn50 rfl Lent.nil (fun _=>(.cons (.tmp rfl) (.cons (.tmp rfl) .nil))) (SA hw.hlen) (.inl rfl) fun x8 o8 h8=>?_)))))))
  obtain⟨rfl,rfl⟩:=h8
  exact Zq rfl (QW.assign (.tmp rfl)) (Zn (J.ret (Zr [.k,.k] (RetEv.one rfl (REv.tmp rfl lr)) rfl ⟨rfl,rfl⟩)))
theorem Cv{fr:Bool}{p:PgT}(hw:p.wf):Fn Tryz.prog 20 [.agg (p.cs fr)] (.c (.int .i64 p.err)):=by
  have hp:=hw
  obtain⟨⟨k,bt,t,ks,is⟩,hs⟩:=p
  obtain⟨hiw,hlen,hhw⟩:=hw
  simp only at hiw hlen hhw
  have hlen2:hs.length≤9223372036854775805:=by unfold Qu at hlen;omega
  refine AC.of_J Tryz.func20 rfl Tryz.ntmps20 rfl fun w0 A0=>?_
  refine Zs (Qp (.tmp rfl) rfl fun b1=>Zq rfl (QW.assign .const) (Zn (J.seq (Zs (Zq rfl (Qa DA (.tmp rfl) rfl) (Zq rfl (by first|exact Qf 0 Qj (.tmp rfl) rfl rfl rfl|exact Qf 0 Qj (.tmp rfl) rfl (Qm vl rfl) vl) ?_))))))
  refine Zq rfl (QW.call Xw (.cons (.tmp rfl) .nil) (W5 (v:=.mk k bt t ks is) Vc.self hiw)) (Zq rfl (QW.assign (.tmp rfl)) (Zn (Zs (Zq rfl (QW.move (.tmp rfl)) (Zq rfl (QW.neq (.tmp rfl) .const) (Zn ?_))))))
  refine J.cond (.tmp rfl) (fun c1=>?_) (fun c1=>?_)
  · skip
    have hbad:¬(V.mk k bt t ks is).err=0:=by simpa using c1
    exact Zs (Zq rfl (QW.move (.tmp rfl)) (Zq rfl (QW.assign (.tmp rfl)) (Zn (J.ret (thenQ.r (Zr [.k] (RetEv.one rfl (REv.tmp rfl lr)) rfl ⟨by rw[LI,if_pos hbad],rfl⟩))))))
  have hi0:(V.mk k bt t ks is).err=0:=by simpa using c1
  refine Zk (J.seq (J.block (Zs (Zq rfl (Qa DA (.tmp rfl) rfl) (Zq rfl (Qa UJ (.tmp rfl) rfl) (Zq rfl (Qb 0 UQ (.tmp rfl) rfl rfl) (Zq rfl (QW.neq (.tmp rfl) .const) (Zq rfl (QW.assign (.tmp rfl)) (Zn ?_)))))))))
  refine J.cond (.tmp rfl) (fun c2=>?_) (fun c2=>?_)
  · skip
    have hk:¬k=5:=by simpa using c2
    exact Zs (Zq rfl (QW.assign .const) (Zn (J.ret (blkQ.r (thenQ.r (Zr [.k] (RetEv.one rfl (REv.tmp rfl lr)) rfl ⟨by rw[LI,if_neg (fun h=>h hi0),if_pos hk],rfl⟩))))))
  have hk:k=5:=by simpa using c2
  refine Zs (Zq rfl (Qa Hu (.tmp rfl) rfl) (Zq rfl (Qb 0 Cf (.tmp rfl) rfl rfl) (Zq rfl (by first|exact Qh Yt (.tmp rfl) wl|exact Qh Yt (.tmp rfl) (EX.css_length _ _)|exact Qh Yt (.tmp rfl) (SetT.css_length _ _)|exact Qh Yt (.tmp rfl) (EmT.css_length _ _)|exact Qh Yt (.tmp rfl) (HdT.css_length _ _)|exact Qr Yt (.tmp rfl)|exact QW.len_nil Yt (.tmp rfl)) ?_)))
  refine Zq rfl (QW.gtr (.tmp rfl) .const) (Zq rfl (QW.assign (.tmp rfl)) (Zn ?_))
  refine J.cond (.tmp rfl) (fun c3=>?_) (fun c3=>?_)
  · skip
    have h16:16<hs.length:=by(simp[HdT.css_length]at c3;omega)
    exact Zs (Zq rfl (QW.assign .const) (Zn (J.ret (blkQ.r (thenQ.r (Zr [.k] (RetEv.one rfl (REv.tmp rfl lr)) rfl ⟨by rw[LI,if_neg (fun h=>h hi0),if_neg (fun h=>h hk),if_pos h16],rfl⟩))))))
  have h16:¬16<hs.length:=by(simp[HdT.css_length]at c3;omega)
  refine J.skip (blkQ.n (thenQ.n (Zs (Zq rfl (QW.assign .const) (Zn (J.seq (Zs (Zq rfl (Qa Hu (.tmp rfl) rfl) (Zq rfl (Qb 0 Cf (.tmp rfl) rfl rfl) ?_)))))))))
  refine Zq rfl (by first|exact Qh Yt (.tmp rfl) wl|exact Qh Yt (.tmp rfl) (EX.css_length _ _)|exact Qh Yt (.tmp rfl) (SetT.css_length _ _)|exact Qh Yt (.tmp rfl) (EmT.css_length _ _)|exact Qh Yt (.tmp rfl) (HdT.css_length _ _)|exact Qr Yt (.tmp rfl)|exact QW.len_nil Yt (.tmp rfl)) ?_
  refine Zq rfl (QW.move .const) (Zn (J.block (Q0 (ι:=Nat×Int) [1,25,26] (fun⟨j,w⟩=>[(27,.c (.int .i64 (j:Int))),(4,.c (.int .i64 w))]) (fun _ oo=>oo) (fun⟨j,w⟩=>j≤hs.length∧US ((hs.take j).map HdT.err)=0∧w=(if twiceB ⟨.mk k bt t ks is,hs⟩ (hs.take j) 0 then 6 else 0)) (fun⟨j,w⟩=>hs.length-j) ⟨0,0⟩ (⟨Nat.zero_le _,rfl,rfl⟩) (QK (.cons rfl lr (.cons rfl lr (.cons rfl lr (.cons rfl lr (.cons rfl lr .nil))))) (Reown.refl _) (fun _ h=>by first|exact h|simp[h])) ?_)))
  intro⟨j,w⟩ ⟨hj,hf0,htw⟩
  refine J.conv (by(try simp only[nl,Qk,Qz,QA,Qy,QR,AV.cellsOf,Qd,Qe,Nat.reduceAdd]);rfl) ?_
  refine Zs (Zq rfl (QW.lss (.tmp rfl) (.tmp rfl)) (Zn (J.seq ?_)))
  refine J.cond (.tmp rfl) (fun c4=>?_) (fun c4=>?_)
  · skip
    have hlt:j<hs.length:=by simpa[HdT.css_length]using c4
    refine Zk (J.seq (J.block (Zs (Zq rfl (QW.move (.tmp rfl)) (Zq rfl (Qi Yt YW rfl (.tmp rfl) (.tmp rfl) (by first|rfl|omega|(simp;done)) (by exact HdT.css_getE _ hlt)) ?_)))))
    refine Zq rfl (by first|exact Ql YW (.tmp rfl) rfl rfl|exact Ql YW (.tmp rfl) (QH rfl rfl) rfl) ?_
    refine JL.alloc z76 rfl rfl fun b6=>Zq rfl (QW.assign (.tmp rfl)) ?_
    first|refine Qc 0 YW (.tmp rfl) rfl (.tmp rfl) (by first|rfl|assumption) rfl rfl rfl ?_|refine Qc 0 YW (.tmp rfl) rfl (.tmp rfl) (by first|rfl|assumption) rfl rfl rfl ?_|refine Qc 0 YW (.tmp rfl) rfl (.tmp rfl) (by first|rfl|assumption) rfl rfl rfl ?_|refine Qc 0 YW (.tmp rfl) rfl (.tmp rfl) (by first|rfl|assumption) rfl rfl rfl ?_|refine JL.store_box 0 YW (.tmp rfl) rfl (.tmp rfl) (by first|rfl|assumption) rfl rfl rfl rfl ?_|refine JL.store_box 0 YW (.tmp rfl) rfl (.tmp rfl) (by first|rfl|assumption) rfl rfl rfl rfl ?_
    refine Zn (J.seq (Zs (Zq rfl (by first|exact Qf 0 YW (.tmp rfl) rfl rfl rfl|exact Qf 0 YW (.tmp rfl) rfl (Qm rfl rfl) rfl) ?_)))
    refine Zq rfl (QW.call gofn30 (.cons (.tmp rfl) .nil) (CQ (hhw _ (List.getElem_mem hlt)))) (Zq rfl (QW.assign (.tmp rfl)) (Zn (Zs (Zq rfl (QW.move (.tmp rfl)) (Zq rfl (QW.neq (.tmp rfl) .const) (Zn ?_))))))
    refine J.cond (.tmp rfl) (fun c5=>?_) (fun c5=>?_)
    · skip
      have he:¬hs[j].err=0:=by simpa using c5
      refine Zs (Zq rfl (QW.move (.tmp rfl)) (Zq rfl (QW.assign (.tmp rfl)) (Zn (J.ret (thenQ.r (blkQ.r (thenQ.r (thenQ.r (blkQ.r ?_)))))))))
      exact thenQ.r (Zr [.k,.k] (RetEv.one rfl (REv.tmp rfl lr)) rfl ⟨by rw[LI,if_neg (fun h=>h hi0),if_neg (fun h=>h hk),if_neg h16,R4 hlt hf0 he,if_pos he],rfl⟩)
    have he:hs[j].err=0:=by simpa using c5
    refine Zk (Zs (Zq rfl (by first|exact Qf 1 YX (.tmp rfl) rfl rfl rfl|exact Qf 1 YX (.tmp rfl) rfl (Qm (PgT.cs_length _ _) rfl) (PgT.cs_length _ _)) ?_))
    refine Zq rfl (Qa Dw (.tmp rfl) rfl) (Zq rfl (Qb 0 U9 (.tmp rfl) rfl rfl) (Zq rfl (QW.call BT (.cons (.tmp rfl) (.cons (.tmp rfl) .nil)) (LT (p:=⟨.mk k bt t ks is,hs⟩) hp _)) (Zq rfl (QW.move (.tmp rfl)) (Zq rfl (QW.neq (.tmp rfl) (.tmp rfl)) (Zn ?_)))))
    refine J.cond (.tmp rfl) (fun c6=>?_) (fun c6=>?_)
    · skip
      have ht1:(PgT.at ⟨.mk k bt t ks is,hs⟩ hs[j].on !=(j:Int))=true:=c6
      refine Qg (Zq rfl (QW.assign .const) (JL.nil (blkQ.n (thenQ.n (Qg (Zq rfl (QW.add (.tmp rfl) .const (by first|exact U5 (by first|rfl|omega|(simp;done)) (by omega)|exact WW (by omega)|rfl)) ?_))))))
      refine Zq rfl (QW.move (.tmp rfl)) (Zn ?_)
      exact⟨⟨j+1,6⟩,⟨hlt,LX hlt hf0 he,by rw[Lr _ hlt,ht1,Bool.or_true];rfl⟩,by show hs.length-(j+1)<hs.length-j;omega,QK (.cons rfl lr (.cons rfl lr (.cons rfl lr (.cons rfl lr (.cons rfl lr .nil))))) (Q9 1 _ rfl) (fun _ h=>by first|exact h|simp[h])⟩
    have ht1:(PgT.at ⟨.mk k bt t ks is,hs⟩ hs[j].on !=(j:Int))=false:=by simpa using c6
    refine J.skip (blkQ.n (thenQ.n (Qg (Zq rfl (QW.add (.tmp rfl) .const (by first|exact U5 (by first|rfl|omega|(simp;done)) (by omega)|exact WW (by omega)|rfl)) ?_))))
    refine Zq rfl (QW.move (.tmp rfl)) (Zn ?_)
    exact⟨⟨j+1,w⟩,⟨hlt,LX hlt hf0 he,by rw[Lr _ hlt,ht1,Bool.or_false];exact htw⟩,by show hs.length-(j+1)<hs.length-j;omega,QK (.cons rfl lr (.cons rfl lr (.cons rfl lr (.cons rfl lr (.cons rfl lr .nil))))) (Q9 1 _ rfl) (fun _ h=>by first|exact h|simp[h])⟩
  obtain rfl:j=hs.length:=by(simp[HdT.css_length]at c4;omega)
  rw[List.take_length]at hf0 htw
  exact J.exit (Qv (Qv (QM (thenQ.n (Zs (Zq rfl (QW.move (.tmp rfl)) (Zq rfl (QW.assign (.tmp rfl)) (Zn (J.ret (Zr [.k] (RetEv.one rfl (REv.tmp rfl lr)) rfl ⟨by rw[LI,if_neg (fun h=>h hi0),if_neg (fun h=>h hk),if_neg h16,if_neg (fun h=>h hf0),htw],rfl⟩))))))))))

end
section
/- An error is never 0; what is told of a reckoning. -/
variable {α β:Type}
def Nz(r:Except Int α):Prop:=∀c,r=.error c→c≠0
theorem Nz.ok(v:α):Nz (.ok v):=fun c h=>by cases h
theorem Nz.er{c:Int}(h:c≠0):Nz (.error c:Except Int α):=fun c' h'=>by cases h';exact h
theorem UP{p:Prop}[Decidable p]{r q:Except Int α}(h1:p→Nz r)(h2:¬p→Nz q):Nz (if p then r else q):=by
  by_cases h:p
  · rw[if_pos h];exact h1 h
  · rw[if_neg h];exact h2 h
theorem HF{r:ER V}(h:Nz r):Nz (UW r):=by
  cases r with
  |error c=>exact fun c' h'=>by cases h';exact h c rfl
  |ok p=>exact UP (fun _=>.ok _) fun _=>.er (by decide)
theorem EJ(v:V)(s:StT):Nz (K5 v s):=by
  unfold K5;by_cases h:(v.getv [s]).2=0
  · rw[if_pos h];exact .ok _
  · rw[if_neg h];exact .er h
theorem P8(v:V)(s:StT)(x:V):Nz (NI v s x):=UP (fun _=>.ok _) fun _=>.er (by decide)
theorem RX(v:V):Nz (Gb v):=UP (fun _=>.ok _) fun _=>.er (by decide)
theorem one_nz(o:Int)(t:Ui)(a:V):Nz (Bg o t a):=by
  unfold Bg
  repeat' with_reducible refine UP (fun _=>?_) (fun _=>?_)
  all_goals first|exact EJ _ _|exact .ok _|exact .er (by decide)
theorem two_nz(o:Int)(t:Ui)(a b:V):Nz (FA o t a b):=by
  unfold FA
  repeat' with_reducible refine UP (fun _=>?_) (fun _=>?_)
  all_goals first|exact EJ _ _|exact P8 _ _ _|exact .ok _|exact .er (by decide)
theorem F3{o:Int}{t:Ui}{l:List V}(h:o=23∨l.length=1∨l.length=2):Nz (UR o t l):=by
  unfold UR
  refine UP (fun _=>RX _) fun h23=>?_
  match l,h with
  |[a],_=>exact one_nz _ _ _
  |[a,b],_=>exact two_nz _ _ _ _
  |[],h=>simp at h;exact absurd h h23
  |_::_::_::_,h=>simp at h;exact absurd h h23
theorem Bo{g:V→Int→ER V}(hg:∀x f,Nz (g x f)):∀l f,Nz (Hn g l f)
  |[],f=>.ok _
  |x::r,f=>by
    have h1:=hg x f
    rw[Hn]
    cases h:g x f with
    |error c=>exact .er (h1 c h)
    |ok p=>
      have h2:=Bo hg r p.2
      simp only[]
      cases h3:Hn g r p.2 with
      |error c=>exact .er (h2 c h3)
      |ok q=>exact .ok _
theorem Pf{g:V→Int→ER Bool}(hg:∀x f,Nz (g x f)):∀l f,Nz (Hv g l f)
  |[],f=>.ok _
  |x::r,f=>by
    have h1:=hg x f
    rw[Hv]
    cases h:g x f with
    |error c=>exact .er (h1 c h)
    |ok p=>
      have h2:=Pf hg r p.2
      simp only[]
      cases h3:Hv g r p.2 with
      |error c=>exact .er (h2 c h3)
      |ok q=>exact .ok _
theorem Pc{g:V→Int→ER Bool}(hg:∀x f,Nz (g x f)):∀l f,Nz (Re g l f)
  |[],f=>.er (by decide)
  |x::r,f=>by
    have h1:=hg x f
    rw[Re]
    cases h:g x f with
    |error c=>exact .er (h1 c h)
    |ok p=>exact UP (fun _=>.ok _) fun _=>Pc hg r p.2
theorem RV{r:ER (List V)}(h:Nz r):Nz (Xm r):=by
  unfold Xm
  cases r with
  |error c=>exact .er (h c rfl)
  |ok p=>
    have h2:=RX (.li p.1)
    simp only[]
    cases h3:Gb (.li p.1)with
    |error c=>exact .er (h2 c h3)
    |ok q=>exact .ok _
theorem Sj{o:Int}{g:V→Int→ER V}{r:ER V}(hg:∀x f,Nz (g x f))(hr:Nz r):Nz (XC o g r):=by
  unfold XC
  cases r with
  |error c=>exact .er (hr c rfl)
  |ok p=>exact UP (fun _=>.er (by decide)) fun _=>UP (fun _=>RV (Bo hg _ _)) fun _=>UP (fun _=>RV (Pf (fun x f=>HF (hg x f)) _ _)) fun _=>Pc (fun x f=>HF (hg x f)) _ _
theorem EU:∀(l:List EX) {s:ScT} {f f':Int} {vs:List V},Q8 l s f=.ok (vs,f')→vs.length=l.length
  |[],s,f,f',vs,h=>by rw[Q8]at h;cases h;rfl
  |x::r,s,f,f',vs,h=>by
    rw[Q8]at h
    cases h1:x.ev s f with
    |error c=>rw[h1]at h;cases h
    |ok p=>
      rw[h1]at h
      simp only[]at h
      cases h2:Q8 r s p.2 with
      |error c=>rw[h2]at h;cases h
      |ok q=>
        rw[h2]at h;cases h
        simp[EU r h2]
mutual
theorem Wy:∀(e:EX) (s:ScT) (f:Int),e.Fine→Nz (e.ev s f)
  |.mk o b t l,s,f,hf=>by
    obtain⟨h0,h30,h8,ha⟩:=Mw hf.part
    have hk:∀x∈l,x.Fine:=fun x hx=>hf.kid hx
    rw[EX.ev]
    refine UP (fun _=>.er (by decide)) fun _=>?_
    refine UP (fun _=>.ok _) fun n0=>UP (fun _=>.ok _) fun n1=>UP (fun _=>.ok _) fun n2=>UP (fun _=>.ok _) fun n3=>UP (fun _=>.ok _) fun n4=>UP (fun _=>.ok _) fun n5=>UP (fun _=>.ok _) fun n6=>UP (fun _=>.ok _) fun n7=>?_
    refine UP (fun c=>Mx false l s _ hk (by omega)) fun n18=>UP (fun c=>Mx true l s _ hk (by omega)) fun n19=>UP (fun c=>D7 l s _ hk (by omega)) fun n21=>UP (fun c=>D6 o l s _ hk (by omega)) fun nov=>?_
    have h1:=Ny l s (f-1) hk
    cases h:Q8 l s (f-1)with
    |error c=>exact .er (h1 c h)
    |ok p=>
      have h2:=EU l h
      have h3:=F3 (o:=o) (t:=t) (l:=p.1) (by omega)
      simp only[]
      cases h4:UR o t p.1 with
      |error c=>exact .er (h3 c h4)
      |ok q=>exact .ok _
theorem Ny:∀(l:List EX) (s:ScT) (f:Int),(∀x∈l,x.Fine)→Nz (Q8 l s f)
  |[],s,f,hf=>by rw[Q8];exact .ok _
  |x::r,s,f,hf=>by
    have h1:=Wy x s f (hf x (by simp))
    rw[Q8]
    cases h:x.ev s f with
    |error c=>exact .er (h1 c h)
    |ok p=>
      have h2:=Ny r s p.2 (fun z hz=>hf z (by simp[hz]))
      simp only[]
      cases h3:Q8 r s p.2 with
      |error c=>exact .er (h2 c h3)
      |ok q=>exact .ok _
theorem Mx:∀(k:Bool) (l:List EX) (s:ScT) (f:Int),(∀x∈l,x.Fine)→l.length=2→Nz (U3 k l s f)
  |k,[],s,f,hf,h2=>by simp at h2
  |k,[_],s,f,hf,h2=>by simp at h2
  |k,x::y::_,s,f,hf,h2=>by
    have h1:=HF (Wy x s f (hf x (by simp)))
    rw[U3]
    cases h:UW (x.ev s f)with
    |error c=>exact .er (h1 c h)
    |ok p=>
      refine UP (fun _=>.ok _) fun _=>?_
      have h3:=HF (Wy y s p.2 (hf y (by simp)))
      cases h4:UW (y.ev s p.2)with
      |error c=>exact .er (h3 c h4)
      |ok q=>exact .ok _
theorem D7:∀(l:List EX) (s:ScT) (f:Int),(∀x∈l,x.Fine)→l.length=3→Nz (Wr l s f)
  |[],s,f,hf,h2=>by simp at h2
  |[_],s,f,hf,h2=>by simp at h2
  |[_,_],s,f,hf,h2=>by simp at h2
  |x::y::z::_,s,f,hf,h2=>by
    have h1:=HF (Wy x s f (hf x (by simp)))
    rw[Wr]
    cases h:UW (x.ev s f)with
    |error c=>exact .er (h1 c h)
    |ok p=>exact UP (fun _=>Wy y s p.2 (hf y (by simp))) fun _=>Wy z s p.2 (hf z (by simp))
theorem D6:∀(o:Int) (l:List EX) (s:ScT) (f:Int),(∀x∈l,x.Fine)→l.length=2→Nz (Yq o l s f)
  |o,[],s,f,hf,h2=>by simp at h2
  |o,[_],s,f,hf,h2=>by simp at h2
  |o,x::y::_,s,f,hf,h2=>by
    rw[Yq]
    exact Sj (fun it g=>Wy y {s with it} g (hf y (by simp))) (Wy x s f (hf x (by simp)))
end

end
section
/- Walks: the runner: what it reckons, what it sets. -/
set_option maxRecDepth 10000
set_option maxHeartbeats 4000000
theorem Bn{s:ScT}{f:Int}:((s.st.cs false++s.ev.cs false++s.it.cs false++[AV.c (.int .i64 f)]).drop 0).take 15=s.cs:=by
  rw[List.drop_zero];exact List.take_left' (Mn s)
theorem Bm{s:ScT}{f:Int}{x:V}:QT (s.st.cs false++s.ev.cs false++s.it.cs false++[AV.c (.int .i64 f)]) 0 (x.cs false)=x.cs false++s.ev.cs false++s.it.cs false++[AV.c (.int .i64 f)]:=by
  obtain⟨⟨k1,b1,t1,ks1,is1⟩,⟨k2,b2,t2,ks2,is2⟩,⟨k3,b3,t3,ks3,is3⟩⟩:=s
  obtain⟨k4,b4,t4,ks4,is4⟩:=x;rfl
theorem Sb{e:EX}{s:ScT}{f:Int}{v:V}{g c:Int}(h:MB e s f=(v,g,c))(hc:¬c=0):e.ev s f=.error c:=by
  unfold MB at h
  cases he:e.ev s f with
  |error d=>rw[he]at h;rw[show d=c from(Prod.mk.inj (Prod.mk.inj h).2).2]
  |ok p=>rw[he]at h;exact absurd (Prod.mk.inj (Prod.mk.inj h).2).2.symm hc
theorem FO{e:EX}{s:ScT}{f:Int}{v:V}{g:Int}(hn:∀c,e.ev s f=.error c→c≠0)(h:MB e s f=(v,g,0)):e.ev s f=.ok (v,g):=by
  unfold MB at h
  cases he:e.ev s f with
  |error d=>rw[he]at h;exact absurd (Prod.mk.inj (Prod.mk.inj h).2).2 (hn d he)
  |ok p=>obtain⟨v',g'⟩:=p;rw[he]at h;obtain⟨h1,h2⟩:=Prod.mk.inj h;obtain⟨h2,-⟩:=Prod.mk.inj h2;rw[h1,h2]
def EvS(r:ER V)(b:Nat)(s:ScT):W1→List Own→Prop:=PanR (XJ r=0) (YR (XJ r)) fun x o=>∃v f',r=.ok (v,f')∧x=.agg (v.cs true)∧o=[mb b s f']
theorem EvS.ok{r:ER V}{b:Nat}{s:ScT}{v:V}{f':Int}(h:r=.ok (v,f')):EvS r b s (.ret (.agg (v.cs true))) [mb b s f']:=.inl ⟨by rw[h];rfl,_,rfl,v,f',h,rfl,rfl⟩
theorem EvS.er{r:ER V}{b:Nat}{s:ScT}{c:Int}(h:r=.error c)(hc:¬c=0):EvS r b s (.pan (.iface 33 (.int .i64 c))) []:=.inr ⟨by rw[h];exact hc,by rw[h];rfl,rfl⟩
def HK(v:V):Bool×Int:=if v.kind≠1∨v.err≠0 then(false,81)else(v.bits==1,0)
theorem C7(fr:Bool)(vs:List V)(v:V):V.css fr vs++[v.cs fr]=V.css fr (vs++[v]):=by
  simp[V.css_eq]
theorem Pp{fr:Bool}{v:V}{ys:List AV}(hv:Vc fr v ys)(hw:v.wf):Fn Tryz.prog 65 [.agg ys] (.tup [.c (.bool (HK v).1),.c (.int .i64 (HK v).2)]):=by
  subst hv
  obtain⟨vk,vb,vt,vks,vis⟩:=v
  refine AC.of_J Tryz.func65 rfl Tryz.ntmps65 rfl fun w0 A0=>?_
  refine Zs (Qp (.tmp rfl) rfl fun b1=>Zq rfl (QW.assign .const) (Zq rfl (QW.assign .const) (Zn (J.seq (Zs (Zq rfl (Qa UJ (.tmp rfl) rfl) (Zq rfl (Qb 0 UQ (.tmp rfl) rfl rfl) (Zq rfl (QW.neq (.tmp rfl) .const) ?_))))))))
  refine Zq rfl (QW.move (.tmp rfl)) (Zg rfl (fun hg=>(by first|exact Qf 0 Qj (.tmp rfl) rfl rfl rfl|exact Qf 0 Qj (.tmp rfl) rfl (Qm vl rfl) vl)) ?_)
  refine Zg rfl (fun hg=>(QW.call Xw (.cons (.when rfl hg) .nil) (W5 (v:=.mk vk vb vt vks vis) Vc.self hw))) (Zg rfl (fun hg=>(QW.neq (.when rfl hg) .const)) (Zq rfl (QW.pick_or (.tmp rfl) (.tmp rfl)) (Zn ?_)))
  refine J.cond (.tmp rfl) (fun c1=>?_) (fun c1=>?_)
  · skip
    have hb:vk≠1∨(V.mk vk vb vt vks vis).err≠0:=by(simp at c1;exact c1)
    exact Zs (Zq rfl (QW.assign .const) (Zq rfl (QW.assign .const) (Zn (J.ret (thenQ.r (Zr [.k] (QB rfl (REv.tmp rfl lr) (REv.tmp rfl lr)) rfl ⟨by rw[show HK (V.mk vk vb vt vks vis)=(false,81)from if_pos hb],rfl⟩))))))
  have hb:¬(vk≠1∨(V.mk vk vb vt vks vis).err≠0):=by(simp at c1;intro h;rcases h with h|h;exact h c1.1;exact h c1.2)
  exact Zk (Zs (Zq rfl (Qa Uu (.tmp rfl) rfl) (Zq rfl (Qb 0 Wi (.tmp rfl) rfl rfl) (Zq rfl (QW.eql (.tmp rfl) .const) (Zq rfl (QW.assign (.tmp rfl)) (Zq rfl (QW.assign .const) (Zn (J.ret (Zr [.k] (QB rfl (REv.tmp rfl lr) (REv.tmp rfl lr)) rfl ⟨by rw[show HK (V.mk vk vb vt vks vis)=(vb==1,0)from if_neg hb,show(((vb:Nat):Int)==1)=(vb==1) by rw[Bool.eq_iff_iff];simp;omega],rfl⟩)))))))))
theorem Gg{e:EX}{s:ScT}{f:Int}{b:Nat}{fr:Bool}{ys:List AV}(he:Xc fr e ys)(hw:e.wf)(hf:e.Fine)(hs:s.good)(h0:KQ f):
    AC Tryz.prog 63 [mb b s f] [pb b,.agg ys] (EvS (e.ev s f) b s):=by
  subst he
  obtain⟨⟨v,g,c⟩,hR⟩:∃p,MB e s f=p:=⟨_,rfl⟩
  have hrun:=hR▸run_ok (fr:=fr) Xc.self hw hf hs h0
  refine AC.of_J Tryz.func63 rfl Tryz.ntmps63 rfl fun w0 A0=>?_
  refine Zs (Qp (.tmp rfl) rfl fun b3=>JL.alloc WQ rfl rfl fun b4=>Zn (J.seq (QU Uc (Zo 0 1 [] rfl (fun _ ho_=>by first|exact Qf 1 Uz (.tmp rfl) ho_ rfl rfl|exact Qf 1 Uz (.tmp rfl) ho_ (Qm xl rfl) xl) ?_))))
  refine Zf 1 [] rfl (fun _=>QW.move (.tmp rfl)) (Zf 2 [10] rfl (fun _=>QG (.tmp rfl)) (Zf 3 [11] rfl (fun _=>Qa Lh (.tmp rfl) rfl) (Zo 4 2 [12] rfl (fun _ ho_=>Qf 2 ty117 (.tmp rfl) ho_ Bn (Mn _)) (Zf 5 [] rfl (fun _=>QW.move (.tmp rfl)) (Zf 6 [14] rfl (fun _=>QG (.tmp rfl)) (Zf 7 [15] rfl (fun _=>Qa EO (.tmp rfl) rfl) (Zo 8 2 [16] rfl (fun _ ho_=>Qb 2 UQ (.tmp rfl) ho_ NS) (Zf 9 [9,13,17] rfl (fun _=>QW.call gofn76 (.cons (.tmp rfl) (.cons (.tmp rfl) (.cons (.tmp rfl) .nil))) (hrun)) (Zf 10 [18] rfl (fun _=>QW.move (.tmp rfl)) ?_)))))))))
  refine Zf 11 [8] rfl (fun _=>QW.extract (.tmp rfl) rfl) (Zf 12 [8] rfl (fun _=>QW.extract (.tmp rfl) rfl) (Zf 13 [8] rfl (fun _=>QW.extract (.tmp rfl) rfl) (JX.a 14 rfl (AllocOp.mk WQ rfl) rfl rfl rfl rfl rfl (JX.one 15 [true,false,false,true,true,true,true,true,true,true,true,true,true,true,true] rfl (by kernel_rfl) (by kernel_rfl) rfl rfl (by kernel_rfl) rfl fun bs15_ pe_ ex_=>?_))))
  refine JL.conv (by(try simp only[Ua,Uj,Q5,QS,Flt.val,Flt.bx,nx,nl,Qk,Qz,QA,Qy,QR,AV.cellsOf,Qd,Qe,Nat.reduceAdd]);rfl) ?_
  first|refine Qc 3 Qj (.tmp rfl) rfl (.tmp rfl) (by first|rfl|assumption) rfl rfl rfl ?_|refine Qc 3 Qj (.tmp rfl) rfl (.tmp rfl) (by first|rfl|assumption) rfl vl rfl ?_|refine Qc 3 Qj (.tmp rfl) rfl (.tmp rfl) (by first|rfl|assumption) vl rfl rfl ?_|refine Qc 3 Qj (.tmp rfl) rfl (.tmp rfl) (by first|rfl|assumption) vl vl rfl ?_|refine JL.store_box 3 Qj (.tmp rfl) rfl (.tmp rfl) (by first|rfl|assumption) rfl rfl rfl rfl ?_|refine JL.store_box 3 Qj (.tmp rfl) rfl (.tmp rfl) (by first|rfl|assumption) vl rfl rfl rfl ?_
  refine JL.nil ?_
  refine thenQ.n ⟨[],_,rfl,rfl,rfl,rfl,rfl,QJ 4 rfl,trivial,⟨trivial,⟨trivial,trivial⟩⟩,?_⟩
  refine JX.conv (S':=[15,14,11,10,9,8,7,6,5,4,3,2,1,0]) rfl (by(try simp only[QS]);rfl) (by(try simp only[Ua,Uj,Q5,QS,Flt.val,Flt.bx,nx,nl,Qk,Qz,QA,Qy,QR,AV.cellsOf,Qd,Qe,Nat.reduceAdd]);rfl) ?_
  refine Zf 16 [20] rfl (fun _=>QW.assign (.tmp rfl)) (Zf 17 [21] rfl (fun _=>QW.assign (.tmp rfl)) (JX.fin (by kernel_rfl) (by kernel_rfl) fun bs_=>?_))
  refine QX.conv (by(try simp only[Ua,Uj,Q5,QS,Flt.val,Flt.bx,nx,nl,Qk,Qz,QA,Qy,QR,AV.cellsOf,Qd,Qe,Nat.reduceAdd]);rfl) ?_
  refine thenQ.n (J.seq (Zs (Zq rfl (QW.move (.tmp rfl)) (Zq rfl (QW.neq (.tmp rfl) .const) (Zn ?_)))))
  refine J.cond (.tmp rfl) (fun c1=>?_) (fun c1=>?_)
  · skip
    have hc:¬c=0:=by simpa using c1
    refine Qg (Zq rfl (QW.move (.tmp rfl)) (Zq rfl (WO ⟨_,Tryz.underlying33,by intro ms h;cases h⟩ (.tmp rfl)) ?_))
    refine JL.panic (.tmp rfl) (thenQ.p ?_)
    exact⟨_,QN [.k,.k,.k,.k] _,_,rfl,rfl,Qn [.k,.k,.k,.k] _,EvS.er (Sb hR hc) hc⟩
  obtain rfl:c=0:=by simpa using c1
  have hv:=FO (Wy e s f hf) hR
  refine Zk (Zs (Zq rfl (QW.move (.tmp rfl)) (Zq rfl (QW.move (.tmp rfl)) (Zq rfl (QG (.tmp rfl)) (Zq rfl (Qa EO (.tmp rfl) rfl) (JL.store_box 2 UQ (.tmp rfl) rfl (.tmp rfl) rfl rfl (by rw[Hm];rfl) En rfl ?_))))))
  refine Zn (Zs (Zq rfl (by first|exact Qf 3 Qj (.tmp rfl) rfl rfl rfl|exact Qf 3 Qj (.tmp rfl) rfl (Qm vl rfl) vl) ?_))
  first|refine Qc 0 Qj (.tmp rfl) rfl (.tmp rfl) (by first|rfl|assumption) rfl rfl rfl ?_|refine Qc 0 Qj (.tmp rfl) rfl (.tmp rfl) (by first|rfl|assumption) rfl vl rfl ?_|refine Qc 0 Qj (.tmp rfl) rfl (.tmp rfl) (by first|rfl|assumption) vl rfl rfl ?_|refine Qc 0 Qj (.tmp rfl) rfl (.tmp rfl) (by first|rfl|assumption) vl vl rfl ?_|refine JL.store_box 0 Qj (.tmp rfl) rfl (.tmp rfl) (by first|rfl|assumption) rfl rfl rfl rfl ?_|refine JL.store_box 0 Qj (.tmp rfl) rfl (.tmp rfl) (by first|rfl|assumption) vl rfl rfl rfl ?_
  exact Zn (J.ret (Zr [.k,.k,.p,.k] (RetEv.one rfl (by first|exact REv.cell 0 Qj rfl rfl rfl rfl lr|exact REv.cell 0 Qj rfl rfl (Qm vl rfl) vl lr)) rfl (EvS.ok hv)))
def YU(s:ScT)(l:List SetT)(f:Int):ER V:=match Q8 (l.map SetT.ex) s f with
  |.error e=>.error e
  |.ok (vs,f1)=>match Wc s.st (l.zip vs)with
    |.error e=>.error e
    |.ok v=>.ok (v,f1)
def StR(r:ER V)(b:Nat)(s:ScT):W1→List Own→Prop:=PanR (XJ r=0) (YR (XJ r)) fun x o=>∃v f',r=.ok (v,f')∧x=.tup []∧o=[mb b {s with st:=v} f']
theorem StR.ok{r:ER V}{b:Nat}{s:ScT}{v:V}{f':Int}(h:r=.ok (v,f')):StR r b s (.ret (.tup [])) [mb b {s with st:=v} f']:=.inl ⟨by rw[h];rfl,_,rfl,v,f',h,rfl,rfl⟩
theorem StR.er{r:ER V}{b:Nat}{s:ScT}{c:Int}(h:r=.error c)(hc:¬c=0):StR r b s (.pan (.iface 33 (.int .i64 c))) []:=.inr ⟨by rw[h];exact hc,by rw[h];rfl,rfl⟩
theorem FJ{s:ScT}{l:List SetT}{f c:Int}(h:Q8 (l.map SetT.ex) s f=.error c):YU s l f=.error c:=by unfold YU;rw[h]
theorem FI{s:ScT}{l:List SetT}{f g c:Int}{vs:List V}(h:Q8 (l.map SetT.ex) s f=.ok (vs,g))(h2:Wc s.st (l.zip vs)=.error c):YU s l f=.error c:=by unfold YU;rw[h];simp only[];rw[h2]
theorem Lx{s:ScT}{l:List SetT}{f g:Int}{vs:List V}{v:V}(h:Q8 (l.map SetT.ex) s f=.ok (vs,g))(h2:Wc s.st (l.zip vs)=.ok v):YU s l f=.ok (v,g):=by unfold YU;rw[h];simp only[];rw[h2]
theorem Rw{l:List SetT}{vs:List V}{i:Nat}(h:i<l.length)(h2:i<vs.length):(l.zip vs).drop i=(l[i],vs[i])::(l.zip vs).drop (i+1):=by
  rw[List.drop_eq_getElem_cons (by simp;omega)];simp
theorem Sf{v x:V}{s:SetT}{r:List (SetT×V)}(h:¬(v.setv [⟨true,s.key,0⟩] x).2=0):Wc v ((s,x)::r)=.error 84:=by rw[Wc,if_neg h]
theorem put_go{v x:V}{s:SetT}{r:List (SetT×V)}(h:(v.setv [⟨true,s.key,0⟩] x).2=0):Wc v ((s,x)::r)=Wc (v.setv [⟨true,s.key,0⟩] x).1 r:=by rw[Wc,if_pos h]
theorem CX{l:List SetT}{s:ScT}{j:Nat}{vs:List V}{v:V}{g f1:Int}(hj:j<l.length)(h:l[j].ex.ev s g=.ok (v,f1)):Ki vs (Q8 ((l.map SetT.ex).drop j) s g)=Ki (vs++[v]) (Q8 ((l.map SetT.ex).drop (j+1)) s f1):=
  R8 (by simpa using hj) (by simpa using h)
theorem Pn{l:List SetT}{s:ScT}{j:Nat}{vs:List V}{g c:Int}(hj:j<l.length)(h:l[j].ex.ev s g=.error c):Ki vs (Q8 ((l.map SetT.ex).drop j) s g)=.error c:=
  EV (by simpa using hj) (by simpa using h)
theorem FT{l:List SetT}{s:ScT}{f:Int}{b:Nat}{fr:Bool}(h8:l.length≤8)(hw:∀x∈l,x.wf)(hf:∀x∈l,x.ex.Fine)(hs:s.good)(h0:KQ f):
    AC Tryz.prog 55 [mb b s f] [pb b,.sl fr false eSe (SetT.css fr l)] (StR (YU s l f) b s):=by
  refine AC.of_J Tryz.func55 rfl Tryz.ntmps55 rfl fun w0 A0=>?_
  refine Zs (Zq rfl (QW.assign .const) (Zn (J.seq (Zs (Zq rfl (QW.move (.tmp rfl)) (Zq rfl (by first|exact Qh Yf (.tmp rfl) wl|exact Qh Yf (.tmp rfl) (SetT.css_length _ _)|exact Qh Yf (.tmp rfl) (StT.css_length _)|exact Qr Yf (.tmp rfl)|exact QW.len_nil Yf (.tmp rfl)) ?_))))))
  refine Zq rfl (QW.move .const) (Zn (J.block (J.reown (Uf eV _) (Q0 (ι:=Nat×Value×List V×Int) [0,1,11,12] (fun⟨j,v,vs,g1⟩=>[(13,.c (.int .i64 (j:Int))),(4,.c v)]) (fun⟨j,v,vs,g1⟩ oo=>List.set (List.set oo 1 (.arr v eV (V.css true vs))) 0 (mb b s g1)) (fun⟨j,v,vs,g1⟩=>j≤l.length∧vs.length=j∧(∀x∈vs,x.good)∧KQ g1∧Q8 (l.map SetT.ex) s f=Ki vs (Q8 ((l.map SetT.ex).drop j) s g1)) (fun⟨j,v,vs,g1⟩=>l.length-j) ⟨0,.slice none 0 0,[],f⟩ (⟨Nat.zero_le _,rfl,(fun _ h=>by cases h),h0,M4 _⟩) (QK (.cons rfl lr (.cons rfl lr (.cons rfl lr (.cons rfl lr (.cons rfl lr (.cons rfl lr .nil)))))) (Reown.refl _) (fun _ h=>by first|exact h|simp[h])) ?_))))
  intro⟨j,v,vs,g1⟩ ⟨hj,hvl,hvg,hg1,hevs⟩
  refine J.conv (by(try simp only[nl,Qk,Qz,QA,Qy,QR,AV.cellsOf,Qd,Qe,Nat.reduceAdd]);rfl) ?_
  refine Zs (Zq rfl (QW.lss (.tmp rfl) (.tmp rfl)) (Zn (J.seq ?_)))
  refine J.cond (.tmp rfl) (fun c1=>?_) (fun c1=>?_)
  · skip
    have hlt:j<l.length:=by simpa[SetT.css_length]using c1
    refine Zk (J.seq (J.block (Zs (Zq rfl (Qi Yf Yr rfl (.tmp rfl) (.tmp rfl) (by first|rfl|omega|(simp;done)) (by exact SetT.css_getE _ hlt)) ?_))))
    refine Zq rfl (by first|exact Ql Yr (.tmp rfl) rfl rfl|exact Ql Yr (.tmp rfl) (QH (SetT.cs_length _ _) rfl) (SetT.cs_length _ _)) ?_
    refine JL.alloc z82 rfl rfl fun b6=>?_
    first|refine Qc 0 Yr (.tmp rfl) rfl (.tmp rfl) (by first|rfl|assumption) rfl rfl rfl ?_|refine Qc 0 Yr (.tmp rfl) rfl (.tmp rfl) (by first|rfl|assumption) rfl (SetT.cs_length _ _) rfl ?_|refine Qc 0 Yr (.tmp rfl) rfl (.tmp rfl) (by first|rfl|assumption) (SetT.cs_length _ _) rfl rfl ?_|refine Qc 0 Yr (.tmp rfl) rfl (.tmp rfl) (by first|rfl|assumption) (SetT.cs_length _ _) (SetT.cs_length _ _) rfl ?_|refine JL.store_box 0 Yr (.tmp rfl) rfl (.tmp rfl) (by first|rfl|assumption) rfl rfl rfl rfl ?_|refine JL.store_box 0 Yr (.tmp rfl) rfl (.tmp rfl) (by first|rfl|assumption) (SetT.cs_length _ _) rfl rfl rfl ?_
    refine Zn (Qg (Zq rfl (QW.move (.tmp rfl)) (Zq rfl (QW.move (.tmp rfl)) (Zq rfl (Qa B6 (.tmp rfl) rfl) (Zq rfl (Qf 0 Uz (.tmp rfl) rfl SetT.at1 xl) ?_)))))
    refine Qs [.k,.p] Dq rfl Lent.nil (fun _=>(.cons (.tmp rfl) (.cons (.tmp rfl) .nil))) (Gg (e:=l[j].ex) (s:=s) (f:=g1) Xc.self (hw _ (List.getElem_mem hlt)).ex (hf _ (List.getElem_mem hlt)) hs hg1) (.inl rfl) (fun k21 x21 o21 h21=>?_) (fun k21=>?_)
    rotate_left
    · skip
      refine blkQ.p (thenQ.p (thenQ.p (blkQ.p (thenQ.p ?_))))
      exact⟨_,QN [.k,.k] _,_,rfl,rfl,Qn [.k,.k] _,StR.er (FJ (hevs.trans (Pn hlt (Wh k21)))) k21⟩
    obtain⟨v21,f21,hv21,rfl,rfl⟩:=h21
    refine Zq rfl (QW.buildSlice (idx:=[0]) (xs:=[V.cs true v21]) QO K6 WQ rfl (.cons (.tmp rfl) .nil) rfl rfl rfl rfl rfl (by exact KW vl) rfl (HA vl) rfl) ?_
    refine JL.append 2 QO K6 rfl (.tmp rfl) rfl (UL QO (.tmp rfl)) (by rw[V.css_length];show(_+1)*80≤_;unfold Qu;omega) rfl fun v23=>?_
    refine Zq rfl (QW.assign (.tmp rfl)) (JL.nil (blkQ.n (thenQ.n ?_)))
    rw[C7]
    refine Qg (Zq rfl (QW.add (.tmp rfl) .const (by first|exact U5 (by first|rfl|omega|(simp;done)) (by omega)|exact WW (by omega)|rfl)) ?_)
    refine Zq rfl (QW.move (.tmp rfl)) (Zn ?_)
    rw[CX hlt hv21]at hevs
    obtain⟨hgv,hfv⟩:=Kb (hw _ (List.getElem_mem hlt)).ex (hf _ (List.getElem_mem hlt)) hs hg1 hv21
    exact⟨⟨j+1,v23,vs++[v21],f21⟩,⟨hlt,by simp[hvl],fun z hz=>(List.mem_append.1 hz).elim (hvg z) (fun h=>by rw[List.mem_singleton.1 h];exact hgv),hfv,hevs⟩,by show l.length-(j+1)<l.length-j;omega,QK (.cons rfl lr (.cons rfl lr (.cons rfl lr (.cons rfl lr (.cons rfl lr (.cons rfl lr .nil)))))) (Q9 1 _ rfl) (fun _ h=>by first|exact h|simp[h])⟩
  have hge:l.length≤j:=by simpa[SetT.css_length]using c1
  rw[List.drop_of_length_le (by simpa using hge),R9]at hevs
  refine J.exit (Qv (Qv (QM (thenQ.n (J.seq (J.closeArr 1 rfl (by rw[V.css_length];show _*80≤_;unfold Qu;omega) rfl (fun z hz=>by simp only[mb,QV,UT,Own.fp,List.append_nil,List.mem_singleton]at hz;subst hz;simp[mb,QV,Own.fp]) ?_))))))
  refine Qg (Zq rfl (QW.move (.tmp rfl)) (Zq rfl (by first|exact Qh Yf (.tmp rfl) wl|exact Qh Yf (.tmp rfl) (SetT.css_length _ _)|exact Qh Yf (.tmp rfl) (StT.css_length _)|exact Qr Yf (.tmp rfl)|exact QW.len_nil Yf (.tmp rfl)) ?_))
  refine Zq rfl (QW.move .const) (Zn (J.block (Q0 (ι:=Nat×V) [0,4,25,26] (fun⟨i,st⟩=>[(27,.c (.int .i64 (i:Int)))]) (fun⟨i,st⟩ oo=>List.set oo 0 (mb b {s with st:=st} g1)) (fun⟨i,st⟩=>i≤l.length∧st.good∧Wc s.st (l.zip vs)=Wc st ((l.zip vs).drop i)) (fun⟨i,st⟩=>l.length-i) ⟨0,s.st⟩ (⟨Nat.zero_le _,hs.st,rfl⟩) (QK (.cons rfl lr (.cons rfl lr (.cons rfl lr (.cons rfl lr (.cons rfl lr .nil))))) (Reown.refl _) (fun _ h=>by first|exact h|simp[h])) ?_)))
  intro⟨i,st⟩ ⟨hi,hst,hput⟩
  refine J.conv (by(try simp only[nl,Qk,Qz,QA,Qy,QR,AV.cellsOf,Qd,Qe,Nat.reduceAdd]);rfl) ?_
  refine Zs (Zq rfl (QW.lss (.tmp rfl) (.tmp rfl)) (Zn (J.seq ?_)))
  refine J.cond (.tmp rfl) (fun c2=>?_) (fun c2=>?_)
  · skip
    have hlt:i<l.length:=by simpa[SetT.css_length]using c2
    have hlv:i<vs.length:=by omega
    refine Zk (J.seq (J.block (Zs (Zq rfl (QW.move (.tmp rfl)) (Zq rfl (Qi Yf Yr rfl (.tmp rfl) (.tmp rfl) (by first|rfl|omega|(simp;done)) (by exact SetT.css_getE _ hlt)) ?_)))))
    refine Zq rfl (by first|exact Ql Yr (.tmp rfl) rfl rfl|exact Ql Yr (.tmp rfl) (QH (SetT.cs_length _ _) rfl) (SetT.cs_length _ _)) ?_
    refine JL.alloc z82 rfl rfl fun b8=>Zq rfl (QW.assign (.tmp rfl)) ?_
    first|refine Qc 0 Yr (.tmp rfl) rfl (.tmp rfl) (by first|rfl|assumption) rfl rfl rfl ?_|refine Qc 0 Yr (.tmp rfl) rfl (.tmp rfl) (by first|rfl|assumption) rfl (SetT.cs_length _ _) rfl ?_|refine Qc 0 Yr (.tmp rfl) rfl (.tmp rfl) (by first|rfl|assumption) (SetT.cs_length _ _) rfl rfl ?_|refine Qc 0 Yr (.tmp rfl) rfl (.tmp rfl) (by first|rfl|assumption) (SetT.cs_length _ _) (SetT.cs_length _ _) rfl ?_|refine JL.store_box 0 Yr (.tmp rfl) rfl (.tmp rfl) (by first|rfl|assumption) rfl rfl rfl rfl ?_|refine JL.store_box 0 Yr (.tmp rfl) rfl (.tmp rfl) (by first|rfl|assumption) (SetT.cs_length _ _) rfl rfl rfl ?_
    refine Zn (J.seq (QU Uc (Zf 0 [] rfl (fun _=>QW.move (.tmp rfl)) (Zf 1 [33] rfl (fun _=>QG (.tmp rfl)) (Zf 2 [34] rfl (fun _=>Qa Lh (.tmp rfl) rfl) (Zf 3 [35] rfl (fun _=>Qa Li (.tmp rfl) rfl) (Zo 4 1 [36] rfl (fun _ ho_=>Qf 1 Qj (.tmp rfl) ho_ (MZ 0) vl) (Zf 5 [] rfl (fun _=>Qa B7 (.tmp rfl) rfl) (Zo 6 0 [38] rfl (fun _ ho_=>Qb 0 U9 (.tmp rfl) ho_ rfl) ?_)))))))))
    refine Zf 7 [39] rfl (fun _=>QW.build (idx:=[0,1]) F4 Fu rfl (.cons .const (.cons (.tmp rfl) .nil)) rfl rfl rfl rfl) (Zf 8 [40] rfl (fun _=>QW.buildSlice (idx:=[0]) (xs:=StT.css [⟨true,l[i].key,0⟩]) NG Qan Fu rfl (.cons (.tmp rfl) .nil) rfl rfl rfl rfl rfl rfl rfl rfl rfl) (Zf 9 [] rfl (fun _=>QW.move (Ev.le (.tmp rfl) (.fact (by simp) (.refl (.sl true false eV (V.css true vs)))))) ?_))
    refine Zf 10 [] rfl (fun _=>QW.move (.tmp rfl)) (Zf 11 [42,43] rfl (fun _=>Qi QO Qj rfl (.tmp rfl) (.tmp rfl) (by first|rfl|omega|(simp;done)) (by exact V.css_getE _ hlv)) ?_)
    refine Zf 12 [44] rfl (fun _=>by first|exact Ql Qj (.tmp rfl) rfl rfl|exact Ql Qj (.tmp rfl) (QH vl rfl) vl) ?_
    refine Zf 13 [37,41,45] rfl (fun _=>QW.call Dp (.cons (.tmp rfl) (.cons (.tmp rfl) (.cons (Ev.le (.tmp rfl) (Kd _)) .nil))) (T0 (fr:=false) (v:=st) (x:=vs[i]) (p:=[⟨true,l[i].key,0⟩]) Vc.self Vc.self hst.wf (hvg _ (List.getElem_mem hlv)).wf (ND ⟨(hw _ (List.getElem_mem hlt)).key,show(-9223372036854775808:Int)≤0∧(0:Int)≤9223372036854775807 by decide⟩))) ?_
    refine Zf 14 [46] rfl (fun _=>QW.move (.tmp rfl)) (Zf 15 [32] rfl (fun _=>QW.extract (.tmp rfl) rfl) (Zf 16 [32] rfl (fun _=>QW.extract (.tmp rfl) rfl) (JX.a 17 rfl (AllocOp.mk WQ rfl) rfl rfl rfl rfl rfl (JX.one 18 [true,false,true,true,true,true,true,true,true,true,true,true,true,true,true,true,true,true] rfl (by kernel_rfl) (by kernel_rfl) rfl rfl (by kernel_rfl) rfl fun bs18_ pe_ ex_=>?_))))
    refine JL.conv (by(try simp only[Ua,Uj,Q5,QS,Flt.val,Flt.bx,nx,nl,Qk,Qz,QA,Qy,QR,AV.cellsOf,Qd,Qe,Nat.reduceAdd]);rfl) ?_
    first|refine Qc 2 Qj (.tmp rfl) rfl (.tmp rfl) (by first|rfl|assumption) rfl rfl rfl ?_|refine Qc 2 Qj (.tmp rfl) rfl (.tmp rfl) (by first|rfl|assumption) rfl vl rfl ?_|refine Qc 2 Qj (.tmp rfl) rfl (.tmp rfl) (by first|rfl|assumption) vl rfl rfl ?_|refine Qc 2 Qj (.tmp rfl) rfl (.tmp rfl) (by first|rfl|assumption) vl vl rfl ?_|refine JL.store_box 2 Qj (.tmp rfl) rfl (.tmp rfl) (by first|rfl|assumption) rfl rfl rfl rfl ?_|refine JL.store_box 2 Qj (.tmp rfl) rfl (.tmp rfl) (by first|rfl|assumption) vl rfl rfl rfl ?_
    refine JL.nil ?_
    refine thenQ.n ⟨[],_,rfl,rfl,rfl,rfl,rfl,QJ 3 rfl,trivial,⟨trivial,trivial⟩,?_⟩
    refine JX.conv (S':=[18,17,15,14,13,12,11,10,9,8,7,6,5,4,3,2,1,0]) rfl (by(try simp only[QS]);rfl) (by(try simp only[Ua,Uj,Q5,QS,Flt.val,Flt.bx,nx,nl,Qk,Qz,QA,Qy,QR,AV.cellsOf,Qd,Qe,Nat.reduceAdd]);rfl) ?_
    refine Zf 19 [48] rfl (fun _=>QW.assign (.tmp rfl)) (JX.fin (by kernel_rfl) (by kernel_rfl) fun bs_=>?_)
    refine QX.conv (by(try simp only[Ua,Uj,Q5,QS,Flt.val,Flt.bx,nx,nl,Qk,Qz,QA,Qy,QR,AV.cellsOf,Qd,Qe,Nat.reduceAdd]);rfl) ?_
    refine thenQ.n (J.seq (Zs (Zq rfl (QW.move (.tmp rfl)) (Zq rfl (QW.neq (.tmp rfl) .const) (Zn ?_)))))
    refine J.cond (.tmp rfl) (fun c3=>?_) (fun c3=>?_)
    · skip
      have hb:¬(st.setv [⟨true,l[i].key,0⟩] vs[i]).2=0:=by simpa using c3
      refine Qg (Zq rfl (WO ⟨_,Tryz.underlying33,by intro ms h;cases h⟩ .const) ?_)
      refine JL.panic (.tmp rfl) (thenQ.p (blkQ.p (thenQ.p (thenQ.p (blkQ.p ?_)))))
      exact⟨_,QN [.k,.k,.k] _,_,rfl,rfl,Qn [.k,.k,.k] _,StR.er (c:=84) (FI hevs (hput.trans (by rw[Rw hlt hlv,Sf hb]))) (by decide)⟩
    have hg:(st.setv [⟨true,l[i].key,0⟩] vs[i]).2=0:=by simpa using c3
    refine Zk (Qg (Zq rfl (QW.move (.tmp rfl)) (Zq rfl (by first|exact Qf 2 Qj (.tmp rfl) rfl rfl rfl|exact Qf 2 Qj (.tmp rfl) rfl (Qm vl rfl) vl) ?_)))
    refine Zq rfl (QG (.tmp rfl)) (Zq rfl (Qa Lh (.tmp rfl) rfl) (Zq rfl (Qa Li (.tmp rfl) rfl) (JL.store_box 1 Qj (.tmp rfl) rfl (Ev.le (.tmp rfl) (Kd _)) rfl vl (by rw[Hm];rfl) Bm rfl ?_)))
    refine JL.nil (blkQ.n (thenQ.n (Qg (Zq rfl (QW.add (.tmp rfl) .const (by first|exact U5 (by first|rfl|omega|(simp;done)) (by omega)|exact WW (by omega)|rfl)) ?_))))
    refine Zq rfl (QW.move (.tmp rfl)) (Zn ?_)
    rw[Rw hlt hlv,put_go hg]at hput
    exact⟨⟨i+1,(st.setv [⟨true,l[i].key,0⟩] vs[i]).1⟩,⟨hlt,KP hst ⟨(hw _ (List.getElem_mem hlt)).key,show(-9223372036854775808:Int)≤0∧(0:Int)≤9223372036854775807 by decide⟩ (hvg _ (List.getElem_mem hlv)) (H6 hg),hput⟩,by show l.length-(i+1)<l.length-i;omega,QK (.cons rfl lr (.cons rfl lr (.cons rfl lr (.cons rfl lr (.cons rfl lr .nil))))) (((Reown.drop [_] [_,_]).trans ((Reown.perm (List.Perm.swap _ _ _)).trans (Reown.drop [_] [_])))) (fun _ h=>by first|exact h|simp[h])⟩
  have hge2:l.length≤i:=by simpa[SetT.css_length]using c2
  exact J.exit (Qv (Qv (QM (Zr [.p] (Up rfl) rfl (StR.ok (Lx hevs (hput.trans (by rw[List.drop_of_length_le (by simp;omega)];rfl))))))))

end
section
/- A drawn region that reads a variable and sets it at its end. -/
section
variable {P:Program} {E:WV} {Q:Exit→St→Prop} {n:Nat} {env:List (Nat×AV)} {own:List Own} {F:List (Value×AV)} {D:List Deferred} {ops:Array Oper}
theorem JX.last{S:List Nat}{Φ:List Flt}(i:Nat){o:Oper}(ho:ops[i]? =some o)(hbk:Xg 0 ops.toList=true)(hblk:blkB ops.toList S (Φ.map (·.i)) i=true)(hS:memB i S=false)(hΦ:memB i (Φ.map (·.i))=false)
    (hlnd:RY ops.toList o [] (Φ.map (·.i))=true) (hall:((List.range ops.size).all fun j=>Nat.beq j i||memB j S||memB j (Φ.map (·.i)))=true)
    (h:∀bs,JL P E ops [o] ⟨n,Ua bs Φ++env,own++Uj bs Φ,F,D⟩ (thenQ (fun s=>Q .normal s) Q)):JX P E ops S Φ ⟨n,env,own,F,D⟩ Q:=fun hw hF=>by
  have hlt:i<ops.size:=(Array.getElem?_eq_some_iff.1 ho).1
  intro fuel
  induction fuel with
  |zero=>
    intro L bs A a w hc hcf
    exfalso
    have hi:L.getD i true=false:=by
      rw[Ue (by rw[hcf.size];exact hlt)]
      exact hcf.no i (fun h=>by rw[Q3.2 h]at hS;cases hS) fun φ hφ he=>by rw[Q3.2 (List.mem_map.2 ⟨φ,hφ,he⟩)]at hΦ;cases hΦ
    have:=List.countP_eq_zero.1 (Nat.le_zero.1 hc) i (by simpa using hlt)
    simp[hi]at this
  |succ fuel ih=>
    intro L bs A a w hc hcf
    have hundone:L.getD i false=false:=hcf.no i (fun h=>by rw[Q3.2 h]at hS;cases hS) fun φ hφ he=>by rw[Q3.2 (List.mem_map.2 ⟨φ,hφ,he⟩)]at hΦ;cases hΦ
    refine⟨fun hr=>?_,fun j hj=>?_⟩
    · exfalso
      have key:∀j,j<ops.size→L.getD j false=true:=by
        intro j
        induction j using Nat.strongRecOn with
        |_ j ihj=>
          intro hjl
          cases hL:L.getD j false with
          |true=>rfl
          |false=>
            exfalso
            obtain⟨oj,hoj⟩:∃oj,ops[j]? =some oj:=⟨_,Array.getElem?_eq_getElem hjl⟩
            have:j∈Region.ready .any ops L:=Yu hcf.size hoj (by rw[Ue (by rw[hcf.size];exact hjl)];exact hL) fun e he hb=>by
              have hon:=Yn hbk (i:=j) (o:=oj) (by simpa using hoj) e he hb
              exact ihj e.on (by omega) (by omega)
            rw[hr]at this
            cases this
      rw[key i hlt]at hundone;cases hundone
    · obtain⟨hjl,oj,hoj,hunj,hdeps⟩:=Wg hj
      have hunj':L.getD j false=false:=by rw[← Ue (by rw[hcf.size];exact hjl)];exact hunj
      by_cases hjΦ:∃φ∈Φ,φ.i=j
      · obtain⟨φ,hφ,rfl⟩:=hjΦ
        exact hcf.run hw hF hφ hunj' hjl (fun o' ho'=>by rw[hoj]at ho';cases ho';exact hdeps) fun bs' A' a' w' hcf'=>ih _ bs' A' a' w' (KZ hcf.size hjl hunj hc) hcf'
      · have hji:j=i:=by
          by_cases he:j=i
          · exact he
          · exfalso
            have h1:=List.all_eq_true.1 hall j (by simpa using hjl)
            have h2:memB j S=false:=by
              cases hb:memB j S with
              |false=>rfl
              |true=>rw[hcf.yes j (Q3.1 hb)]at hunj';cases hunj'
            have h3:memB j (Φ.map (·.i))=false:=by
              cases hb:memB j (Φ.map (·.i))with
              |false=>rfl
              |true=>
                obtain⟨φ,hφ,hφi⟩:=List.mem_map.1 (Q3.1 hb)
                exact absurd ⟨φ,hφ,hφi⟩ hjΦ
            have h4:Nat.beq j i=false:=by
              cases hb:Nat.beq j i with
              |false=>rfl
              |true=>exact absurd (Nat.eq_of_beq_eq_true hb) he
            rw[h2,h3,h4]at h1
            simp at h1
        subst hji
        rw[ho]at hoj;cases hoj
        have hland:∀φ∈Φ,L.getD φ.i false=true:=fun φ hφ=>KR hcf.clo hdeps _ _ (fun o' h=>by cases h) hlnd φ.i (List.mem_map.2 ⟨φ,hφ,rfl⟩)
        have hdn:∀z,z<ops.size→z≠j→L.getD z false=true:=fun z hz hne=>by
          have h1:=List.all_eq_true.1 hall z (by simpa using hz)
          rw[Bool.or_eq_true,Bool.or_eq_true]at h1
          rcases h1 with (h1|h1)|h1
          · exact absurd (Nat.eq_of_beq_eq_true h1) hne
          · exact hcf.yes z (Q3.1 h1)
          · obtain⟨φ,hφ,rfl⟩:=List.mem_map.1 (Q3.1 h1)
            exact hland φ hφ
        have hsat0:SatA E A ⟨n,Ua bs Φ++env,own++Uj bs Φ,F,D⟩ a w:=by
          have h1:=hcf.sat
          rw[KF hland]at h1
          refine⟨h1.size,h1.defers,h1.keep,h1.hp,fun s x hl=>?_,h1.facts⟩
          rcases Gm hl with ⟨φ,hφ,rfl,rfl⟩|hl
          · exact hcf.val φ hφ (hland φ hφ)
          · exact hcf.sat.env s x hl
        have hl:=h bs a w ⟨A,hsat0⟩
        have hK:∀a' w',wpListIn (Xy E.rd) 0 P ops (Ws E (thenQ (fun s=>Q .normal s) Q)) [] a' w'→wpAnyIn (Xy E.rd) 0 P .any ops (Ws E Q) fuel (L.setIfInBounds j true) a' w':=by
          intro a' w' hq
          have hq':Ws E Q .normal a' w':=hq
          have hnil:Region.ready .any ops (L.setIfInBounds j true)=[]:=by
            rw[List.eq_nil_iff_forall_not_mem]
            intro z hz
            obtain⟨hzl,oz,hoz,hun,_⟩:=Wg hz
            have hlts:j<L.size:=by rw[hcf.size];exact hlt
            rw[Ue (by simpa[hcf.size]using hzl),Uh _ _ _ hlts]at hun
            by_cases hzj:z=j
            · rw[if_pos hzj]at hun;cases hun
            · rw[if_neg hzj,hdn z hzl hzj]at hun;cases hun
          cases fuel with
          |zero=>exact⟨hnil,hq'⟩
          |succ fuel=>exact⟨fun _=>hq',fun z hz=>by rw[hnil]at hz;cases hz⟩
        unfold wpOpIn
        simp only[ho]
        unfold wpListIn at hl
        split
        · rename_i hw'
          rw[if_pos hw']at hl
          exact Ya (fun ch a w h=>Hq (by intro h;cases h) h) (fun h=>by first|exact fun a w=>Hq (by intro h;cases h) (h a w)|exact h) (Oper.wpIn_mono hK hl)
        · rename_i hw'
          rw[if_neg hw']at hl
          exact⟨hl.1,hK _ _ hl.2⟩
theorem HG(kp:List Nat){id:Nat}{l:List Oper}(hm:P.follows .mixedOrders=true)(h:JX P E l.toArray [] [] ⟨n,U7 ((WU l).filter fun k=>!kp.any (Nat.beq k)) env,own,F,D⟩ Q):J P E (.region id l.toArray true) ⟨n,env,own,F,D⟩ Q:=fun a w ⟨A,hA⟩=>by
  have h0:∀i,(Array.replicate l.toArray.size false).getD i false=false:=fun i=>by simp only[Array.getD_eq_getD_getElem?,Array.getElem?_replicate];split<;>simp
  have hd:=hA.drawn
  refine wpIn_region_any hm (h ⟨List.nodup_nil,List.nodup_nil,fun φ h=>(by cases h),fun φ h=>(by cases h)⟩ (fun φ h=>by cases h) l.toArray.size _ (fun _=>0) A a _ (Nat.le_trans List.countP_le_length (by simp)) ⟨by simp,fun i h=>(by cases h),fun i _ _=>h0 i,fun i o _ hL=>(by rw[h0]at hL;cases hL),?_,fun φ h=>by cases h⟩)
  have:XN (Array.replicate l.toArray.size false) (fun _=>0) []=[]:=rfl
  rw[this,List.append_nil]
  exact⟨hd.size,hd.defers,hd.keep,hd.hp,fun s y hl=>hd.env s y (WT (fun k=>!(((WU l).filter fun k=>!kp.any (Nat.beq k)).any (Nat.beq k))) env s y hl).1,hd.facts⟩
end

end
section
/- Walks: the runner: what it asks for. -/
set_option maxRecDepth 10000
set_option maxHeartbeats 4000000
def Ky(es:List EvT)(r:ER (List EvT)):ER (List EvT):=match r with
  |.error c=>.error c
  |.ok (l,f)=>.ok (es++l,f)
theorem M5(r:ER (List EvT)):r=Ky [] r:=by cases r<;>rfl
theorem Td(s:ScT)(es:List EvT)(f:Int):Ky es (WY s [] f)=.ok (es,f):=by simp[Ky,WY]
theorem Te{l:List EmT}{s:ScT}{j:Nat}{es:List EvT}{g c:Int}(h:j<l.length)(hc:UW (l[j].wh.ev s g)=.error c):Ky es (WY s (l.drop j) g)=.error c:=by
  rw[List.drop_eq_getElem_cons h,WY,hc];rfl
theorem ems_no{l:List EmT}{s:ScT}{j:Nat}{es:List EvT}{g g2:Int}(h:j<l.length)(hc:UW (l[j].wh.ev s g)=.ok (false,g2)):Ky es (WY s (l.drop j) g)=Ky es (WY s (l.drop (j+1)) g2):=by
  rw[List.drop_eq_getElem_cons h,WY,hc]
theorem Pu{l:List EmT}{s:ScT}{j:Nat}{es:List EvT}{g g2 c:Int}(h:j<l.length)(hc:UW (l[j].wh.ev s g)=.ok (true,g2))(h2:l[j].ar.ev s g2=.error c):Ky es (WY s (l.drop j) g)=.error c:=by
  rw[List.drop_eq_getElem_cons h,WY,hc];simp only[];rw[h2];rfl
theorem EZ{l:List EmT}{s:ScT}{j:Nat}{es:List EvT}{g g2 g3:Int}{v:V}(h:j<l.length)(hc:UW (l[j].wh.ev s g)=.ok (true,g2))(h2:l[j].ar.ev s g2=.ok (v,g3)):Ky es (WY s (l.drop j) g)=Ky (es++[⟨l[j].nm,v⟩]) (WY s (l.drop (j+1)) g3):=by
  rw[List.drop_eq_getElem_cons h,WY,hc];simp only[];rw[h2];simp only[]
  cases WY s (l.drop (j+1)) g3 with
  |error c=>rfl
  |ok p=>obtain⟨q,f⟩:=p;simp[Ky]
theorem MK(es:List EvT)(e:EvT):EvT.css true es++[e.cs true]=EvT.css true (es++[e]):=by simp[EvT.css]
def EmR(r:ER (List EvT))(b:Nat)(s:ScT):W1→List Own→Prop:=PanR (XJ r=0) (YR (XJ r)) fun x o=>∃es f',r=.ok (es,f')∧x=.sl true false MH (EvT.css true es)∧o=[mb b s f']
theorem EmR.ok{r:ER (List EvT)}{b:Nat}{s:ScT}{es:List EvT}{f':Int}(h:r=.ok (es,f')):EmR r b s (.ret (.sl true false MH (EvT.css true es))) [mb b s f']:=.inl ⟨by rw[h];rfl,_,rfl,es,f',h,rfl,rfl⟩
theorem EmR.er{r:ER (List EvT)}{b:Nat}{s:ScT}{c:Int}(h:r=.error c)(hc:¬c=0):EmR r b s (.pan (.iface 33 (.int .i64 c))) []:=.inr ⟨by rw[h];exact hc,by rw[h];rfl,rfl⟩
theorem ES{c a0 a1 a2 a3 a4 a5:AV}{z:List AV}(hz:z.length=5):Ym ([(0,1),(1,5)].toArray[·]?) [a0,a1,a2,a3,a4,a5] [(0,[c]),(1,z)]=some (c::z):=by
  have h1:QT [c,a1,a2,a3,a4,a5] 1 z=c::z:=by
    rw[Qe,UY (by rw[hz];rfl)]
  simp[Ym,Qd,hz,h1]
theorem Cr{l:List EmT}{s:ScT}{f:Int}{b:Nat}{fr:Bool}(h8:l.length≤8)(hw:∀x∈l,x.wf)(hf:∀x∈l,x.wh.Fine∧x.ar.Fine)(hs:s.good)(h0:KQ f):
    AC Tryz.prog 56 [mb b s f] [pb b,.sl fr false eEm (EmT.css fr l)] (EmR (WY s l f) b s):=by
  refine AC.of_J Tryz.func56 rfl Tryz.ntmps56 rfl fun w0 A0=>?_
  refine Zs (Zq rfl (QW.assign .const) (Zn (J.seq (Zs (Zq rfl (QW.move (.tmp rfl)) (Zq rfl (by first|exact Qh YY (.tmp rfl) wl|exact Qh YY (.tmp rfl) (EmT.css_length _ _)|exact Qh YY (.tmp rfl) (EvT.css_length _ _)|exact Qr YY (.tmp rfl)|exact QW.len_nil YY (.tmp rfl)) ?_))))))
  refine Zq rfl (QW.move .const) (Zn (J.block (J.reown (Uf MH _) (Q0 (ι:=Nat×Value×List EvT×Int) [0,9,10] (fun⟨j,v,es,g1⟩=>[(11,.c (.int .i64 (j:Int))),(4,.c v)]) (fun⟨j,v,es,g1⟩ oo=>List.set (List.set oo 1 (.arr v MH (EvT.css true es))) 0 (mb b s g1)) (fun⟨j,v,es,g1⟩=>j≤l.length∧es.length≤j∧KQ g1∧WY s l f=Ky es (WY s (l.drop j) g1)) (fun⟨j,v,es,g1⟩=>l.length-j) ⟨0,.slice none 0 0,[],f⟩ (⟨Nat.zero_le _,Nat.le_refl _,h0,M5 _⟩) (QK (.cons rfl lr (.cons rfl lr (.cons rfl lr (.cons rfl lr (.cons rfl lr .nil))))) (Reown.refl _) (fun _ h=>by first|exact h|simp[h])) ?_))))
  intro⟨j,v,es,g1⟩ ⟨hj,hel,hg1,hem⟩
  refine J.conv (by(try simp only[nl,Qk,Qz,QA,Qy,QR,AV.cellsOf,Qd,Qe,Nat.reduceAdd]);rfl) ?_
  refine Zs (Zq rfl (QW.lss (.tmp rfl) (.tmp rfl)) (Zn (J.seq ?_)))
  refine J.cond (.tmp rfl) (fun c1=>?_) (fun c1=>?_)
  · skip
    have hlt:j<l.length:=by simpa[EmT.css_length]using c1
    refine Zk (J.seq (J.block (Zs (Zq rfl (Qi YY Kl rfl (.tmp rfl) (.tmp rfl) (by first|rfl|omega|(simp;done)) (by exact EmT.css_getE _ hlt)) ?_))))
    refine Zq rfl (by first|exact Ql Kl (.tmp rfl) rfl rfl|exact Ql Kl (.tmp rfl) (QH (EmT.cs_length _ _) rfl) (EmT.cs_length _ _)) ?_
    refine JL.alloc z86 rfl rfl fun b6=>?_
    first|refine Qc 0 Kl (.tmp rfl) rfl (.tmp rfl) (by first|rfl|assumption) rfl rfl rfl ?_|refine Qc 0 Kl (.tmp rfl) rfl (.tmp rfl) (by first|rfl|assumption) rfl (EmT.cs_length _ _) rfl ?_|refine Qc 0 Kl (.tmp rfl) rfl (.tmp rfl) (by first|rfl|assumption) (EmT.cs_length _ _) rfl rfl ?_|refine Qc 0 Kl (.tmp rfl) rfl (.tmp rfl) (by first|rfl|assumption) (EmT.cs_length _ _) (EmT.cs_length _ _) rfl ?_|refine JL.store_box 0 Kl (.tmp rfl) rfl (.tmp rfl) (by first|rfl|assumption) rfl rfl rfl rfl ?_|refine JL.store_box 0 Kl (.tmp rfl) rfl (.tmp rfl) (by first|rfl|assumption) (EmT.cs_length _ _) rfl rfl rfl ?_
    refine Zn (Zs (Zq rfl (QW.move (.tmp rfl)) (Zq rfl (Qa B2 (.tmp rfl) rfl) (Zq rfl (Qf 0 Uz (.tmp rfl) rfl EmT.at0 xl) ?_))))
    refine Qs [.k,.p] Dq rfl Lent.nil (fun _=>(.cons (.tmp rfl) (.cons (.tmp rfl) .nil))) (Gg (e:=l[j].wh) (s:=s) (f:=g1) Xc.self (hw _ (List.getElem_mem hlt)).wh (hf _ (List.getElem_mem hlt)).1 hs hg1) (.inl rfl) (fun k19 x19 o19 h19=>?_) (fun k19=>?_)
    rotate_left
    · skip
      refine thenQ.p (blkQ.p (thenQ.p (thenQ.p (blkQ.p (thenQ.p ?_)))))
      exact⟨_,QN [.k,.k] _,_,rfl,rfl,Qn [.k,.k] _,EmR.er (hem.trans (Te hlt (Ec (Wh k19)))) k19⟩
    obtain⟨v19,f19,hv19,rfl,rfl⟩:=h19
    obtain⟨hgv,hfv⟩:=Kb (hw _ (List.getElem_mem hlt)).wh (hf _ (List.getElem_mem hlt)).1 hs hg1 hv19
    refine Zq rfl (QW.call gofn65 (.cons (.tmp rfl) .nil) (Pp (v:=v19) Vc.self hgv.wf)) (Zq rfl (QW.move (.tmp rfl)) (Zq rfl (QW.extract (.tmp rfl) rfl) (Zq rfl (QW.extract (.tmp rfl) rfl) (Zq rfl (QW.assign (.tmp rfl)) (Zq rfl (QW.assign (.tmp rfl)) (Zn (J.seq (Zs (Zq rfl (QW.move (.tmp rfl)) ?_)))))))))
    refine Zq rfl (QW.neq (.tmp rfl) .const) (Zn ?_)
    refine J.cond (.tmp rfl) (fun c2=>?_) (fun c2=>?_)
    · skip
      have hk:¬v19.kind=1:=fun h=>by rw[show HK v19=(v19.bits==1,0)from if_neg (fun h2=>h2.elim (fun h3=>h3 h) (fun h3=>h3 hgv.err))]at c2;simp at c2
      have h81:HK v19=(false,81):=if_pos (.inl hk)
      rw[h81]
      refine Qg (Zq rfl (QW.move (.tmp rfl)) (Zq rfl (WO ⟨_,Tryz.underlying33,by intro ms h;cases h⟩ (.tmp rfl)) ?_))
      refine JL.panic (.tmp rfl) (thenQ.p (blkQ.p (thenQ.p (thenQ.p (blkQ.p (thenQ.p ?_))))))
      exact⟨_,QN [.k,.k,.k] _,_,rfl,rfl,Qn [.k,.k,.k] _,EmR.er (c:=81) (hem.trans (Te hlt (Eb hv19 hk))) (by decide)⟩
    have hk:v19.kind=1:=Decidable.byContradiction fun h=>by rw[show HK v19=(false,81)from if_pos (.inl h)]at c2;simp at c2
    have ht1:HK v19=(v19.bits==1,0):=if_neg (fun h2=>h2.elim (fun h3=>h3 hk) (fun h3=>h3 hgv.err))
    rw[ht1]
    have htr:=GG hv19 hk
    refine Zk (Zs (Zq rfl (QW.move (.tmp rfl)) (Zn ?_)))
    refine J.cond (.tmp rfl) (fun c3=>?_) (fun c3=>?_)
    · skip
      have hb1:(v19.bits==1)=true:=c3
      rw[hb1]at htr
      refine HG [4] Uc (Zf 0 [] rfl (fun _=>QW.move (.tmp rfl)) (Zf 1 [] rfl (fun _=>Qa B1 (.tmp rfl) rfl) (Zo 2 0 [29] rfl (fun _ ho_=>Qb 0 U9 (.tmp rfl) ho_ E8) (Zf 3 [] rfl (fun _=>QW.move (.tmp rfl)) (Zf 4 [] rfl (fun _=>Qa B0 (.tmp rfl) rfl) (Zo 5 0 [32] rfl (fun _ ho_=>Qf 0 Uz (.tmp rfl) ho_ EmT.at5 xl) (JX.one 6 [true,true,true,false,false,false] rfl (by kernel_rfl) (by kernel_rfl) rfl rfl (by kernel_rfl) rfl fun bs6_ pe_ ex_=>?_)))))))
      refine JL.conv (by(try simp only[Ua,Uj,Q5,QS,Flt.val,Flt.bx,nx,nl,Qk,Qz,QA,Qy,QR,AV.cellsOf,Qd,Qe,Nat.reduceAdd]);rfl) ?_
      refine Qs [.k,.p] Dq rfl Lent.nil (fun _=>(.cons (.tmp rfl) (.cons (.tmp rfl) .nil))) (Gg (e:=l[j].ar) (s:=s) (f:=f19) Xc.self (hw _ (List.getElem_mem hlt)).ar (hf _ (List.getElem_mem hlt)).2 hs hfv) (.inl rfl) (fun k34 x34 o34 h34=>?_) (fun k34=>?_)
      rotate_left
      · skip
        refine thenQ.p (blkQ.p (thenQ.p (thenQ.p (blkQ.p (thenQ.p ?_)))))
        exact⟨_,QN [.k,.k] _,_,rfl,rfl,Qn [.k,.k] _,EmR.er (hem.trans (Pu hlt htr (Wh k34))) k34⟩
      obtain⟨v34,f34,hv34,rfl,rfl⟩:=h34
      refine JL.nil ?_
      refine thenQ.n ⟨[_],_,rfl,rfl,rfl,rfl,rfl,Wp 3 rfl rfl,⟨rfl,rfl⟩,⟨rfl,⟨trivial,⟨trivial,trivial⟩⟩⟩,?_⟩
      refine JX.conv (S':=[6,5,4,3]) rfl (by(try simp only[QS]);rfl) (by(try simp only[Ua,Uj,Q5,QS,Flt.val,Flt.bx,nx,nl,Qk,Qz,QA,Qy,QR,AV.cellsOf,Qd,Qe,Nat.reduceAdd]);rfl) ?_
      refine Zf 7 [30,34] rfl (fun _=>QW.build (idx:=[0,1]) pl51 z51 rfl (.cons (.tmp rfl) (.cons (.tmp rfl) .nil)) rfl rfl rfl (by exact ES vl)) ?_
      refine Zf 8 [35] rfl (fun _=>QW.buildSlice (idx:=[0]) (xs:=[EvT.cs true ⟨l[j].nm,v34⟩]) (zs:=[AV.agg (EvT.cs true ⟨l[j].nm,v34⟩)]) W3 C1 z51 rfl (.cons (.tmp rfl) .nil) rfl rfl rfl rfl rfl (by exact KW (EvT.cs_length _ _)) rfl (HA (EvT.cs_length _ _)) rfl) ?_
      refine JX.one 9 [true,true,true,true,true] rfl (by kernel_rfl) (by kernel_rfl) rfl rfl (by kernel_rfl) rfl fun bs9_ pe_ ex_=>?_
      refine JL.conv (by(try simp only[Ua,Uj,Q5,QS,Flt.val,Flt.bx,nx,nl,Qk,Qz,QA,Qy,QR,AV.cellsOf,Qd,Qe,Nat.reduceAdd]);rfl) ?_
      refine JL.append 2 W3 C1 rfl (.tmp rfl) rfl (UL W3 (.tmp rfl)) (by rw[EvT.css_length];show(_+1)*96≤_;unfold Qu;omega) rfl fun v37=>?_
      refine JL.nil ?_
      refine thenQ.n ⟨[_],_,rfl,rfl,rfl,rfl,rfl,QJ 3 rfl,⟨rfl,rfl⟩,trivial,?_⟩
      refine JX.conv (S':=[9,8,7,2,1,0,6,5,4,3]) rfl (by(try simp only[QS]);rfl) (by(try simp only[Ua,Uj,Q5,QS,Flt.val,Flt.bx,nx,nl,Qk,Qz,QA,Qy,QR,AV.cellsOf,Qd,Qe,Nat.reduceAdd]);rfl) ?_
      refine JX.last 10 rfl (by kernel_rfl) (by kernel_rfl) rfl rfl (by kernel_rfl) (by kernel_rfl) fun bs_=>?_
      refine JL.conv (by(try simp only[Ua,Uj,Q5,QS,Flt.val,Flt.bx,nx,nl,Qk,Qz,QA,Qy,QR,AV.cellsOf,Qd,Qe,Nat.reduceAdd]);rfl) ?_
      refine Zq rfl (QW.assign (.tmp rfl)) (Zn (blkQ.n (thenQ.n (Qg (Zq rfl (QW.add (.tmp rfl) .const (by first|exact U5 (by first|rfl|omega|(simp;done)) (by omega)|exact WW (by omega)|rfl)) ?_)))))
      refine Zq rfl (QW.move (.tmp rfl)) (Zn ?_)
      rw[MK]
      have hfv2:=(Kb (hw _ (List.getElem_mem hlt)).ar (hf _ (List.getElem_mem hlt)).2 hs hfv hv34).2
      exact⟨⟨j+1,v37,es++[⟨l[j].nm,v34⟩],f34⟩,⟨hlt,by simp;omega,hfv2,hem.trans (EZ hlt htr hv34)⟩,by show l.length-(j+1)<l.length-j;omega,QK (.cons rfl lr (.cons rfl lr (.cons rfl lr (.cons rfl lr (.cons rfl lr .nil))))) (Q9 1 _ rfl) (fun _ h=>by first|exact h|simp[h])⟩
    have hb1:(v19.bits==1)=false:=by simpa using c3
    rw[hb1]at htr
    refine J.skip (blkQ.n (thenQ.n (Qg (Zq rfl (QW.add (.tmp rfl) .const (by first|exact U5 (by first|rfl|omega|(simp;done)) (by omega)|exact WW (by omega)|rfl)) ?_))))
    refine Zq rfl (QW.move (.tmp rfl)) (Zn ?_)
    exact⟨⟨j+1,v,es,f19⟩,⟨hlt,by omega,hfv,hem.trans (ems_no hlt htr)⟩,by show l.length-(j+1)<l.length-j;omega,QK (.cons rfl lr (.cons rfl lr (.cons rfl lr (.cons rfl lr (.cons rfl lr .nil))))) (Q9 1 _ rfl) (fun _ h=>by first|exact h|simp[h])⟩
  have hge:l.length≤j:=by simpa[EmT.css_length]using c1
  rw[List.drop_of_length_le hge,Td]at hem
  refine J.exit (Qv (Qv (QM (thenQ.n (J.seq (J.closeArr 1 rfl (by rw[EvT.css_length];show _*96≤_;unfold Qu;omega) rfl (fun z hz=>by simp only[mb,QV,UT,Own.fp,List.append_nil,List.mem_singleton]at hz;subst hz;simp[mb,QV,Own.fp]) ?_))))))
  exact Qg (Zq rfl (QW.move (.tmp rfl)) (Zq rfl (QW.assign (.tmp rfl)) (Zn (J.ret (Zr [.p] (RetEv.one rfl (REv.tmp rfl (.fact (by simp) lr))) rfl (EmR.ok hem))))))

end
section
/- Walks: a handler runs. -/
set_option maxRecDepth 10000
set_option maxHeartbeats 4000000
def HQ(r:V×List EvT×Int):AV:=.tup [.agg (r.1.cs false),.sl false false MH (EvT.css false r.2.1),.c (.int .i64 r.2.2)]
theorem run_le{F:List (Value×AV)}{k1 k2:Int}{b1 b2:Nat}{t1 t2:Ui}{ks1 ks2:List Ui}{is1 is2:List V}{fr:Bool}:
    Le F (.agg ((V.mk k1 b1 t1 ks1 is1).cs true++((V.mk k2 b2 t2 ks2 is2).cs fr++(zV++[AV.c (.int .i64 4096)])))) (.agg ((V.mk k1 b1 t1 ks1 is1).cs false++(V.mk k2 b2 t2 ks2 is2).cs false++V.nil.cs false++[AV.c (.int .i64 4096)])):=
  .aggL (by
    rw[List.append_assoc,List.append_assoc]
    exact LeL.append (V.cs_le true false (fun h=>by cases h) _) (LeL.append (V.cs_le fr false (fun h=>by cases h) _) (LeL.append (.cons (.refl _) (.cons (.refl _) (.cons (.refl _) (.cons (.nil false false _) (.cons (.nil false false _) .nil))))) (.cons (.refl _) .nil))))
theorem RI{h:HdT}{st arg:V}{c:Int}(h1:YU ⟨st,arg,.nil⟩ h.sets 4096=.error c):h.runE st arg=.error c:=by
  unfold YU at h1;unfold HdT.runE Fw
  cases he:Q8 (h.sets.map SetT.ex) ⟨st,arg,.nil⟩ 4096 with
  |error d=>rw[he]at h1;simpa using h1
  |ok p=>
    obtain⟨vs,f⟩:=p
    rw[he]at h1
    simp only[]at h1⊢
    cases hp:Wc st (h.sets.zip vs)with
    |error d=>rw[hp]at h1;simpa using h1
    |ok v=>rw[hp]at h1;cases h1
theorem NK{h:HdT}{st arg v:V}{f:Int}(h1:YU ⟨st,arg,.nil⟩ h.sets 4096=.ok (v,f)):h.runE st arg=(match WY ⟨v,arg,.nil⟩ h.ems f with
      |.error e=>.error e
      |.ok (l,_)=>.ok (v,l)):=by
  unfold YU at h1;unfold HdT.runE Fw
  cases he:Q8 (h.sets.map SetT.ex) ⟨st,arg,.nil⟩ 4096 with
  |error d=>rw[he]at h1;cases h1
  |ok p=>
    obtain⟨vs,g⟩:=p
    rw[he]at h1
    simp only[]at h1⊢
    cases hp:Wc st (h.sets.zip vs)with
    |error d=>rw[hp]at h1;cases h1
    |ok w=>rw[hp]at h1;cases h1;rfl
theorem FP{h:HdT}{st arg v:V}{f c:Int}(h1:YU ⟨st,arg,.nil⟩ h.sets 4096=.ok (v,f))(h2:WY ⟨v,arg,.nil⟩ h.ems f=.error c):h.runE st arg=.error c:=by rw[NK h1,h2]
theorem NJ{h:HdT}{st arg v:V}{f g:Int}{l:List EvT}(h1:YU ⟨st,arg,.nil⟩ h.sets 4096=.ok (v,f))(h2:WY ⟨v,arg,.nil⟩ h.ems f=.ok (l,g)):h.runE st arg=.ok (v,l):=by rw[NK h1,h2]
theorem MU:∀{l:List SetT} {vs:List V} {v w:V},(∀x∈l,x.wf)→(∀x∈vs,x.good)→v.good→Wc v (l.zip vs)=.ok w→w.good
  |[],vs,v,w,_,_,hv,h=>by cases vs<;>(simp[Wc]at h;exact h▸hv)
  |s::l,[],v,w,_,_,hv,h=>by simp[Wc]at h;exact h▸hv
  |s::l,x::vs,v,w,hl,hvs,hv,h=>by
    rw[List.zip_cons_cons,Wc]at h
    split at h
    · rename_i he
      exact MU (fun y hy=>hl y (by simp[hy])) (fun y hy=>hvs y (by simp[hy])) (KP hv ⟨(hl s (by simp)).key,show(-9223372036854775808:Int)≤0∧(0:Int)≤9223372036854775807 by decide⟩ (hvs x (by simp)) (H6 he)) h
    · cases h
theorem Ly{l:List SetT}{s:ScT}{f g:Int}{v:V}(hw:∀x∈l,x.wf)(hf:∀x∈l,x.ex.Fine)(hs:s.good)(h0:KQ f)(h:YU s l f=.ok (v,g)):v.good∧KQ g:=by
  unfold YU at h
  cases he:Q8 (l.map SetT.ex) s f with
  |error d=>rw[he]at h;cases h
  |ok p=>
    obtain⟨vs,f1⟩:=p
    rw[he]at h
    simp only[]at h
    cases hp:Wc s.st (l.zip vs)with
    |error d=>rw[hp]at h;cases h
    |ok w=>
      rw[hp]at h;cases h
      obtain⟨h1,h2,h3⟩:=KL (l.map SetT.ex) s f (fun x hx=>by obtain⟨y,hy,rfl⟩:=List.mem_map.1 hx;exact⟨hf y hy,(hw y hy).ex⟩) hs h0.1 vs g he
      exact⟨MU hw h1 hs.st hp,h3,by have:=h0.2;omega⟩
theorem NN{r:Except Int (V×List EvT)}{c:Int}(h:r=.error c):RO r=(.nil,[],c):=by rw[h];rfl
theorem out_ok{r:Except Int (V×List EvT)}{v:V}{l:List EvT}(h:r=.ok (v,l)):RO r=(v,l,0):=by rw[h];rfl
theorem CM(a b c:Nat)(zs ys:List AV)(z:Int):DC Tryz.prog 54 [Wd c z,.box b ys,.box a zs] [.c (.pointer (some ⟨a,0,none⟩)),.c (.pointer (some ⟨b,0,none⟩)),.c (.pointer (some ⟨c,0,none⟩))] .returning fun r u' o=>r=.ret (.tup [])∧u'=.returning∧o=[Wd c z,.box b ys,.box a zs]:=by
  refine DC.of_JD Tryz.func54 rfl Tryz.ntmps54 rfl fun w0 A0=>?_
  refine JD.seq (Uq rfl rfl (.inl ⟨rfl,rfl,rfl⟩) rfl (Zq rfl (YC ⟨_,Tryz.underlying33,by intro ms h;cases h⟩ KM (.tmp rfl)) ?_))
  refine Zq rfl (QW.move (.tmp rfl)) (Zq rfl (QW.extract (.tmp rfl) rfl) (Zq rfl (QW.extract (.tmp rfl) rfl) (Zq rfl (QW.assign (.tmp rfl)) (Zq rfl (QW.assign (.tmp rfl)) (JL.nil ?_)))))
  refine YE ?_
  refine JD.of_J rfl (Zs (Zq rfl (QW.move (.tmp rfl)) (Zn ?_)))
  refine J.cond (.tmp rfl) (fun c1=>absurd c1 (by simp)) (fun c1=>?_)
  refine J.skip ?_
  exact⟨_,QN [.p,.p,.p] _,_,Up rfl,rfl,Qn [.p,.p,.p] _,⟨rfl,rfl,rfl⟩⟩
theorem M7(a b c:Nat)(zs:List AV)(hz:zs.length=5)(y:AV)(z e:Int):DC Tryz.prog 54 [Wd c z,.box b [y],.box a zs] [.c (.pointer (some ⟨a,0,none⟩)),.c (.pointer (some ⟨b,0,none⟩)),.c (.pointer (some ⟨c,0,none⟩))] (.panicking [{v:=YR e,recovered:=false}]) fun r u' o=>r=.ret (.tup [])∧u'=.panicking [{v:=YR e,recovered:=true}]∧o=[Wd c e,.box b [.c (.slice none 0 0)],.box a zV]:=by
  refine DC.of_JD Tryz.func54 rfl Tryz.ntmps54 rfl fun w0 A0=>?_
  refine JD.seq (Uq rfl rfl (.inr ⟨[],rfl,rfl⟩) rfl (Zq rfl (YD ⟨_,Tryz.underlying33,by intro ms h;cases h⟩ (.tmp rfl)) ?_))
  refine Zq rfl (QW.move (.tmp rfl)) (Zq rfl (QW.extract (.tmp rfl) rfl) (Zq rfl (QW.extract (.tmp rfl) rfl) (Zq rfl (QW.assign (.tmp rfl)) (Zq rfl (QW.assign (.tmp rfl)) (JL.nil ?_)))))
  refine YE ?_
  refine JD.of_J rfl (Zs (Zq rfl (QW.move (.tmp rfl)) (Zn ?_)))
  refine J.cond (.tmp rfl) (fun c1=>?_) (fun c1=>absurd c1 (by simp))
  refine Qg (Zq rfl (QW.build (idx:=[]) Xt WQ rfl .nil rfl rfl rfl rfl) (Zq rfl (QW.move (.tmp rfl)) (JL.store_box 2 Qj (.tmp rfl) rfl (.tmp rfl) rfl rfl (by rw[hz];rfl) (UY (by rw[hz];rfl)) rfl ?_)))
  refine JL.store_box 1 MA (.tmp rfl) rfl .const (by first|rfl|assumption) rfl rfl rfl rfl ?_
  refine JL.store_box 0 Xz (.tmp rfl) rfl (.tmp rfl) (by first|rfl|assumption) rfl rfl rfl rfl ?_
  refine JL.nil ?_
  exact⟨_,QN [.p,.p,.p] _,_,Up rfl,rfl,Qn [.p,.p,.p] _,⟨rfl,rfl,rfl⟩⟩
theorem SB{fr fr1 fr2:Bool}{h:HdT}{st arg:V}(hw:h.wf)(h8:h.sets.length≤8∧h.ems.length≤8)(hf:(∀x∈h.sets,x.ex.Fine)∧∀x∈h.ems,x.wh.Fine∧x.ar.Fine)(hst:st.good)(harg:arg.good):
    Fn Tryz.prog 39 [.agg (h.cs fr),.agg (st.cs fr1),.agg (arg.cs fr2)] (HQ (RO (h.runE st arg))):=by
  obtain⟨on,sets,ems⟩:=h
  obtain⟨-,-,hsw,-,hew⟩:=hw
  obtain⟨hs8,he8⟩:=h8
  obtain⟨hsf,hef⟩:=hf
  simp only at hsw hew hs8 he8 hsf hef
  have hsg:ScT.good ⟨st,arg,.nil⟩:=⟨hst,harg,Xh⟩
  obtain⟨ka,ua,ta,va,ia⟩:=st
  obtain⟨kc,uc,tc,vc,ic⟩:=arg
  refine AC.of_JD Tryz.func39 rfl Tryz.ntmps39 rfl fun w0 A0=>?_
  refine Zs (Qp (.tmp rfl) rfl fun b3=>Qp (.tmp rfl) rfl fun b4=>Qp (.tmp rfl) rfl fun b5=>JL.alloc WQ rfl rfl fun b6=>JL.alloc z32 rfl rfl fun b7=>JL.alloc z33 rfl rfl fun b8=>Zn (Zs (Zq rfl (UF .nil (.cons (.tmp rfl) (.cons (.tmp rfl) (.cons (.tmp rfl) .nil)))) ?_)))
  refine JL.defer rfl (.tmp rfl) (Zn (J.seq (QU Uc (Zo 0 4 [] rfl (fun _ ho_=>by first|exact Qf 4 Qj (.tmp rfl) ho_ rfl rfl|exact Qf 4 Qj (.tmp rfl) ho_ (Qm vl rfl) vl) ?_))))
  refine Zf 1 [11] rfl (fun _=>QW.call Gu (.cons (.tmp rfl) .nil) (G3 (fr:=fr1) (v:=.mk ka ua ta va ia) Vc.self hst.wf)) (Zo 2 3 [] rfl (fun _ ho_=>by first|exact Qf 3 Qj (.tmp rfl) ho_ rfl rfl|exact Qf 3 Qj (.tmp rfl) ho_ (Qm vl rfl) vl) ?_)
  refine Zf 3 [12,13] rfl (fun _=>QW.build (idx:=[0,1]) pl117 z117 rfl (.cons (.tmp rfl) (.cons (.tmp rfl) .nil)) rfl rfl rfl rfl) (Zf 4 [14] rfl (fun _=>QW.build (idx:=[0,1]) pl119 z119 rfl (.cons (.tmp rfl) (.cons .const .nil)) rfl rfl rfl rfl) (JX.one 5 [true,true,true,true,true] rfl (by kernel_rfl) (by kernel_rfl) rfl rfl (by kernel_rfl) rfl fun bs5_ pe_ ex_=>?_))
  refine JL.conv (by(try simp only[Ua,Uj,Q5,QS,Flt.val,Flt.bx,nx,nl,Qk,Qz,QA,Qy,QR,AV.cellsOf,Qd,Qe,Nat.reduceAdd]);rfl) ?_
  refine Qp (Ev.le (.tmp rfl) run_le) rfl fun b16=>JL.nil ?_
  refine thenQ.n ⟨[_],_,rfl,rfl,rfl,rfl,rfl,QJ 7 rfl,⟨rfl,rfl⟩,trivial,?_⟩
  refine JX.conv (S':=[5,4,3,2,1,0]) rfl (by(try simp only[QS]);rfl) (by(try simp only[Ua,Uj,Q5,QS,Flt.val,Flt.bx,nx,nl,Qk,Qz,QA,Qy,QR,AV.cellsOf,Qd,Qe,Nat.reduceAdd]);rfl) ?_
  refine Zf 6 [16] rfl (fun _=>QW.assign (.tmp rfl)) (JX.fin (by kernel_rfl) (by kernel_rfl) fun bs_=>?_)
  refine QX.conv (by(try simp only[Ua,Uj,Q5,QS,Flt.val,Flt.bx,nx,nl,Qk,Qz,QA,Qy,QR,AV.cellsOf,Qd,Qe,Nat.reduceAdd]);rfl) ?_
  refine thenQ.n (Zs (Zq rfl (QW.move (.tmp rfl)) (Zq rfl (Qa L2 (.tmp rfl) rfl) (Zq rfl (Qb 6 Fy (.tmp rfl) rfl rfl) ?_))))
  refine Qs [.p] gofn55 rfl Lent.nil (fun _=>(.cons (.tmp rfl) (.cons (.tmp rfl) .nil))) (FT (s:=⟨.mk ka ua ta va ia,.mk kc uc tc vc ic,.nil⟩) (f:=4096) hs8 hsw hsf hsg ⟨by decide,by decide⟩) (.inl rfl) (fun k20 x20 o20 h20=>?_) (fun k20=>?_)
  rotate_left
  · skip
    refine thenQ.p ?_
    exact⟨_,_,[],[_,_,_],QN [.p,.p,.p] _,_,rfl,rfl,Dr,Qn [.p,.p,.p] _,DC.mono (M7 _ _ _ _ rfl _ _ _) fun r u' o ⟨h1,h2,h3⟩=>by subst h1 h2 h3;exact⟨⟨_,rfl⟩,rfl,_,[],_,(by first|exact QQ rfl (REv.cell 2 Qj rfl rfl rfl rfl (.aggL (.cons lr (.cons lr (.cons lr (.cons (.nil false false _) (.cons (.nil false false _) .nil))))))) (Q2 1 MA rfl rfl rfl (.nil false false _)) (Q2 0 Xz rfl rfl rfl lr)|exact QQ rfl (REv.cell 2 Qj rfl rfl (Qm vl rfl) vl (.aggL (.cons lr (.cons lr (.cons lr (.cons (.nil false false _) (.cons (.nil false false _) .nil))))))) (Q2 1 MA rfl rfl rfl (.nil false false _)) (Q2 0 Xz rfl rfl rfl lr)),List.Perm.refl _,(congrArg (fun r=>W1.ret (HQ r)) (NN (RI (Wh k20))).symm),rfl⟩⟩
  obtain⟨v20,f20,hv20,rfl,rfl⟩:=h20
  refine Zn (Zs ?_)
  have hgv:=Ly hsw hsf hsg ⟨by decide,by decide⟩ hv20
  refine Zq rfl (QW.move (.tmp rfl)) (Zq rfl (Qa L1 (.tmp rfl) rfl) (Zq rfl (Qb 6 Fx (.tmp rfl) rfl rfl) ?_))
  refine Qs [.p] gofn56 rfl Lent.nil (fun _=>(.cons (.tmp rfl) (.cons (.tmp rfl) .nil))) (Cr (s:=⟨v20,.mk kc uc tc vc ic,.nil⟩) (f:=f20) he8 hew hef ⟨hgv.1,harg,Xh⟩ hgv.2) (.inl rfl) (fun k24 x24 o24 h24=>?_) (fun k24=>?_)
  rotate_left
  · skip
    refine thenQ.p ?_
    exact⟨_,_,[],[_,_,_],QN [.p,.p,.p] _,_,rfl,rfl,Dr,Qn [.p,.p,.p] _,DC.mono (M7 _ _ _ _ rfl _ _ _) fun r u' o ⟨h1,h2,h3⟩=>by subst h1 h2 h3;exact⟨⟨_,rfl⟩,rfl,_,[],_,(by first|exact QQ rfl (REv.cell 2 Qj rfl rfl rfl rfl (.aggL (.cons lr (.cons lr (.cons lr (.cons (.nil false false _) (.cons (.nil false false _) .nil))))))) (Q2 1 MA rfl rfl rfl (.nil false false _)) (Q2 0 Xz rfl rfl rfl lr)|exact QQ rfl (REv.cell 2 Qj rfl rfl (Qm vl rfl) vl (.aggL (.cons lr (.cons lr (.cons lr (.cons (.nil false false _) (.cons (.nil false false _) .nil))))))) (Q2 1 MA rfl rfl rfl (.nil false false _)) (Q2 0 Xz rfl rfl rfl lr)),List.Perm.refl _,(congrArg (fun r=>W1.ret (HQ r)) (NN (FP hv20 (Wh k24))).symm),rfl⟩⟩
  obtain⟨es24,f24,he24,rfl,rfl⟩:=h24
  refine JL.store_box 2 MA (.tmp rfl) rfl (.tmp rfl) (by first|rfl|assumption) rfl rfl rfl rfl ?_
  refine Zn (J.seq (QU Uc (Zf 0 [] rfl (fun _=>QW.move (.tmp rfl)) (Zf 1 [25] rfl (fun _=>QG (.tmp rfl)) (Zf 2 [26] rfl (fun _=>Qa Lh (.tmp rfl) rfl) (Zf 3 [27] rfl (fun _=>Qa Li (.tmp rfl) rfl) (Zo 4 0 [28] rfl (fun _ ho_=>Qf 0 Qj (.tmp rfl) ho_ (MZ 0) vl) (Zo 5 2 [] rfl (fun _ ho_=>Qb 2 MA (.tmp rfl) ho_ rfl) (JX.one 6 [false,true,true,true,true,true] rfl (by kernel_rfl) (by kernel_rfl) rfl rfl (by kernel_rfl) rfl fun bs6_ pe_ ex_=>?_)))))))))
  refine JL.conv (by(try simp only[Ua,Uj,Q5,QS,Flt.val,Flt.bx,nx,nl,Qk,Qz,QA,Qy,QR,AV.cellsOf,Qd,Qe,Nat.reduceAdd]);rfl) ?_
  first|refine Qc 3 Qj (.tmp rfl) rfl (.tmp rfl) (by first|rfl|assumption) rfl rfl rfl ?_|refine Qc 3 Qj (.tmp rfl) rfl (.tmp rfl) (by first|rfl|assumption) rfl vl rfl ?_|refine Qc 3 Qj (.tmp rfl) rfl (.tmp rfl) (by first|rfl|assumption) vl rfl rfl ?_|refine Qc 3 Qj (.tmp rfl) rfl (.tmp rfl) (by first|rfl|assumption) vl vl rfl ?_|refine JL.store_box 3 Qj (.tmp rfl) rfl (.tmp rfl) (by first|rfl|assumption) rfl rfl rfl rfl ?_|refine JL.store_box 3 Qj (.tmp rfl) rfl (.tmp rfl) (by first|rfl|assumption) vl rfl rfl rfl ?_
  refine JL.nil ?_
  refine thenQ.n ⟨[],_,rfl,rfl,rfl,rfl,rfl,QJ 7 rfl,trivial,⟨rfl,trivial⟩,?_⟩
  refine JX.conv (S':=[6,4,3,2,1,0]) rfl (by(try simp only[QS]);rfl) (by(try simp only[Ua,Uj,Q5,QS,Flt.val,Flt.bx,nx,nl,Qk,Qz,QA,Qy,QR,AV.cellsOf,Qd,Qe,Nat.reduceAdd]);rfl) ?_
  refine JX.one 7 [true] rfl (by kernel_rfl) (by kernel_rfl) rfl rfl (by kernel_rfl) rfl fun bs7_ pe_ ex_=>?_
  refine JL.conv (by(try simp only[Ua,Uj,Q5,QS,Flt.val,Flt.bx,nx,nl,Qk,Qz,QA,Qy,QR,AV.cellsOf,Qd,Qe,Nat.reduceAdd]);rfl) ?_
  refine JL.store_box 2 MA (.tmp rfl) rfl (.tmp rfl) (by first|rfl|assumption) rfl rfl rfl rfl ?_
  refine JL.nil ?_
  refine thenQ.n ⟨[],_,rfl,rfl,rfl,rfl,rfl,QJ 7 rfl,trivial,trivial,?_⟩
  refine JX.conv (S':=[7,5,6,4,3,2,1,0]) rfl (by(try simp only[QS]);rfl) (by(try simp only[Ua,Uj,Q5,QS,Flt.val,Flt.bx,nx,nl,Qk,Qz,QA,Qy,QR,AV.cellsOf,Qd,Qe,Nat.reduceAdd]);rfl) ?_
  refine JX.one 8 [] rfl (by kernel_rfl) (by kernel_rfl) rfl rfl (by kernel_rfl) rfl fun bs8_ pe_ ex_=>?_
  refine JL.conv (by(try simp only[Ua,Uj,Q5,QS,Flt.val,Flt.bx,nx,nl,Qk,Qz,QA,Qy,QR,AV.cellsOf,Qd,Qe,Nat.reduceAdd]);rfl) ?_
  refine JL.store_box 1 Xz (.tmp rfl) rfl .const (by first|rfl|assumption) rfl rfl rfl rfl ?_
  refine JL.nil ?_
  refine thenQ.n ⟨[],_,rfl,rfl,rfl,rfl,rfl,QJ 7 rfl,trivial,trivial,?_⟩
  refine JX.conv (S':=[8,7,5,6,4,3,2,1,0]) rfl (by(try simp only[QS]);rfl) (by(try simp only[Ua,Uj,Q5,QS,Flt.val,Flt.bx,nx,nl,Qk,Qz,QA,Qy,QR,AV.cellsOf,Qd,Qe,Nat.reduceAdd]);rfl) ?_
  refine JX.fin (by kernel_rfl) (by kernel_rfl) fun bs_=>?_
  refine QX.conv (by(try simp only[Ua,Uj,Q5,QS,Flt.val,Flt.bx,nx,nl,Qk,Qz,QA,Qy,QR,AV.cellsOf,Qd,Qe,Nat.reduceAdd]);rfl) ?_
  refine thenQ.n (J.ret ?_)
  exact⟨_,_,[],[_,_,_],QN [.k,.p,.p,.p] _,_,rfl,rfl,Dr,Qn [.k,.p,.p,.p] _,DC.mono (CM _ _ _ _ _ _) fun r u' o ⟨h1,h2,h3⟩=>by subst h1 h2 h3;exact⟨⟨_,rfl⟩,rfl,_,[],_,(by first|exact QQ rfl (REv.cell 2 Qj rfl rfl rfl rfl lr) (Q2 1 MA rfl rfl rfl (Nf true false false (fun h=>by cases h) _)) (Q2 0 Xz rfl rfl rfl lr)|exact QQ rfl (REv.cell 2 Qj rfl rfl (Qm vl rfl) vl lr) (Q2 1 MA rfl rfl rfl (Nf true false false (fun h=>by cases h) _)) (Q2 0 Xz rfl rfl rfl lr)),List.Perm.refl _,(congrArg (fun r=>W1.ret (HQ r)) (out_ok (NJ hv20 he24)).symm),rfl⟩⟩

end
section
/- Walks: what an event does; events, one after another. -/
set_option maxRecDepth 10000
set_option maxHeartbeats 4000000
def Qak(b:Nat):Value:=.func (.func 35) #[] #[YZ b]
def Qaj(b:Nat):Value:=.func (.func 36) #[] #[YZ b]
def Qai(b:Nat):Value:=.func (.func 38) #[] #[YZ b]
theorem Reown.stp(a b c d e:Own):Reown [a,b,c,d,e] [a,d,.grp [b,c,e]]:=
  ⟨fun x=>by simp only[QV,UT,Xx,List.count_append,List.count_nil];omega,fun w A h=>by
    simp only[List.forall_mem_cons,Xb,List.not_mem_nil,false_implies,implies_true,and_true]at h⊢
    exact⟨h.1,h.2.2.2.1,h.2.1,h.2.2.1,h.2.2.2.2⟩⟩
theorem Fi(a b c d e:Own):Reown [a,d,.grp [b,c,e]] [a,d,b,c,e]:=Reown.cons (Reown.cons (U0 [b,c,e] []))
theorem Ci{b4 b5 b15:Nat}{st:V}{e:EvT}{fr fr2:Bool}(hst:st.wf)(he:e.wf):∀i (h:i<[Qak b4,Qaj b4,YV b15,Qai b5].length) (h2:i<[st.err,if st.kind=5 then 0 else 81,Us e.name,e.arg.err].length),CloS (.grp [.box b5 (e.cs fr2),.box b4 (st.cs fr),.box b15 [.c (Um e.name)]]) [Qak b4,Qaj b4,YV b15,Qai b5][i] [st.err,if st.kind=5 then 0 else 81,Us e.name,e.arg.err][i]
  |0,_,_=>⟨_,[YZ b4],rfl,gofn35,Qay (l1:=[.box b5 (e.cs fr2)]) (l2:=[.box b15 [.c (Um e.name)]]) hst⟩
  |1,_,_=>⟨_,[YZ b4],rfl,gofn36,Qax (l1:=[.box b5 (e.cs fr2)]) (l2:=[.box b15 [.c (Um e.name)]])⟩
  |2,_,_=>⟨_,[YZ b15],rfl,BO,Tm (l1:=[.box b5 (e.cs fr2),.box b4 (st.cs fr)]) (l2:=[])⟩
  |3,_,_=>⟨_,[YZ b5],rfl,gofn38,Qaw (l1:=[]) (l2:=[.box b4 (st.cs fr),.box b15 [.c (Um e.name)]]) he⟩
theorem Ex:∀(l:List HdT) (s:Ui) (i:Int),Km l s i= -1∨∃m,m<l.length∧Km l s i=i+(m:Int)
  |[],s,i=>.inl rfl
  |h::r,s,i=>by
    unfold Km
    split
    · exact .inr ⟨0,by simp,by simp⟩
    · rcases Ex r s (i+1)with h|⟨m,hm,h⟩
      · exact .inl h
      · exact .inr ⟨m+1,by simpa using hm,by rw[h];push_cast;omega⟩
theorem PD(p:PgT)(s:Ui):p.at s= -1∨∃m,m<p.hs.length∧p.at s=(m:Int):=by
  rcases Ex p.hs s 0 with h|⟨m,hm,h⟩
  · exact .inl h
  · exact .inr ⟨m,hm,by rw[PgT.at,h];omega⟩
theorem HdT.ok_of{h:HdT}(he:h.err=0):(h.sets.length≤8∧h.ems.length≤8)∧(∀x∈h.sets,x.ex.Fine)∧∀x∈h.ems,x.wh.Fine∧x.ar.Fine:=by
  unfold HdT.err at he
  split at he
  · cases he
  · rename_i h8
    have hz:=KC he
    refine⟨by omega,fun x hx=>?_,fun x hx=>⟨?_,?_⟩⟩
    · exact EX.fine_of (hz _ (by unfold HdT.es;simp only[List.mem_cons,List.mem_append,List.mem_flatMap];exact .inr (.inl ⟨x,hx,by simp[SetT.es]⟩)))
    · exact EX.fine_of (hz _ (by unfold HdT.es;simp only[List.mem_cons,List.mem_append,List.mem_flatMap];exact .inr (.inr ⟨x,hx,by simp[EmT.es]⟩)))
    · exact EX.fine_of (hz _ (by unfold HdT.es;simp only[List.mem_cons,List.mem_append,List.mem_flatMap];exact .inr (.inr ⟨x,hx,by simp[EmT.es]⟩)))
theorem PgT.ok_of{p:PgT}(he:p.err=0):p.init.err=0∧p.init.kind=5∧p.hs.length≤16∧∀h∈p.hs,h.err=0:=by
  unfold PgT.err at he
  split at he
  · rename_i h;exact absurd he h
  · rename_i h1
    split at he
    · cases he
    · rename_i h2
      split at he
      · cases he
      · rename_i h3
        split at he
        · rename_i h;exact absurd he h
        · rename_i h4
          exact⟨by simpa using h1,by simpa using h2,by omega,fun h hh=>KC (by simpa using h4) _ (List.mem_map.2 ⟨h,hh,rfl⟩)⟩
theorem TU{p:PgT}{st:V}{e:EvT}(h:¬US [st.err,if st.kind=5 then 0 else 81,Us e.name,e.arg.err]=0):W2 p st e=.error (US [st.err,if st.kind=5 then 0 else 81,Us e.name,e.arg.err]):=if_pos h
theorem TT{p:PgT}{st:V}{e:EvT}(h:US [st.err,if st.kind=5 then 0 else 81,Us e.name,e.arg.err]=0)(h2:p.at e.name<0):W2 p st e=.error 71:=by
  unfold W2;rw[if_neg (fun h1=>h1 h),if_pos h2]
theorem Lt{p:PgT}{st:V}{e:EvT}{m:Nat}(h:US [st.err,if st.kind=5 then 0 else 81,Us e.name,e.arg.err]=0)(hm:m<p.hs.length)(h2:p.at e.name=(m:Int)):W2 p st e=p.hs[m].runE st e.arg:=by
  unfold W2;rw[if_neg (fun h1=>h1 h),if_neg (by omega),h2,Int.toNat_natCast,List.getElem?_eq_getElem hm]
theorem FZ{fr fr1 fr2:Bool}{p:PgT}{st:V}{e:EvT}(hw:p.wf)(hp:p.err=0)(hst:st.wf)(he:e.wf):
    Fn Tryz.prog 22 [.agg (p.cs fr),.agg (st.cs fr1),.agg (e.cs fr2)] (HQ (RO (W2 p st e))):=by
  have hq:=PgT.ok_of hp
  refine AC.of_J Tryz.func22 rfl Tryz.ntmps22 rfl fun w0 A0=>?_
  refine Zs (Qp (.tmp rfl) rfl fun b3=>Qp (.tmp rfl) rfl fun b4=>Qp (.tmp rfl) rfl fun b5=>JL.alloc WQ rfl rfl fun b6=>Zq rfl (QW.assign .const) (Zq rfl (QW.assign .const) (Zn (Zs (Zq rfl (UF .nil (.cons (.tmp rfl) .nil)) ?_)))))
  refine Zq rfl (UF .nil (.cons (.tmp rfl) .nil)) (Zq rfl (Qa Pb (.tmp rfl) rfl) (Zq rfl (Qb 1 U9 (.tmp rfl) rfl EvT.at0) (JL.callRF [] NX rfl Lent.nil (fun _=>(.cons (.tmp rfl) .nil)) (XY _) (.inl rfl) fun x15 o15 h15=>?_)))
  obtain⟨b15,rfl,rfl⟩:=h15
  refine Zq rfl (UF .nil (.cons (.tmp rfl) .nil)) (Zq rfl (QW.buildSlice (idx:=[0,1,2,3]) (xs:=[[.c (Qak b4)],[.c (Qaj b4)],[.c (YV b15)],[.c (Qai b5)]]) XA C0 z94 rfl (.cons (.tmp rfl) (.cons (.tmp rfl) (.cons (.tmp rfl) (.cons (.tmp rfl) .nil)))) rfl rfl rfl rfl rfl rfl rfl rfl rfl) (JL.reown (Reown.stp _ _ _ _ _) (JL.callRF [.k,.k,.p] BS rfl Lent.nil (fun _=>(.cons (.tmp rfl) .nil)) (Nn (fr:=true) (cl:=true) (fs:=[Qak b4,Qaj b4,YV b15,Qai b5]) (es:=[st.err,if st.kind=5 then 0 else 81,Us e.name,e.arg.err]) rfl (Ci hst he) (by show 4*8≤Qu;decide)) (.inl rfl) fun x18 o18 h18=>?_)))
  obtain⟨rfl,rfl⟩:=h18
  refine Zq rfl (QW.assign (.tmp rfl)) (Zn (J.seq (J.seq (J.reown (Fi _ _ _ _ _) (Qg (Zq rfl (QW.move (.tmp rfl)) (Zq rfl (QW.neq (.tmp rfl) .const) (Zn ?_))))))))
  refine J.cond (.tmp rfl) (fun c1=>?_) (fun c1=>?_)
  · skip
    have hbad:¬US [st.err,if st.kind=5 then 0 else 81,Us e.name,e.arg.err]=0:=by simpa using c1
    refine Zs (Zq rfl (QW.build (idx:=[]) Xt WQ rfl .nil rfl rfl rfl rfl) (Zq rfl (QW.move (.tmp rfl)) ?_))
    first|refine Qc 0 Qj (.tmp rfl) rfl (.tmp rfl) (by first|rfl|assumption) rfl rfl rfl ?_|refine Qc 0 Qj (.tmp rfl) rfl (.tmp rfl) (by first|rfl|assumption) rfl vl rfl ?_|refine Qc 0 Qj (.tmp rfl) rfl (.tmp rfl) (by first|rfl|assumption) vl rfl rfl ?_|refine Qc 0 Qj (.tmp rfl) rfl (.tmp rfl) (by first|rfl|assumption) vl vl rfl ?_|refine JL.store_box 0 Qj (.tmp rfl) rfl (.tmp rfl) (by first|rfl|assumption) rfl rfl rfl rfl ?_|refine JL.store_box 0 Qj (.tmp rfl) rfl (.tmp rfl) (by first|rfl|assumption) vl rfl rfl rfl ?_
    exact Zq rfl (QW.assign .const) (Zq rfl (QW.assign (.tmp rfl)) (Zn (J.ret (thenQ.r (Zr [.k,.k,.k,.k,.k] (QQ rfl (by first|exact REv.cell 0 Qj rfl rfl rfl rfl (.aggL (.cons lr (.cons lr (.cons lr (.cons (.nil false false _) (.cons (.nil false false _) .nil))))))|exact REv.cell 0 Qj rfl rfl (Qm vl rfl) vl (.aggL (.cons lr (.cons lr (.cons lr (.cons (.nil false false _) (.cons (.nil false false _) .nil))))))) (REv.tmp rfl (.nil false false _)) (REv.tmp rfl lr)) rfl ⟨congrArg (fun r=>W1.ret (HQ r)) (NN (TU hbad)).symm,rfl⟩)))))
  have hgo:US [st.err,if st.kind=5 then 0 else 81,Us e.name,e.arg.err]=0:=by simpa using c1
  have hz:=KC hgo
  refine Zk (Zs (Zq rfl (by first|exact Qf 1 YX (.tmp rfl) rfl rfl rfl|exact Qf 1 YX (.tmp rfl) rfl (Qm (PgT.cs_length _ _) rfl) (PgT.cs_length _ _)) ?_))
  refine Zq rfl (Qa Pb (.tmp rfl) rfl) (Zq rfl (Qb 2 U9 (.tmp rfl) rfl EvT.at0) (Zq rfl (QW.call BT (.cons (.tmp rfl) (.cons (.tmp rfl) .nil)) (LT hw e.name)) (Zq rfl (QW.assign (.tmp rfl)) (Zn (J.seq (Zs (Zq rfl (QW.move (.tmp rfl)) (Zq rfl (QW.lss (.tmp rfl) .const) (Zn ?_)))))))))
  refine J.cond (.tmp rfl) (fun c2=>?_) (fun c2=>?_)
  · skip
    have hneg:p.at e.name<0:=by simpa using c2
    refine Zs (Zq rfl (QW.build (idx:=[]) Xt WQ rfl .nil rfl rfl rfl rfl) ?_)
    first|refine Qc 0 Qj (.tmp rfl) rfl (.tmp rfl) (by first|rfl|assumption) rfl rfl rfl ?_|refine Qc 0 Qj (.tmp rfl) rfl (.tmp rfl) (by first|rfl|assumption) rfl vl rfl ?_|refine Qc 0 Qj (.tmp rfl) rfl (.tmp rfl) (by first|rfl|assumption) vl rfl rfl ?_|refine Qc 0 Qj (.tmp rfl) rfl (.tmp rfl) (by first|rfl|assumption) vl vl rfl ?_|refine JL.store_box 0 Qj (.tmp rfl) rfl (.tmp rfl) (by first|rfl|assumption) rfl rfl rfl rfl ?_|refine JL.store_box 0 Qj (.tmp rfl) rfl (.tmp rfl) (by first|rfl|assumption) vl rfl rfl rfl ?_
    exact Zq rfl (QW.assign .const) (Zq rfl (QW.assign .const) (Zn (J.ret (thenQ.r (Zr [.k,.k,.k,.k,.k] (QQ rfl (by first|exact REv.cell 0 Qj rfl rfl rfl rfl (.aggL (.cons lr (.cons lr (.cons lr (.cons (.nil false false _) (.cons (.nil false false _) .nil))))))|exact REv.cell 0 Qj rfl rfl (Qm vl rfl) vl (.aggL (.cons lr (.cons lr (.cons lr (.cons (.nil false false _) (.cons (.nil false false _) .nil))))))) (REv.tmp rfl (.nil false false _)) (REv.tmp rfl lr)) rfl ⟨congrArg (fun r=>W1.ret (HQ r)) (NN (TT hgo hneg)).symm,rfl⟩)))))
  have hpos:¬p.at e.name<0:=by simpa using c2
  obtain⟨m,hm,hat⟩:=(PD p e.name).resolve_left (by omega)
  rw[hat]
  refine Zk (J.seq (QU Uc (Zf 0 [] rfl (fun _=>Qa Hu (.tmp rfl) rfl) (Zo 1 1 [30] rfl (fun _ ho_=>Qb 1 Cf (.tmp rfl) ho_ PgT.at5) (Zf 2 [] rfl (fun _=>QW.move (.tmp rfl)) (Zf 3 [31,32] rfl (fun _=>Qi Yt YW rfl (.tmp rfl) (.tmp rfl) (by first|rfl|omega|(simp;done)) (by exact HdT.css_getE _ hm)) ?_))))))
  refine Zf 4 [33] rfl (fun _=>by first|exact Ql YW (.tmp rfl) rfl rfl|exact Ql YW (.tmp rfl) (QH rfl rfl) rfl) ?_
  refine Zo 5 3 [] rfl (fun _ ho_=>by first|exact Qf 3 Qj (.tmp rfl) ho_ rfl rfl|exact Qf 3 Qj (.tmp rfl) ho_ (Qm vl rfl) vl) ?_
  refine Zf 6 [] rfl (fun _=>Qa Pa (.tmp rfl) rfl) (Zo 7 2 [36] rfl (fun _ ho_=>Qf 2 Qj (.tmp rfl) ho_ EvT.at1 vl) (Zf 8 [34,35,37] rfl (fun _=>QW.call gofn39 (.cons (.tmp rfl) (.cons (.tmp rfl) (.cons (.tmp rfl) .nil))) (SB (hw.hs _ (List.getElem_mem hm)) (HdT.ok_of (hq.2.2.2 _ (List.getElem_mem hm))).1 (HdT.ok_of (hq.2.2.2 _ (List.getElem_mem hm))).2 ⟨hst,hz _ (by simp)⟩ ⟨he.arg,hz _ (by simp)⟩)) ?_))
  refine Zf 9 [38] rfl (fun _=>QW.extract (.tmp rfl) rfl) (Zf 10 [38] rfl (fun _=>QW.extract (.tmp rfl) rfl) (Zf 11 [38] rfl (fun _=>QW.extract (.tmp rfl) rfl) (JX.one 12 [true,true,true,true,true,true,true,true,true,true,true,true] rfl (by kernel_rfl) (by kernel_rfl) rfl rfl (by kernel_rfl) rfl fun bs12_ pe_ ex_=>?_)))
  refine JL.conv (by(try simp only[Ua,Uj,Q5,QS,Flt.val,Flt.bx,nx,nl,Qk,Qz,QA,Qy,QR,AV.cellsOf,Qd,Qe,Nat.reduceAdd]);rfl) ?_
  first|refine Qc 0 Qj (.tmp rfl) rfl (.tmp rfl) (by first|rfl|assumption) rfl rfl rfl ?_|refine Qc 0 Qj (.tmp rfl) rfl (.tmp rfl) (by first|rfl|assumption) rfl vl rfl ?_|refine Qc 0 Qj (.tmp rfl) rfl (.tmp rfl) (by first|rfl|assumption) vl rfl rfl ?_|refine Qc 0 Qj (.tmp rfl) rfl (.tmp rfl) (by first|rfl|assumption) vl vl rfl ?_|refine JL.store_box 0 Qj (.tmp rfl) rfl (.tmp rfl) (by first|rfl|assumption) rfl rfl rfl rfl ?_|refine JL.store_box 0 Qj (.tmp rfl) rfl (.tmp rfl) (by first|rfl|assumption) vl rfl rfl rfl ?_
  refine JL.nil ?_
  refine thenQ.n ⟨[],_,rfl,rfl,rfl,rfl,rfl,QJ 5 rfl,trivial,trivial,?_⟩
  refine JX.conv (S':=[12,11,10,9,8,7,6,5,4,3,2,1,0]) rfl (by(try simp only[QS]);rfl) (by(try simp only[Ua,Uj,Q5,QS,Flt.val,Flt.bx,nx,nl,Qk,Qz,QA,Qy,QR,AV.cellsOf,Qd,Qe,Nat.reduceAdd]);rfl) ?_
  refine Zf 13 [40] rfl (fun _=>QW.assign (.tmp rfl)) (Zf 14 [41] rfl (fun _=>QW.assign (.tmp rfl)) (JX.fin (by kernel_rfl) (by kernel_rfl) fun bs_=>?_))
  refine QX.conv (by(try simp only[Ua,Uj,Q5,QS,Flt.val,Flt.bx,nx,nl,Qk,Qz,QA,Qy,QR,AV.cellsOf,Qd,Qe,Nat.reduceAdd]);rfl) ?_
  exact thenQ.n (J.ret (Zr [.k,.k,.k,.k,.k] (QQ rfl (by first|exact REv.cell 0 Qj rfl rfl rfl rfl lr|exact REv.cell 0 Qj rfl rfl (Qm vl rfl) vl lr) (REv.tmp rfl lr) (REv.tmp rfl lr)) rfl ⟨congrArg (fun r=>W1.ret (HQ r)) (congrArg RO (Lt hgo hm hat)).symm,rfl⟩))

end
section
/- Walks: events, one after another. -/
set_option maxRecDepth 10000
set_option maxHeartbeats 4000000
def Hs(r:V×List EvT×Int×Int):AV:=.tup [.agg (r.1.cs false),.sl false false MH (EvT.css false r.2.1),.c (.int .i64 r.2.2.1),.c (.int .i64 r.2.2.2)]
theorem BZ{p:PgT}{st:V}{out:List EvT}{l:List EvT}{j:Nat}{i c:Int}(h:j<l.length)(hs:W2 p st l[j]=.error c):Uy p st out (l.drop j) i=(st,out,i,c):=by
  rw[List.drop_eq_getElem_cons h,Uy,hs]
theorem S7{p:PgT}{st v:V}{out m:List EvT}{l:List EvT}{j:Nat}{i:Int}(h:j<l.length)(hs:W2 p st l[j]=.ok (v,m)):Uy p st out (l.drop j) i=Uy p v (out++m) (l.drop (j+1)) (i+1):=by
  rw[List.drop_eq_getElem_cons h,Uy,hs]
theorem L8:∀{l:List EmT} {s:ScT} {f g:Int} {es:List EvT},(∀x∈l,x.wf)→(∀x∈l,x.wh.Fine∧x.ar.Fine)→s.good→KQ f→WY s l f=.ok (es,g)→es.length≤l.length∧∀e∈es,e.arg.good∧∃x∈l,x.nm=e.name
  |[],s,f,g,es,_,_,_,_,h=>by simp[WY]at h;obtain⟨rfl,rfl⟩:=h;exact⟨Nat.le_refl _,fun e he=>by cases he⟩
  |x::r,s,f,g,es,hw,hf,hs,h0,h=>by
    rw[WY]at h
    cases ht:UW (x.wh.ev s f)with
    |error c=>rw[ht]at h;cases h
    |ok q=>
      obtain⟨t,f1⟩:=q
      have hf1:=XS (hw x (by simp)).wh (hf x (by simp)).1 hs h0 ht
      rw[ht]at h
      cases t with
      |false=>
        simp only[]at h
        obtain⟨h1,h2⟩:=L8 (fun y hy=>hw y (by simp[hy])) (fun y hy=>hf y (by simp[hy])) hs hf1 h
        exact⟨by simp;omega,fun e he=>by obtain⟨a,y,b,c⟩:=h2 e he;exact⟨a,y,by simp[b],c⟩⟩
      |true=>
        simp only[]at h
        cases ha:x.ar.ev s f1 with
        |error c=>rw[ha]at h;cases h
        |ok q2=>
          obtain⟨v,f2⟩:=q2
          obtain⟨hgv,hf2⟩:=Kb (hw x (by simp)).ar (hf x (by simp)).2 hs hf1 ha
          rw[ha]at h
          simp only[]at h
          cases hr:WY s r f2 with
          |error c=>rw[hr]at h;cases h
          |ok q3=>
            obtain⟨l3,f3⟩:=q3
            rw[hr]at h
            simp only[]at h
            cases h
            obtain⟨h1,h2⟩:=L8 (fun y hy=>hw y (by simp[hy])) (fun y hy=>hf y (by simp[hy])) hs hf2 hr
            refine⟨by simp;omega,fun e he=>?_⟩
            rcases List.mem_cons.1 he with rfl|he
            · exact⟨hgv,x,by simp,rfl⟩
            · obtain⟨a,y,b,c⟩:=h2 e he;exact⟨a,y,by simp[b],c⟩
theorem FN{h:HdT}{st arg v:V}{m:List EvT}(hw:h.wf)(he:h.err=0)(hst:st.good)(ha:arg.good)(hr:h.runE st arg=.ok (v,m)):v.good∧m.length≤8∧∀e∈m,e.arg.good∧∃x∈h.ems,x.nm=e.name:=by
  obtain⟨⟨h8,h9⟩,hf1,hf2⟩:=HdT.ok_of he
  have hs0:KQ 4096:=⟨by decide,by decide⟩
  cases h1:YU ⟨st,arg,.nil⟩ h.sets 4096 with
  |error c=>rw[RI h1]at hr;cases hr
  |ok q=>
    obtain⟨w,f⟩:=q
    obtain⟨g1,g2⟩:=Ly hw.sets hf1 ⟨hst,ha,Xh⟩ hs0 h1
    rw[NK h1]at hr
    cases h2:WY ⟨w,arg,.nil⟩ h.ems f with
    |error c=>rw[h2]at hr;cases hr
    |ok q2=>
      obtain⟨l,g⟩:=q2
      rw[h2]at hr
      cases hr
      obtain⟨k1,k2⟩:=L8 hw.ems hf2 ⟨g1,ha,Xh⟩ g2 h2
      exact⟨g1,by omega,k2⟩
theorem TZ{v x:V}{k:Ui}(hv:v.kind=5)(h:(v.setv [⟨true,k,0⟩] x).2=0):(v.setv [⟨true,k,0⟩] x).1.kind=5:=by
  obtain⟨-,-,h3,-⟩:=Me (w:=(v.setv [⟨true,k,0⟩] x).1) (Prod.ext rfl h)
  have h3':v.put ⟨true,k,0⟩ x=((v.setv [⟨true,k,0⟩] x).1,0):=h3
  unfold V.put at h3'
  split at h3'
  · rw[← (Prod.mk.inj h3').1];exact hv
  · split at h3'
    · rw[← (Prod.mk.inj h3').1];exact hv
    · rename_i h1 h2;exact absurd (Prod.mk.inj h3').2 h2
theorem MT:∀{l:List SetT} {vs:List V} {v w:V},v.kind=5→Wc v (l.zip vs)=.ok w→w.kind=5
  |[],vs,v,w,hv,h=>by cases vs<;>(simp[Wc]at h;exact h▸hv)
  |s::l,[],v,w,hv,h=>by simp[Wc]at h;exact h▸hv
  |s::l,x::vs,v,w,hv,h=>by
    rw[List.zip_cons_cons,Wc]at h
    split at h
    · rename_i he;exact MT (TZ hv he) h
    · cases h
theorem FM{h:HdT}{st arg v:V}{m:List EvT}(hst:st.kind=5)(hr:h.runE st arg=.ok (v,m)):v.kind=5:=by
  unfold HdT.runE at hr
  split at hr
  · cases hr
  · split at hr
    · cases hr
    · rename_i w hp
      split at hr
      · cases hr
      · cases hr;exact MT hst hp
theorem MQ{p:PgT}{st v:V}{e:EvT}{m:List EvT}(hw:p.wf)(hp:p.err=0)(hst:st.wf)(he:e.wf)(hr:W2 p st e=.ok (v,m)):st.kind=5∧v.good∧v.kind=5∧m.length≤8∧∀x∈m,x.arg.good∧Wa x.name=true:=by
  have hq:=PgT.ok_of hp
  by_cases h1:US [st.err,if st.kind=5 then 0 else 81,Us e.name,e.arg.err]=0
  · have hz:=KC h1
    rcases PD p e.name with h2|⟨k,hk,h2⟩
    · rw[TT h1 (by omega)]at hr;cases hr
    · rw[Lt h1 hk h2]at hr
      have hke:st.kind=5:=Decidable.byContradiction fun h=>by have:=hz (if st.kind=5 then 0 else 81) (by simp);rw[if_neg h]at this;cases this
      have hh:=hw.hs _ (List.getElem_mem hk)
      have he0:=hq.2.2.2 _ (List.getElem_mem hk)
      obtain⟨g1,g2,g3⟩:=FN hh he0 ⟨hst,hz _ (by simp)⟩ ⟨he.arg,hz _ (by simp)⟩ hr
      refine⟨hke,g1,FM hke hr,g2,fun x hx=>⟨(g3 x hx).1,?_⟩⟩
      obtain⟨y,hy,hn⟩:=(g3 x hx).2
      rw[← hn]
      have hh0:=he0
      unfold HdT.err at hh0
      split at hh0
      · cases hh0
      · have:=KC hh0 (Us y.nm) (by unfold HdT.es;simp only[List.mem_cons,List.mem_append,List.mem_flatMap];exact .inr (.inr ⟨y,hy,by simp[EmT.es]⟩))
        unfold Us at this
        cases hb:Wa y.nm with
        |true=>rfl
        |false=>rw[hb]at this;cases this
  · rw[TU h1]at hr;cases hr
theorem Pm:∀{l:List EX} {s:ScT} {f c:Int},(∀x∈l,x.Fine)→Q8 l s f=.error c→c≠0
  |[],s,f,c,_,h=>by rw[Q8]at h;cases h
  |x::r,s,f,c,hf,h=>by
    rw[Q8]at h
    cases h1:x.ev s f with
    |error d=>rw[h1]at h;cases h;exact Wy x s f (hf x (by simp)) _ h1
    |ok q=>
      obtain⟨v,f1⟩:=q
      rw[h1]at h
      simp only[]at h
      cases h2:Q8 r s f1 with
      |error d=>rw[h2]at h;cases h;exact Pm (fun y hy=>hf y (by simp[hy])) h2
      |ok q2=>rw[h2]at h;cases h
theorem Ef:∀{l:List (SetT×V)} {v:V} {c:Int},Wc v l=.error c→c≠0
  |[],v,c,h=>by simp[Wc]at h
  |(s,x)::r,v,c,h=>by
    rw[Wc]at h
    split at h
    · exact Ef h
    · cases h;decide
theorem DL:∀{l:List EmT} {s:ScT} {f c:Int},(∀x∈l,x.wh.Fine∧x.ar.Fine)→WY s l f=.error c→c≠0
  |[],s,f,c,_,h=>by simp[WY]at h
  |x::r,s,f,c,hf,h=>by
    rw[WY]at h
    cases ht:UW (x.wh.ev s f)with
    |error d=>rw[ht]at h;cases h;exact HF (Wy x.wh s f (hf x (by simp)).1) _ ht
    |ok q=>
      obtain⟨t,f1⟩:=q
      rw[ht]at h
      cases t with
      |false=>simp only[]at h;exact DL (fun y hy=>hf y (by simp[hy])) h
      |true=>
        simp only[]at h
        cases ha:x.ar.ev s f1 with
        |error d=>rw[ha]at h;cases h;exact Wy x.ar s f1 (hf x (by simp)).2 _ ha
        |ok q2=>
          obtain⟨v,f2⟩:=q2
          rw[ha]at h
          simp only[]at h
          cases hr:WY s r f2 with
          |error d=>rw[hr]at h;cases h;exact DL (fun y hy=>hf y (by simp[hy])) hr
          |ok q3=>rw[hr]at h;cases h
theorem run_nz{h:HdT}{st arg:V}{c:Int}(hf1:∀x∈h.sets,x.ex.Fine)(hf2:∀x∈h.ems,x.wh.Fine∧x.ar.Fine)(hr:h.runE st arg=.error c):c≠0:=by
  unfold HdT.runE at hr
  split at hr
  · rename_i e he
    cases hr
    exact Pm (fun y hy=>by obtain⟨z,hz,rfl⟩:=List.mem_map.1 hy;exact hf1 z hz) he
  · split at hr
    · rename_i e hp;cases hr;exact Ef hp
    · split at hr
      · rename_i e he;cases hr;exact DL hf2 he
      · cases hr
theorem NE{p:PgT}{st:V}{e:EvT}(hp:p.err=0):∀c,W2 p st e=.error c→c≠0:=by
  intro c hc
  by_cases h1:US [st.err,if st.kind=5 then 0 else 81,Us e.name,e.arg.err]=0
  · rcases PD p e.name with h2|⟨k,hk,h2⟩
    · rw[TT h1 (by omega)]at hc;cases hc;decide
    · rw[Lt h1 hk h2]at hc
      have he0:=(PgT.ok_of hp).2.2.2 _ (List.getElem_mem hk)
      obtain⟨-,hf1,hf2⟩:=HdT.ok_of he0
      exact run_nz hf1 hf2 hc
  · rw[TU h1]at hc;cases hc;exact h1
theorem Sm{r:Except Int (V×List EvT)}{v:V}{m:List EvT}{c:Int}(h:RO r=(v,m,c))(hc:¬c=0):r=.error c:=by
  cases r with
  |error d=>rw[show d=c from(Prod.mk.inj (Prod.mk.inj h).2).2]
  |ok p=>exact absurd (Prod.mk.inj (Prod.mk.inj h).2).2.symm hc
theorem Be{r:Except Int (V×List EvT)}{v:V}{m:List EvT}(hn:∀c,r=.error c→c≠0)(h:RO r=(v,m,0)):r=.ok (v,m):=by
  cases r with
  |error d=>exact absurd (Prod.mk.inj (Prod.mk.inj h).2).2 (hn d rfl)
  |ok p=>obtain⟨a,b⟩:=p;obtain⟨h1,h2⟩:=Prod.mk.inj h;rw[show a=v from h1,show b=m from(Prod.mk.inj h2).1]
theorem Ld{fr fr2 c:Bool}{p:PgT}{l:List EvT}(hw:p.wf)(hl:EvT.wfs l)(hb:l.length*768≤Qu):Fn Tryz.prog 8 [.agg (p.cs fr),.sl fr2 c MH (EvT.css fr2 l)] (Hs (YJ p l)):=by
  have hb64:l.length≤9223372036854775805:=by unfold Qu at hb;omega
  refine AC.of_J Tryz.func8 rfl Tryz.ntmps8 rfl fun w0 A0=>?_
  refine Zs (Qp (.tmp rfl) rfl fun b2=>JL.alloc WQ rfl rfl fun b4=>Zq rfl (QW.assign .const) (Zq rfl (QW.assign .const) (Zq rfl (QW.assign .const) (Zn (J.seq (Zs (Zq rfl (by first|exact Qf 1 YX (.tmp rfl) rfl rfl rfl|exact Qf 1 YX (.tmp rfl) rfl (Qm (PgT.cs_length _ _) rfl) (PgT.cs_length _ _)) ?_)))))))
  refine Zq rfl (QW.call gofn20 (.cons (.tmp rfl) .nil) (Cv hw)) (Zq rfl (QW.assign (.tmp rfl)) (Zn (Zs (Zq rfl (QW.move (.tmp rfl)) (Zq rfl (QW.neq (.tmp rfl) .const) (Zn ?_))))))
  refine J.cond (.tmp rfl) (fun c1=>?_) (fun c1=>?_)
  · skip
    have hbad:¬p.err=0:=by simpa using c1
    refine Zs (Zq rfl (QW.build (idx:=[]) Xt WQ rfl .nil rfl rfl rfl rfl) (Zq rfl (QW.move (.tmp rfl)) ?_))
    first|refine Qc 0 Qj (.tmp rfl) rfl (.tmp rfl) (by first|rfl|assumption) rfl rfl rfl ?_|refine Qc 0 Qj (.tmp rfl) rfl (.tmp rfl) (by first|rfl|assumption) rfl vl rfl ?_|refine Qc 0 Qj (.tmp rfl) rfl (.tmp rfl) (by first|rfl|assumption) vl rfl rfl ?_|refine Qc 0 Qj (.tmp rfl) rfl (.tmp rfl) (by first|rfl|assumption) vl vl rfl ?_|refine JL.store_box 0 Qj (.tmp rfl) rfl (.tmp rfl) (by first|rfl|assumption) rfl rfl rfl rfl ?_|refine JL.store_box 0 Qj (.tmp rfl) rfl (.tmp rfl) (by first|rfl|assumption) vl rfl rfl rfl ?_
    exact Zq rfl (QW.assign .const) (Zq rfl (QW.assign .const) (Zq rfl (QW.assign (.tmp rfl)) (Zn (J.ret (thenQ.r (Zr [.k,.k] (GA rfl (by first|exact REv.cell 0 Qj rfl rfl rfl rfl (.aggL (.cons lr (.cons lr (.cons lr (.cons (.nil false false _) (.cons (.nil false false _) .nil))))))|exact REv.cell 0 Qj rfl rfl (Qm vl rfl) vl (.aggL (.cons lr (.cons lr (.cons lr (.cons (.nil false false _) (.cons (.nil false false _) .nil))))))) (REv.tmp rfl (.nil false false _)) (REv.tmp rfl lr) (REv.tmp rfl lr)) rfl ⟨congrArg (fun r=>W1.ret (Hs r)) ((if_pos hbad:YJ p l=_)).symm,rfl⟩))))))
  have hp:p.err=0:=by simpa using c1
  refine Zk (Zs (Zq rfl (Qa DA (.tmp rfl) rfl) (Zq rfl (Qf 1 Qj (.tmp rfl) rfl PgT.at0 vl) (Zq rfl (QW.call Gu (.cons (.tmp rfl) .nil) (G3 Vc.self hw.init)) (JL.alloc WQ rfl rfl fun b9=>Qc 0 Qj (.tmp rfl) rfl (Ev.le (.tmp rfl) (Kd _)) rfl vl rfl rfl (Zn (Zs (Zq rfl (QW.assign .const) ?_))))))))
  refine Zn (J.seq (Zs (Zq rfl (QW.move (.tmp rfl)) (Zq rfl (by first|exact Qh Yg (.tmp rfl) wl|exact Qh Yg (.tmp rfl) (HdT.css_length _ _)|exact Qh Yg (.tmp rfl) (EvT.css_length _ _)|exact Qr Yg (.tmp rfl)|exact QW.len_nil Yg (.tmp rfl)) ?_))))
  refine Zq rfl (QW.move .const) (Zn (J.block (J.reown (Uf MH _) (Q0 (ι:=Nat×Value×List EvT×V) [1,2,4,9,25,26] (fun⟨j,v,out,st⟩=>[(27,.c (.int .i64 (j:Int))),(10,.c v)]) (fun⟨j,v,out,st⟩ oo=>List.set (List.set oo 3 (.arr v MH (EvT.css false out))) 0 (.box b9 (st.cs false))) (fun⟨j,v,out,st⟩=>j≤l.length∧out.length≤8*j∧st.wf∧Uy p p.init [] l 0=Uy p st out (l.drop j) (j:Int)) (fun⟨j,v,out,st⟩=>l.length-j) ⟨0,.slice none 0 0,[],p.init⟩ (⟨Nat.zero_le _,Nat.le_refl _,hw.init,rfl⟩) (QK (.cons rfl lr (.cons rfl lr (.cons rfl lr (.cons rfl lr (.cons rfl lr (.cons rfl lr (.cons rfl lr (.cons rfl lr .nil)))))))) (Reown.refl _) (fun _ h=>by first|exact h|simp[h])) ?_))))
  intro⟨j,v,out,st⟩ ⟨hj,hout,hst,hfd⟩
  refine J.conv (by(try simp only[nl,Qk,Qz,QA,Qy,QR,AV.cellsOf,Qd,Qe,Nat.reduceAdd]);rfl) ?_
  refine Zs (Zq rfl (QW.lss (.tmp rfl) (.tmp rfl)) (Zn (J.seq ?_)))
  refine J.cond (.tmp rfl) (fun c2=>?_) (fun c2=>?_)
  · skip
    have hlt:j<l.length:=by simpa[EvT.css_length]using c2
    obtain⟨⟨sv,m,cc⟩,hS⟩:∃q,RO (W2 p st l[j])=q:=⟨_,rfl⟩
    refine Zk (J.seq (J.block (Zs (Zq rfl (QW.move (.tmp rfl)) (Zq rfl (Qi Yg He rfl (.tmp rfl) (.tmp rfl) (by first|rfl|omega|(simp;done)) (by exact EvT.css_getE _ hlt)) ?_)))))
    refine Zq rfl (by first|exact Ql He (.tmp rfl) rfl rfl|exact Ql He (.tmp rfl) (QH (EvT.cs_length _ _) rfl) (EvT.cs_length _ _)) ?_
    refine JL.alloc z47 rfl rfl fun b12=>Zq rfl (QW.assign (.tmp rfl)) ?_
    first|refine Qc 0 He (.tmp rfl) rfl (.tmp rfl) (by first|rfl|assumption) rfl rfl rfl ?_|refine Qc 0 He (.tmp rfl) rfl (.tmp rfl) (by first|rfl|assumption) rfl (EvT.cs_length _ _) rfl ?_|refine Qc 0 He (.tmp rfl) rfl (.tmp rfl) (by first|rfl|assumption) (EvT.cs_length _ _) rfl rfl ?_|refine Qc 0 He (.tmp rfl) rfl (.tmp rfl) (by first|rfl|assumption) (EvT.cs_length _ _) (EvT.cs_length _ _) rfl ?_|refine JL.store_box 0 He (.tmp rfl) rfl (.tmp rfl) (by first|rfl|assumption) rfl rfl rfl rfl ?_|refine JL.store_box 0 He (.tmp rfl) rfl (.tmp rfl) (by first|rfl|assumption) (EvT.cs_length _ _) rfl rfl rfl ?_
    refine Zn (Zs (Zq rfl (by first|exact Qf 3 YX (.tmp rfl) rfl rfl rfl|exact Qf 3 YX (.tmp rfl) rfl (Qm (PgT.cs_length _ _) rfl) (PgT.cs_length _ _)) ?_))
    refine Zq rfl (by first|exact Qf 1 Qj (.tmp rfl) rfl rfl rfl|exact Qf 1 Qj (.tmp rfl) rfl (Qm vl rfl) vl) ?_
    refine Zq rfl (by first|exact Qf 0 He (.tmp rfl) rfl rfl rfl|exact Qf 0 He (.tmp rfl) rfl (Qm (EvT.cs_length _ _) rfl) (EvT.cs_length _ _)) ?_
    refine Zq rfl (QW.call gofn22 (.cons (.tmp rfl) (.cons (.tmp rfl) (.cons (.tmp rfl) .nil))) ((hS▸FZ (st:=st) (e:=l[j]) hw hp hst (hl.2 _ (List.getElem_mem hlt))))) (Zq rfl (QW.move (.tmp rfl)) (Zq rfl (QW.extract (.tmp rfl) rfl) (Zq rfl (QW.extract (.tmp rfl) rfl) (Zq rfl (QW.extract (.tmp rfl) rfl) (JL.alloc WQ rfl rfl fun b13=>?_)))))
    first|refine Qc 0 Qj (.tmp rfl) rfl (.tmp rfl) (by first|rfl|assumption) rfl rfl rfl ?_|refine Qc 0 Qj (.tmp rfl) rfl (.tmp rfl) (by first|rfl|assumption) rfl vl rfl ?_|refine Qc 0 Qj (.tmp rfl) rfl (.tmp rfl) (by first|rfl|assumption) vl rfl rfl ?_|refine Qc 0 Qj (.tmp rfl) rfl (.tmp rfl) (by first|rfl|assumption) vl vl rfl ?_|refine JL.store_box 0 Qj (.tmp rfl) rfl (.tmp rfl) (by first|rfl|assumption) rfl rfl rfl rfl ?_|refine JL.store_box 0 Qj (.tmp rfl) rfl (.tmp rfl) (by first|rfl|assumption) vl rfl rfl rfl ?_
    refine Zq rfl (QW.assign (.tmp rfl)) (Zq rfl (QW.assign (.tmp rfl)) (Zn (J.seq (Zs (Zq rfl (QW.move (.tmp rfl)) (Zq rfl (QW.neq (.tmp rfl) .const) (Zn ?_)))))))
    refine J.cond (.tmp rfl) (fun c3=>?_) (fun c3=>?_)
    · skip
      have hc:¬cc=0:=by simpa using c3
      have hse:=Sm hS hc
      refine J.seq (J.closeArr 5 rfl (by rw[EvT.css_length];show _*96≤_;omega) rfl (fun _ h=>by cases h) ?_)
      refine Qg (Zq rfl (by first|exact Qf 2 Qj (.tmp rfl) rfl rfl rfl|exact Qf 2 Qj (.tmp rfl) rfl (Qm vl rfl) vl) ?_)
      refine Zq rfl (QW.move (.tmp rfl)) (Zq rfl (QW.move (.tmp rfl)) (Zq rfl (QW.move (.tmp rfl)) ?_))
      first|refine Qc 3 Qj (.tmp rfl) rfl (.tmp rfl) (by first|rfl|assumption) rfl rfl rfl ?_|refine Qc 3 Qj (.tmp rfl) rfl (.tmp rfl) (by first|rfl|assumption) rfl vl rfl ?_|refine Qc 3 Qj (.tmp rfl) rfl (.tmp rfl) (by first|rfl|assumption) vl rfl rfl ?_|refine Qc 3 Qj (.tmp rfl) rfl (.tmp rfl) (by first|rfl|assumption) vl vl rfl ?_|refine JL.store_box 3 Qj (.tmp rfl) rfl (.tmp rfl) (by first|rfl|assumption) rfl rfl rfl rfl ?_|refine JL.store_box 3 Qj (.tmp rfl) rfl (.tmp rfl) (by first|rfl|assumption) vl rfl rfl rfl ?_
      refine Zq rfl (QW.assign (.tmp rfl)) (Zq rfl (QW.assign (.tmp rfl)) (Zq rfl (QW.assign (.tmp rfl)) (Zn (J.ret (thenQ.r (blkQ.r (thenQ.r (thenQ.r (blkQ.r ?_)))))))))
      exact thenQ.r (Zr [.k,.k,.k,.k,.k] (GA rfl (by first|exact REv.cell 3 Qj rfl rfl rfl rfl (.refl _)|exact REv.cell 3 Qj rfl rfl (Qm vl rfl) vl (.refl _)) (REv.tmp rfl (.fact (by simp) (.slL (fr:=true) (clip:=false) (fun h=>by cases h) rfl (EvT.css_sz false _) (.refl _)))) (REv.tmp rfl lr) (REv.tmp rfl lr)) rfl ⟨congrArg (fun r=>W1.ret (Hs r)) (((if_neg (fun h=>h hp):YJ p l=_).trans (hfd.trans (BZ hlt hse)))).symm,rfl⟩)
    obtain rfl:cc=0:=by simpa using c3
    have hse:=Be (NE hp) hS
    obtain⟨-,hsg,-,hm8,-⟩:=MQ hw hp hst (hl.2 _ (List.getElem_mem hlt)) hse
    refine Zk (HG [10] Uc (Zo 0 0 [] rfl (fun _ ho_=>by first|exact Qf 0 Qj (.tmp rfl) ho_ rfl rfl|exact Qf 0 Qj (.tmp rfl) ho_ (Qm vl rfl) vl) ?_))
    refine Zf 1 [] rfl (fun _=>QW.move (.tmp rfl)) (Zf 2 [] rfl (fun _=>QW.move (.tmp rfl)) (JX.one 3 [true,true,false] rfl (by kernel_rfl) (by kernel_rfl) rfl rfl (by kernel_rfl) rfl fun bs3_ pe_ ex_=>?_))
    refine JL.conv (by(try simp only[Ua,Uj,Q5,QS,Flt.val,Flt.bx,nx,nl,Qk,Qz,QA,Qy,QR,AV.cellsOf,Qd,Qe,Nat.reduceAdd]);rfl) ?_
    refine JL.append 5 W3 C1 rfl (.tmp rfl) rfl (UL W3 (.tmp rfl)) (by rw[EvT.css_length,EvT.css_length];show(_+_)*96≤_;omega) rfl fun v49=>?_
    refine JL.nil ?_
    refine thenQ.n ⟨[_],_,rfl,rfl,rfl,rfl,rfl,QJ 6 rfl,⟨rfl,rfl⟩,⟨rfl,trivial⟩,?_⟩
    refine JX.conv (S':=[3,2,1]) rfl (by(try simp only[QS]);rfl) (by(try simp only[Ua,Uj,Q5,QS,Flt.val,Flt.bx,nx,nl,Qk,Qz,QA,Qy,QR,AV.cellsOf,Qd,Qe,Nat.reduceAdd]);rfl) ?_
    refine JX.one 4 [true] rfl (by kernel_rfl) (by kernel_rfl) rfl rfl (by kernel_rfl) rfl fun bs4_ pe_ ex_=>?_
    refine JL.conv (by(try simp only[Ua,Uj,Q5,QS,Flt.val,Flt.bx,nx,nl,Qk,Qz,QA,Qy,QR,AV.cellsOf,Qd,Qe,Nat.reduceAdd]);rfl) ?_
    first|refine Qc 2 Qj (.tmp rfl) rfl (.tmp rfl) (by first|rfl|assumption) rfl rfl rfl ?_|refine Qc 2 Qj (.tmp rfl) rfl (.tmp rfl) (by first|rfl|assumption) rfl vl rfl ?_|refine Qc 2 Qj (.tmp rfl) rfl (.tmp rfl) (by first|rfl|assumption) vl rfl rfl ?_|refine Qc 2 Qj (.tmp rfl) rfl (.tmp rfl) (by first|rfl|assumption) vl vl rfl ?_|refine JL.store_box 2 Qj (.tmp rfl) rfl (.tmp rfl) (by first|rfl|assumption) rfl rfl rfl rfl ?_|refine JL.store_box 2 Qj (.tmp rfl) rfl (.tmp rfl) (by first|rfl|assumption) vl rfl rfl rfl ?_
    refine JL.nil ?_
    refine thenQ.n ⟨[],_,rfl,rfl,rfl,rfl,rfl,QJ 6 rfl,trivial,trivial,?_⟩
    refine JX.conv (S':=[4,0,3,2,1]) rfl (by(try simp only[QS]);rfl) (by(try simp only[Ua,Uj,Q5,QS,Flt.val,Flt.bx,nx,nl,Qk,Qz,QA,Qy,QR,AV.cellsOf,Qd,Qe,Nat.reduceAdd]);rfl) ?_
    refine JX.last 5 rfl (by kernel_rfl) (by kernel_rfl) rfl rfl (by kernel_rfl) (by kernel_rfl) fun bs_=>?_
    refine JL.conv (by(try simp only[Ua,Uj,Q5,QS,Flt.val,Flt.bx,nx,nl,Qk,Qz,QA,Qy,QR,AV.cellsOf,Qd,Qe,Nat.reduceAdd]);rfl) ?_
    refine Zq rfl (QW.assign (.tmp rfl)) (Zn (blkQ.n (thenQ.n (Qg (Zq rfl (QW.add (.tmp rfl) .const (by first|exact U5 (by first|rfl|omega|(simp;done)) (by omega)|exact WW (by omega)|rfl)) ?_)))))
    refine Zq rfl (QW.move (.tmp rfl)) (Zn ?_)
    rw[← EvT.css_append]
    exact⟨⟨j+1,v49,out++m,sv⟩,⟨hlt,by rw[List.length_append];omega,hsg.wf,by rw[hfd,S7 hlt hse];simp⟩,by show l.length-(j+1)<l.length-j;omega,QK (.cons rfl lr (.cons rfl lr (.cons rfl lr (.cons rfl lr (.cons rfl lr (.cons rfl lr (.cons rfl lr (.cons rfl lr .nil)))))))) (Q9 2 _ rfl) (fun _ h=>by first|exact h|simp[h])⟩
  obtain rfl:j=l.length:=by(simp[EvT.css_length]at c2;omega)
  rw[List.drop_length,Uy]at hfd
  refine J.exit (Qv (Qv (QM (thenQ.n (J.seq (J.closeArr 3 rfl (by rw[EvT.css_length];show _*96≤_;omega) rfl (fun _ h=>by cases h) ?_))))))
  refine Qg (Zq rfl (by first|exact Qf 0 Qj (.tmp rfl) rfl rfl rfl|exact Qf 0 Qj (.tmp rfl) rfl (Qm vl rfl) vl) ?_)
  refine Zq rfl (QW.move (.tmp rfl)) (Zq rfl (QW.move (.tmp rfl)) (Zq rfl (by first|exact Qh Yg (.tmp rfl) wl|exact Qh Yg (.tmp rfl) (HdT.css_length _ _)|exact Qh Yg (.tmp rfl) (EvT.css_length _ _)|exact Qr Yg (.tmp rfl)|exact QW.len_nil Yg (.tmp rfl)) ?_))
  first|refine Qc 1 Qj (.tmp rfl) rfl (.tmp rfl) (by first|rfl|assumption) rfl rfl rfl ?_|refine Qc 1 Qj (.tmp rfl) rfl (.tmp rfl) (by first|rfl|assumption) rfl vl rfl ?_|refine Qc 1 Qj (.tmp rfl) rfl (.tmp rfl) (by first|rfl|assumption) vl rfl rfl ?_|refine Qc 1 Qj (.tmp rfl) rfl (.tmp rfl) (by first|rfl|assumption) vl vl rfl ?_|refine JL.store_box 1 Qj (.tmp rfl) rfl (.tmp rfl) (by first|rfl|assumption) rfl rfl rfl rfl ?_|refine JL.store_box 1 Qj (.tmp rfl) rfl (.tmp rfl) (by first|rfl|assumption) vl rfl rfl rfl ?_
  exact Zq rfl (QW.assign (.tmp rfl)) (Zq rfl (QW.assign (.tmp rfl)) (Zq rfl (QW.assign .const) (Zn (J.ret (Zr [.k,.k,.k] (GA rfl (by first|exact REv.cell 1 Qj rfl rfl rfl rfl (.refl _)|exact REv.cell 1 Qj rfl rfl (Qm vl rfl) vl (.refl _)) (REv.tmp rfl (.fact (by simp) (.slL (fr:=true) (clip:=false) (fun h=>by cases h) rfl (EvT.css_sz false _) (.refl _)))) (REv.tmp rfl lr) (REv.tmp rfl lr)) rfl ⟨congrArg (fun r=>W1.ret (Hs r)) (((if_neg (fun h=>h hp):YJ p l=_).trans hfd)).symm,rfl⟩)))))

end
section
/- The page's small program, reckoned. -/
def dN:EX:=.mk 8 0 [110] [.mk 5 0 [] []]
def d1:EX:=.mk 3 4607182418800017408 [] []
def C6:EX:=.mk 11 0 [] [dN,d1]
def C5:EX:=.mk 17 0 [] [d1,dN]
def dHd:HdT:=⟨[117,112],[⟨[110],C6⟩],[⟨C5,[116,101,108,108],dN⟩]⟩
def Hx(b:Nat):V:=.mk 5 0 [] [[110]] [.mk 2 b [] [] []]
def dP:PgT:=⟨Hx 0,[dHd]⟩
def E2:EvT:=⟨[117,112],.nil⟩
theorem dP_err:dP.err=0:=by kernel_rfl
theorem Rg{x:EX}{s:ScT}{f f1:Int}{v:V}(h:x.ev s f=.ok (v,f1)):Q8 [x] s f=.ok ([v],f1):=by
  rw[Q8,h];simp only[];rw[Q8]
theorem Pw{x y:EX}{s:ScT}{f f1 f2:Int}{v w:V}(h:x.ev s f=.ok (v,f1))(h2:y.ev s f1=.ok (w,f2)):Q8 [x,y] s f=.ok ([v,w],f2):=by
  rw[Q8,h];simp only[];rw[Rg h2]
theorem Px{s:ScT}{f:Int}{x:V}(hf:2≤f)(h:K5 s.st ⟨true,[110],0⟩=.ok x):dN.ev s f=.ok (x,f-2):=by
  refine(Ng (by omega) (by decide)).trans (NM (vs:=[s.st]) (f1:=f-2) ?_ ?_)
  · rw[show f-2=f-1-1 by omega];exact Rg (ev_5 (by omega))
  · exact h
theorem d1_ev{s:ScT}{f:Int}(hf:1≤f):d1.ev s f=.ok (.nu 4607182418800017408,f-1):=ev_3 (by omega)
theorem E4{s:ScT}{f:Int}{x:Nat}(hf:4≤f)(h:K5 s.st ⟨true,[110],0⟩=.ok (.nu x)):C6.ev s f=.ok (.nu (UZ .add x 4607182418800017408),f-4):=by
  refine(Ng (by omega) (by decide)).trans (NM (vs:=[.nu x,.nu 4607182418800017408]) (f1:=f-4) ?_ rfl)
  exact Pw (Px (by omega) h) (by rw[show f-4=f-1-2-1 by omega];exact d1_ev (by omega))
theorem E3{s:ScT}{f:Int}{x:Nat}(hf:4≤f)(h:K5 s.st ⟨true,[110],0⟩=.ok (.nu x)):C5.ev s f=.ok (.tr (decide ((V.nu 4607182418800017408).ord (.nu x)<0)),f-4):=by
  refine(Ng (by omega) (by decide)).trans (NM (vs:=[.nu 4607182418800017408,.nu x]) (f1:=f-4) ?_ rfl)
  exact Pw (d1_ev (by omega)) (by rw[show f-4=f-1-1-2 by omega];exact Px (by omega) h)
theorem dget0:K5 (Hx 0) ⟨true,[110],0⟩=.ok (.nu 0):=by kernel_rfl
theorem dget1:K5 (Hx 4607182418800017408) ⟨true,[110],0⟩=.ok (.nu 4607182418800017408):=by kernel_rfl
theorem dget2:K5 (Hx 4611686018427387904) ⟨true,[110],0⟩=.ok (.nu 4611686018427387904):=by kernel_rfl
theorem dadd0:UZ .add 0 4607182418800017408=4607182418800017408:=by kernel_rfl
theorem dadd1:UZ .add 4607182418800017408 4607182418800017408=4611686018427387904:=by kernel_rfl
theorem dset0:Wc (Hx 0) [(⟨[110],C6⟩,.nu 4607182418800017408)]=.ok (Hx 4607182418800017408):=by kernel_rfl
theorem dset1:Wc (Hx 4607182418800017408) [(⟨[110],C6⟩,.nu 4611686018427387904)]=.ok (Hx 4611686018427387904):=by kernel_rfl
theorem dles1:(decide ((V.nu 4607182418800017408).ord (.nu 4607182418800017408)<0))=false:=by kernel_rfl
theorem dles2:(decide ((V.nu 4607182418800017408).ord (.nu 4611686018427387904)<0))=true:=by kernel_rfl
theorem drun0:dHd.runE (Hx 0) .nil=.ok (Hx 4607182418800017408,[]):=by
  refine NJ (f:=4092) (g:=4088) (Lx (vs:=[.nu 4607182418800017408]) (Rg (dadd0▸E4 (s:=⟨Hx 0,.nil,.nil⟩) (by decide) dget0)) dset0) ?_
  show WY ⟨Hx 4607182418800017408,.nil,.nil⟩ [⟨C5,[116,101,108,108],dN⟩] 4092=_
  rw[WY,GG (dles1▸E3 (s:=⟨Hx 4607182418800017408,.nil,.nil⟩) (by decide) dget1) rfl]
  rfl
theorem drun1:dHd.runE (Hx 4607182418800017408) .nil=.ok (Hx 4611686018427387904,[⟨[116,101,108,108],.nu 4611686018427387904⟩]):=by
  refine NJ (f:=4092) (g:=4086) (Lx (vs:=[.nu 4611686018427387904]) (Rg (dadd1▸E4 (s:=⟨Hx 4607182418800017408,.nil,.nil⟩) (by decide) dget1)) dset1) ?_
  refine(M5 _).trans ((EZ (l:=[⟨C5,[116,101,108,108],dN⟩]) (s:=⟨Hx 4611686018427387904,.nil,.nil⟩) (j:=0) (es:=[]) (g:=4092) (g2:=4088) (g3:=4086) (v:=.nu 4611686018427387904) (by decide) ?_ ?_).trans ?_)
  · exact GG (dles2▸E3 (s:=⟨Hx 4611686018427387904,.nil,.nil⟩) (f:=4092) (by decide) dget2) rfl
  · exact Px (s:=⟨Hx 4611686018427387904,.nil,.nil⟩) (f:=4088) (by decide) dget2
  · exact Td _ _ _
theorem dstep0:W2 dP (Hx 0) E2=.ok (Hx 4607182418800017408,[]):=(Lt (m:=0) (by kernel_rfl) (by decide) (by kernel_rfl)).trans drun0
theorem dstep1:W2 dP (Hx 4607182418800017408) E2=.ok (Hx 4611686018427387904,[⟨[116,101,108,108],.nu 4611686018427387904⟩]):=(Lt (m:=0) (by kernel_rfl) (by decide) (by kernel_rfl)).trans drun1
theorem dfold:YJ dP [E2,E2]=(Hx 4611686018427387904,[⟨[116,101,108,108],.nu 4611686018427387904⟩],2,0):=by
  refine(if_neg (fun h=>h dP_err)).trans ?_
  show Uy dP (Hx 0) [] [E2,E2] 0=_
  rw[Uy,dstep0];simp only[]
  rw[Uy,dstep1];simp only[]
  rw[Uy];rfl

end
end Go.Proofs.YtmccnmahegbmpaaGreat.J
