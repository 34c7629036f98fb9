/- Texts of this proof, laid together. -/
import Derived.Test.YtammalmlbabpbaaGreatX2RViewLists
set_option linter.unusedVariables false
set_option linter.unusedSimpArgs false
namespace Go.Proofs.YtammalmlbabpbaaGreat.J
open Go Go.RowKit
section
/- Walks: the small functions of the machine that reckons. -/
set_option maxRecDepth 10000
set_option maxHeartbeats 4000000
theorem XL(ok:Bool)(e:Int):AC Tryz.prog 231 [] [.c (.bool ok),.c (.int .i64 e)] (PanR (ok=true) (WT e) fun x o=>x=.tup []∧o=[]):=by
  refine AC.of_J Tryz.func231 rfl Tryz.ntmps231 rfl fun w0 A0=>?_
  refine Zs (Zm rfl (Zq rfl (QW.not (.r rfl)) (Zn ?_)))
  refine J.cond (.r rfl) (fun c1=>?_) (fun c1=>?_)
  · skip
    have hok:ok=false:=by simpa using c1
    refine Qg (Zm rfl (Zq rfl (Yx ⟨_,Tryz.underlying47,by intro ms h;cases h⟩ (.r rfl)) ?_))
    refine JL.panic (.r rfl) ?_
    exact⟨_,QI [] _,_,rfl,rfl,Qk [] _,PanR.pan (by simp[hok])⟩
  have hok:ok=true:=by simpa using c1
  exact J.skip (Zr [] (RetEv.none rfl) rfl (PanR.ret hok ⟨rfl,rfl⟩))
theorem Wi(b:Bool):Fn Tryz.prog 232 [.c (.bool b)] (.agg ((V.tr b).cs false)):=by
  refine AC.of_J Tryz.func232 rfl Tryz.ntmps232 rfl fun w0 A0=>?_
  refine Zs (JL.alloc Yd rfl rfl fun b2=>Zn (Zs (Zq rfl (QW.build (idx:=[0]) Kj Yd rfl (.cons .const .nil) rfl rfl rfl rfl) (JL.alloc Yd rfl rfl fun b3=>Qa 0 Ql (.r rfl) rfl (.r rfl) rfl rfl rfl rfl (Zn (J.seq (Zs ?_)))))))
  refine Zm rfl (Zn ?_)
  refine J.cond (.r rfl) (fun c1=>?_) (fun c1=>?_)
  · skip
    obtain rfl:b=true:=by simpa using c1
    exact Qg (Zd UE rfl (JL.store_box 0 WQ (.r rfl) rfl .const rfl rfl rfl rfl rfl (Zn (Zs (Zq rfl (Qe 0 Ql (.r rfl) rfl rfl rfl) (Qa 1 Ql (.r rfl) rfl (.r rfl) rfl rfl rfl rfl (Zn (J.ret (Zr [.k,.k] (RetEv.one rfl (REv.cell 1 Ql rfl rfl rfl rfl (.aggL (.cons lr (.cons lr (.cons lr (.cons (.nil false false _) (.cons (.nil false false _) .nil)))))))) rfl ⟨rfl,rfl⟩)))))))))
  obtain rfl:b=false:=by simpa using c1
  exact Zk (Zs (Zq rfl (Qe 0 Ql (.r rfl) rfl rfl rfl) (Qa 1 Ql (.r rfl) rfl (.r rfl) rfl rfl rfl rfl (Zn (J.ret (Zr [.k,.k] (RetEv.one rfl (REv.cell 1 Ql rfl rfl rfl rfl (.aggL (.cons lr (.cons lr (.cons lr (.cons (.nil false false _) (.cons (.nil false false _) .nil)))))))) rfl ⟨rfl,rfl⟩))))))
theorem Gl(b:Nat):Fn Tryz.prog 233 [.c (.int .u64 (b:Int))] (.agg ((V.nu b).cs false)):=by
  refine AC.of_J Tryz.func233 rfl Tryz.ntmps233 rfl fun w0 A0=>?_
  exact Zs (JL.alloc Yd rfl rfl fun b2=>Zn (Zs (Zm rfl (Zq rfl (QW.build (idx:=[0,1]) Kj Yd rfl (.cons .const (.cons (.r rfl) .nil)) rfl rfl rfl rfl) (Qa 0 Ql (.r rfl) rfl (.r rfl) rfl rfl rfl rfl (Zn (J.ret (Zr [.k] (RetEv.one rfl (REv.cell 0 Ql rfl rfl rfl rfl (.aggL (.cons lr (.cons lr (.cons lr (.cons (.nil false false _) (.cons (.nil false false _) .nil)))))))) rfl ⟨rfl,rfl⟩))))))))
theorem NR{fr:Bool}{v:V}{ys:List AV}(hv:Vc fr v ys)(hw:v.wf):AC Tryz.prog 257 [] [.agg ys] (PanR (v.err=0) (WT 84) fun x o=>x=.agg ys∧o=[]):=by
  subst hv
  refine AC.of_J Tryz.func257 rfl Tryz.ntmps257 rfl fun w0 A0=>?_
  refine Zs (Qs (.r rfl) rfl fun b1=>JL.alloc Yd rfl rfl fun b2=>Zn (Zs (Zq rfl (Qe 1 Ql (.r rfl) rfl (Qo vl rfl) vl) (Zq rfl (QW.call X5 (.cons (.r rfl) .nil) (Yl (Vc.self) (by assumption))) ?_))))
  refine Zq rfl (QW.eql (.r rfl) .const) ?_
  refine Qn [] WL rfl Lent.nil (fun _=>(.cons (.r rfl) (.cons .const .nil))) (XL _ _) (.inl rfl) (fun k6 x6 o6 h6=>?_) (fun k6=>?_)
  rotate_left
  · skip
    refine thenQ.p ?_
    exact⟨_,QI [.k,.k] _,_,rfl,rfl,Qk [.k,.k] _,PanR.pan (by simpa using k6)⟩
  obtain⟨rfl,rfl⟩:=h6
  exact Zn (Zs (Zq rfl (Qe 1 Ql (.r rfl) rfl (Qo vl rfl) vl) (Qa 0 Ql (.r rfl) rfl (.r rfl) rfl vl rfl rfl (Zn (J.ret (Zr [.k,.k] (RetEv.one rfl (REv.cell 0 Ql rfl rfl (Qo vl rfl) vl lr)) rfl (PanR.ret (by simpa using k6) ⟨rfl,rfl⟩)))))))
theorem DT(fr:Bool)(v:V):(List.drop 0 (v.cs fr))[0]? =some (.c (.int .i64 v.kind)):=by cases v;rfl
theorem YT(fr:Bool)(v:V):(List.drop 1 (v.cs fr))[0]? =some (.c (.int .u64 (v.bits:Int))):=by cases v;rfl
theorem Mj(fr:Bool)(v:V):(List.drop 2 (v.cs fr))[0]? =some (.c (Q4 v.text)):=by cases v;rfl
theorem PN(fr:Bool)(v:V):(List.drop 4 (v.cs fr))[0]? =some (.sl fr false eV (V.css fr v.items)):=by cases v;rfl
def Uj:List V→List Int→Bool
  |_,[]=>true
  |[],_::_=>false
  |v::l,k::ks=>v.kind==k&&Uj l ks
theorem HW{l:List V}{ks:List Int}{j:Nat}(h:j<ks.length)(h2:j<l.length):Uj (l.drop j) (ks.drop j)=(l[j].kind==ks[j]&&Uj (l.drop (j+1)) (ks.drop (j+1))):=by
  rw[List.drop_eq_getElem_cons h,List.drop_eq_getElem_cons h2,Uj]
theorem Wo{fr c fr2 c2:Bool}(l:List V)(ks:List Int)(hk:ks.length≤l.length)(hl:l.length≤1000):AC Tryz.prog 258 [] [.sl fr c eV (V.css fr l),.sl fr2 c2 eI64 (Wt ks)] (PanR (Uj l ks=true) (WT 81) fun x o=>x=.tup []∧o=[]):=by
  refine AC.of_J Tryz.func258 rfl Tryz.ntmps258 rfl fun w0 A0=>?_
  refine Zs (Zm rfl (Zq rfl (Qh Ks (.r rfl) (Yz _)) (Zq rfl (QW.move .const) (Zn (J.block (Ua (ι:=Nat) [0,6,7] (fun j=>[(8,.c (.int .i64 (j:Int)))]) (fun _ oo=>oo) (fun j=>j≤ks.length∧Uj l ks=Uj (l.drop j) (ks.drop j)) (fun j=>ks.length-j) 0 (⟨Nat.zero_le _,rfl⟩) (QQ (.cons rfl lr (.cons rfl lr (.cons rfl lr (.cons rfl lr .nil)))) (Reown.refl _) (fun _ h=>by first|exact h|simp[h])) ?_))))))
  intro j ⟨hj,hs⟩
  refine J.conv (by(try simp only[nl,Qj,QA,QC,Qy,QZ,AV.cellsOf,Qc,Qd,Nat.reduceAdd]);rfl) ?_
  refine Zs (Zq rfl (QW.lss (.r rfl) (.r rfl)) (Zn (J.seq ?_)))
  refine J.cond (.r rfl) (fun c1=>?_) (fun c1=>?_)
  · skip
    have hlt:j<ks.length:=by simpa[Yz]using c1
    have hlt2:j<l.length:=by omega
    refine Zk (J.seq (J.block (Zs (Zm rfl (Zq rfl (Qi Ks UA rfl (.r rfl) (.r rfl) rfl (by exact H0 hlt)) ?_)))))
    refine Zt UA rfl (Za rfl (Za rfl (Zn (Qg (Zm rfl (Zm rfl (Zq rfl (Qi QU Ql rfl (.r rfl) (.r rfl) rfl (by exact V.css_getE _ hlt2)) ?_)))))))
    refine Ze UZ rfl (Zq rfl (Qv UA (.r rfl) (DT _ _)) (Zm rfl (Zq rfl (QW.eql (.r rfl) (.r rfl)) ?_)))
    refine Qn [] WL rfl Lent.nil (fun _=>(.cons (.r rfl) (.cons .const .nil))) (XL _ _) (.inl rfl) (fun k20 x20 o20 h20=>?_) (fun k20=>?_)
    rotate_left
    · skip
      refine blkQ.p (thenQ.p (thenQ.p (blkQ.p ?_)))
      exact⟨_,QI [] _,_,rfl,rfl,Qk [] _,PanR.pan (by rw[hs,HW hlt hlt2];simp only[Bool.and_eq_true];exact fun h=>k20 h.1)⟩
    obtain⟨rfl,rfl⟩:=h20
    refine JL.nil (blkQ.n (thenQ.n (Qg (Zq rfl (QW.add (.r rfl) .const (Yy (by omega))) (Zm rfl (Zn ?_))))))
    rw[HW hlt hlt2,k20,Bool.true_and]at hs
    exact⟨j+1,⟨hlt,hs⟩,by omega,QQ (.cons rfl lr (.cons rfl lr (.cons rfl lr (.cons rfl lr .nil)))) (Reown.refl _) (fun _ h=>by first|exact h|simp[h])⟩
  have hge:ks.length≤j:=by simpa[Yz]using c1
  exact J.exit (Qz (Qz (QY (Zr [] (RetEv.none rfl) rfl (PanR.ret (by rw[hs,List.drop_of_length_le hge];cases l.drop j<;>rfl) ⟨rfl,rfl⟩)))))
theorem Ck{fr:Bool}{v:V}{s:StT}{ys:List AV}(hv:Vc fr v ys)(hw:v.wf)(hs:s.wf):AC Tryz.prog 277 [] [.agg ys,.agg s.cs] (PanR ((v.getv [s]).2=0) (WT (v.getv [s]).2) fun x o=>x=.agg ((v.getv [s]).1.cs true)∧o=[]):=by
  subst hv
  obtain⟨sk,key,ix⟩:=s
  have hp:[StT.mk sk key ix].length*32≤Qr∧∀x∈[StT.mk sk key ix],x.wf:=⟨by unfold Qr;simp,fun x hx=>by rw[List.mem_singleton.1 hx];exact hs⟩
  refine AC.of_J Tryz.func277 rfl Tryz.ntmps277 rfl fun w0 A0=>?_
  refine Zs (Qs (.r rfl) rfl fun b2=>Qs (.r rfl) rfl fun b3=>JL.alloc Yd rfl rfl fun b4=>Zn (Zs (Zq rfl (Qe 2 Ql (.r rfl) rfl (Qo vl rfl) vl) (Zq rfl (Qe 1 K2 (.r rfl) rfl rfl rfl) (Zq rfl (QW.buildSlice (idx:=[0]) (xs:=StT.css [⟨sk,key,ix⟩]) HP Px ND rfl (.cons (.r rfl) .nil) rfl rfl rfl rfl rfl rfl rfl rfl rfl) (Zq rfl (QW.call SX (.cons (.r rfl) (.cons (.r rfl) .nil)) (get_ok (p:=[StT.mk sk key ix]) Vc.self hw hp)) ?_))))))
  refine Zm rfl (Zx rfl (Zx rfl (JL.alloc Yd rfl rfl fun b5=>Qa 0 Ql (.r rfl) rfl (.r rfl) rfl vl rfl rfl (Za rfl (Zn (Zs (Zm rfl (Zq rfl (QW.eql (.r rfl) .const) ?_))))))))
  refine Zm rfl ?_
  refine Qn [] WL rfl Lent.nil (fun _=>(.cons (.r rfl) (.cons (.r rfl) .nil))) (XL _ _) (.inl rfl) (fun k17 x17 o17 h17=>?_) (fun k17=>?_)
  rotate_left
  · skip
    refine thenQ.p ?_
    exact⟨_,QI [.k,.k,.k,.k] _,_,rfl,rfl,Qk [.k,.k,.k,.k] _,PanR.pan (by simpa using k17)⟩
  obtain⟨rfl,rfl⟩:=h17
  exact Zn (Zs (Zq rfl (Qe 0 Ql (.r rfl) rfl (Qo vl rfl) vl) (Qa 1 Ql (.r rfl) rfl (.r rfl) rfl vl rfl rfl (Zn (J.ret (Zr [.k,.k,.k,.k] (RetEv.one rfl (REv.cell 1 Ql rfl rfl (Qo vl rfl) vl lr)) rfl (PanR.ret (by simpa using k17) ⟨rfl,rfl⟩)))))))
theorem G3(o:Int)(a b:Nat):Fn Tryz.prog 259 [.c (.int .i64 o),.c (.int .u64 (a:Int)),.c (.int .u64 (b:Int))] (.agg ((V.nu (DO o a b)).cs false)):=by
  refine AC.of_J Tryz.func259 rfl Tryz.ntmps259 rfl fun w0 A0=>?_
  refine Zs (JL.alloc Yd rfl rfl fun b6=>Zn (J.seq (Zs (Zm rfl (Zn (J.block (Zs (Zq rfl (QW.eql (.r rfl) .const) ?_))))))))
  refine Za rfl (Zn ?_)
  refine J.cond (.r rfl) (fun c1=>?_) (fun c1=>?_)
  · try (exfalso;simp at*;omega;done)
    all_goals
      exact Zs (Zm rfl (Zm rfl (Zq rfl (QW.call Qae (.cons (.r rfl) (.cons (.r rfl) .nil)) (add_ok _ _)) (Zq rfl (QW.call X7 (.cons (.r rfl) .nil) (Gl _)) (Qa 0 Ql (.r rfl) rfl (.r rfl) rfl rfl rfl rfl (Zn (J.ret (blkQ.r (thenQ.r (Zr [.k] (RetEv.one rfl (REv.cell 0 Ql rfl rfl rfl rfl lr)) rfl ⟨by rw[show DO o a b=Wd .add a b by simp at*;simp[DO, *]];rfl,rfl⟩))))))))))
  try (exfalso;simp at*;omega;done)
  all_goals
    refine Zs (Zq rfl (QW.eql (.r rfl) .const) (Za rfl (Zn ?_)))
    refine J.cond (.r rfl) (fun c2=>?_) (fun c2=>?_)
    · try (exfalso;simp at*;omega;done)
      all_goals
        exact Zs (Zm rfl (Zm rfl (Zq rfl (QW.call Qad (.cons (.r rfl) (.cons (.r rfl) .nil)) (sub_ok _ _)) (Zq rfl (QW.call X7 (.cons (.r rfl) .nil) (Gl _)) (Qa 0 Ql (.r rfl) rfl (.r rfl) rfl rfl rfl rfl (Zn (J.ret (blkQ.r (thenQ.r (Zr [.k] (RetEv.one rfl (REv.cell 0 Ql rfl rfl rfl rfl lr)) rfl ⟨by rw[show DO o a b=Wd .sub a b by simp at*;simp[DO, *]];rfl,rfl⟩))))))))))
    try (exfalso;simp at*;omega;done)
    all_goals
      refine Zs (Zq rfl (QW.eql (.r rfl) .const) (Za rfl (Zn ?_)))
      refine J.cond (.r rfl) (fun c3=>?_) (fun c3=>?_)
      · try (exfalso;simp at*;omega;done)
        all_goals
          exact Zs (Zm rfl (Zm rfl (Zq rfl (QW.call Qac (.cons (.r rfl) (.cons (.r rfl) .nil)) (mul_ok _ _)) (Zq rfl (QW.call X7 (.cons (.r rfl) .nil) (Gl _)) (Qa 0 Ql (.r rfl) rfl (.r rfl) rfl rfl rfl rfl (Zn (J.ret (blkQ.r (thenQ.r (Zr [.k] (RetEv.one rfl (REv.cell 0 Ql rfl rfl rfl rfl lr)) rfl ⟨by rw[show DO o a b=Wd .mul a b by simp at*;simp[DO, *]];rfl,rfl⟩))))))))))
      try (exfalso;simp at*;omega;done)
      all_goals
        refine J.skip (blkQ.n (thenQ.n (Zs (Zm rfl (Zm rfl (Zq rfl (QW.call Qab (.cons (.r rfl) (.cons (.r rfl) .nil)) (quo_ok _ _)) (Zq rfl (QW.call X7 (.cons (.r rfl) .nil) (Gl _)) (Qa 0 Ql (.r rfl) rfl (.r rfl) rfl rfl rfl rfl (Zn ?_)))))))))
        exact J.ret (Zr [.k] (RetEv.one rfl (REv.cell 0 Ql rfl rfl rfl rfl lr)) rfl ⟨by rw[show DO o a b=Wd .quo a b by simp at*;simp[DO, *]];rfl,rfl⟩)

end
section
/- What is set is got; what parts from its path stays. -/
theorem DR{v w x:V}{p:List StT}(h:v.setv p x=(w,0)):v.err=0∧x.err=0∧v.set p x=(w,0)∧w.err=0:=by
  unfold V.setv at h
  split at h
  · rename_i h1;exact absurd (congrArg (·.2) h) h1
  · rename_i h1
    split at h
    · rename_i h2;exact absurd (congrArg (·.2) h) h2
    · rename_i h2
      split at h
      · rename_i h3;exact absurd (congrArg (·.2) h) h3
      · rename_i h3
        split at h
        · rename_i h4;exact absurd (congrArg (·.2) h) h4
        · rename_i h4
          have hw:(v.set p x).1=w:=congrArg (·.1) h
          exact⟨by simpa using h1,by simpa using h2,Prod.ext hw (by simpa using h3),by rw[← hw];simpa using h4⟩

end
section
/- What expressions come to may be; the fuel that they take. -/
/-! ### values that may be -/
mutual
theorem Ml:∀(v:V) (lev n:Int),(v.chk lev n).1=0→(v.chk lev n).2=n+v.sz
  |.mk k b t ks is,lev,n,h=>by
    unfold V.chk at h⊢
    split at h
    · simp at h
    · split at h
      · simp at h
      · split at h
        · simp at h
        · rename_i h1 h2 h3
          rw[if_neg h1,if_neg h2,if_neg h3,Ns is lev (n+1) h]
          simp only[V.sz];omega
theorem Ns:∀(l:List V) (lev n:Int),(V.chks l lev n).1=0→(V.chks l lev n).2=n+V.szs l
  |[],lev,n,h=>by simp[V.chks,V.szs]
  |x::r,lev,n,h=>by
    unfold V.chks at h⊢
    split at h
    · rename_i h';exact absurd h h'
    · rename_i h'
      rw[if_neg h',Ns r lev _ h,Ml x (lev+1) n (by simpa using h')]
      simp only[V.szs];omega
end
mutual
theorem Mm:∀(v:V) (lev lev' n n':Int),(v.chk lev n).1=0→lev'≤lev→n'≤n→(v.chk lev' n').1=0
  |.mk k b t ks is,lev,lev',n,n',h,h1,h2=>by
    unfold V.chk at h⊢
    split at h
    · simp at h
    · split at h
      · simp at h
      · split at h
        · simp at h
        · rename_i a1 a2 a3
          rw[if_neg (by omega),if_neg (by omega),if_neg a3]
          exact H5 is lev lev' (n+1) (n'+1) h h1 (by omega)
theorem H5:∀(l:List V) (lev lev' n n':Int),(V.chks l lev n).1=0→lev'≤lev→n'≤n→(V.chks l lev' n').1=0
  |[],lev,lev',n,n',h,h1,h2=>rfl
  |x::r,lev,lev',n,n',h,h1,h2=>by
    unfold V.chks at h⊢
    split at h
    · rename_i h';exact absurd h h'
    · rename_i h'
      have hx:=Mm x (lev+1) (lev'+1) n n' (by simpa using h') (by omega) h2
      have e1:=Ml x (lev+1) n (by simpa using h')
      have e2:=Ml x (lev'+1) n' hx
      rw[if_neg (by simp[hx])]
      exact H5 r lev lev' _ _ h h1 (by omega)
end
theorem Mk:∀{l:List V} {lev n:Int},0≤lev→0≤n→(V.chks l lev n).1=0→∀x∈l,x.err=0
  |[],lev,n,_,_,h,x,hx=>by cases hx
  |y::r,lev,n,hl,hn,h,x,hx=>by
    unfold V.chks at h
    split at h
    · rename_i h';exact absurd h h'
    · rename_i h'
      have h'':(y.chk (lev+1) n).1=0:=by simpa using h'
      rcases List.mem_cons.1 hx with rfl|hx
      · exact Mm _ _ _ _ _ h'' (by omega) hn
      · have:=(V.chk_bounds y (lev+1) n).1
        exact Mk hl (by omega) h x hx
theorem FF{v x:V}(h:v.err=0)(hx:x∈v.items):x.err=0:=by
  obtain⟨k,b,t,ks,is⟩:=v
  unfold V.err V.chk at h
  rw[if_neg (by decide),if_neg (by decide)]at h
  split at h
  · simp at h
  · exact Mk (by decide) (by decide) h x hx
structure V.good(v:V):Prop where
  wf:v.wf
  err:v.err=0
theorem V.good.kid{v x:V}(h:v.good)(hx:x∈v.items):x.good:=⟨h.wf.kid hx,FF h.err hx⟩
theorem V.good.fine{v:V}(h:v.good):v.Fine:=V.fine_of h.err
theorem Mg{k:Int}{b:Nat}{t:QN}(h:Uc (.mk k b t [] [])=true):(V.mk k b t [] []).err=0:=by
  unfold V.err V.chk
  rw[if_neg (by decide),if_neg (by decide),if_neg (by simp[h])];rfl
theorem Xj:V.nil.good:=⟨V.wf_nil,by decide⟩
theorem Yw(b:Bool):(V.tr b).good:=by cases b<;>exact⟨.mk (by decide) (by decide) (by decide) (by decide) (by decide) (fun _ h=>by cases h) (fun _ h=>by cases h),by decide⟩
theorem KX{b:Nat}(hb:b<2^64)(h:UT b=b):(V.nu b).good:=
  ⟨.mk (by decide) hb (by decide) (by decide) (by decide) (fun _ h=>by cases h) (fun _ h=>by cases h),Mg (by simp[Uc,h])⟩
theorem XR{t:QN}(h:t.length≤128):(V.tx t).good:=
  ⟨.mk (by decide) (by decide) (by unfold Qr;omega) (by decide) (by decide) (fun _ h=>by cases h) (fun _ h=>by cases h),Mg (by simp[Uc,h])⟩
theorem HF{c:Nat}(h:isNan c=false):UT c=c:=by simp[UT,h]
theorem DN(op:BinOp)(a b:Nat):Wd op a b<2^64∧UT (Wd op a b)=Wd op a b:=by
  unfold Wd
  cases h:UH op a b with
  |none=>exact⟨by decide,by decide⟩
  |some c=>have:=H2 h;exact⟨this.2,HF this.1⟩
theorem TB(o:Int)(a b:Nat):DO o a b<2^64∧UT (DO o a b)=DO o a b:=by
  unfold DO;repeat' split
  all_goals exact DN _ _ _
theorem L2(b:Nat):Ka b<2^64∧UT (Ka b)=Ka b:=by
  unfold Ka
  cases h:isNan b with
  |true=>rw[if_pos rfl];exact⟨by decide,by decide⟩
  |false=>exact⟨Gc _,HF (XV (Kg h .down))⟩
theorem RW(n:Int):SF n<2^64∧UT (SF n)=SF n:=by
  unfold SF
  split
  · exact⟨by decide,by decide⟩
  · rename_i h
    obtain⟨r,h1,_,h2,_⟩:=CY (n:=n) (by omega)
    exact⟨Db,HF (by unfold nearN;rw[h2];exact Gr (by omega))⟩
theorem LT:∀(k n:Nat),n<10^(k+1)→(Gm n).length≤k+1
  |0,n,h=>by unfold Gm;rw[if_pos (by simpa using h)];simp
  |k+1,n,h=>by
    unfold Gm
    split
    · simp
    · rw[List.length_append,List.length_singleton]
      have:=LT k (n / 10) (by rw[Nat.pow_succ]at h;omega)
      omega
theorem Xs(b:Nat)(h:YG b=0): -9007199254740992≤YP b∧YP b≤9007199254740992:=by
  unfold YP
  split
  · omega
  · rename_i h1
    have:=HO (b:=b) (by omega)
    unfold svF;have h4:(2:Nat)^53=9007199254740992:=by decide
    rw[h4]at this;generalize UF (Q7 b) / Uz=q at*;split<;>omega
theorem H4:∀{p:List StT} {v:V},v.good→(v.walk p).2=0→(v.walk p).1.good
  |[],v,h,_=>h
  |s::r,v,h,he=>by
    unfold V.walk at he⊢
    split at he
    · rename_i h1;exact absurd he h1
    · rename_i h1
      rw[if_neg h1]
      have hlt:=G6 h.fine.part (by simpa using h1)
      exact H4 (h.kid (XQ hlt)) he
theorem Na{v u:V}{s:StT}(h:v.good)(hg:La v s=.ok u):u.good:=by
  unfold La at hg
  split at hg
  · rename_i he
    cases hg
    unfold V.getv at he⊢
    rw[if_neg (by simp[h.err])]at he⊢
    exact H4 h he
  · cases hg
theorem MV{v u x:V}{s:StT}(h:v.good)(hs:s.wf)(hx:x.good)(hg:NJ v s x=.ok u):u.good:=by
  unfold NJ at hg
  split at hg
  · rename_i he
    cases hg
    refine⟨FD h.wf (fun t ht=>by obtain rfl:=List.mem_singleton.1 ht;exact hs) hx.wf,?_⟩
    obtain⟨w,hw⟩:∃w,v.setv [s] x=(w,0):=⟨_,Prod.ext rfl he⟩
    rw[hw]
    exact(DR hw).2.2.2
  · cases hg
theorem Hn{l:List V}{u:V}(hl:∀x∈l,x.wf)(h:K5 (.li l)=.ok u):u=.li l∧u.good:=by
  unfold K5 at h
  split at h
  · rename_i he
    cases h
    refine⟨rfl,.mk (by decide) (by decide) (by decide) (by decide) ?_ (fun _ h=>by cases h) hl,he⟩
    have hp:=(V.fine_of he).part
    have:l.length≤32:=(Xa hp).1
    unfold Qr;omega
  · cases h
theorem V.good.bits{v:V}(h:v.good):v.bits<2^64:=by obtain⟨k,b,t,ks,is⟩:=v;exact h.wf.inv.2.1
theorem V.good.len{v:V}(h:v.good):v.items.length≤32:=(Xa h.fine.part).1
theorem BF{o:Int}{t:QN}{a u:V}(ha:a.good)(h:BG o t a=.ok u):u.good:=by
  unfold BG at h
  split at h
  · exact Na ha h
  · split at h
    · split at h
      · cases h
      · cases h;exact KX (RW _).1 (RW _).2
    · split at h
      · split at h
        · cases h;exact KX (L2 _).1 (L2 _).2
        · cases h
      · split at h
        · split at h
          · cases h;exact Yw _
          · cases h
        · split at h
          · cases h
          · split at h
            · cases h
            · rename_i he
              cases h
              have hb:=Xs a.bits (by simpa using he)
              have:=LT 15 (YP a.bits).natAbs (by omega)
              refine XR ?_
              unfold Ht;split<;>(try simp only[List.length_cons])<;>omega
theorem F2{o:Int}{t:QN}{a b u:V}(ht:t.length≤Qr)(ha:a.good)(hb:b.good)(h:F3 o t a b=.ok u):u.good:=by
  unfold F3 at h
  repeat' split at h
  all_goals first|(cases h;done)|skip
  · exact Na ha h
  · cases h;exact Yw _
  · cases h;exact Yw _
  · rename_i h1 h2;cases h;exact XR (by simp;omega)
  · exact MV ha ⟨show([]:QN).length≤Qr by unfold Qr;simp,by have:=ha.len;show(-9223372036854775808:Int)≤(a.items.length:Int)∧(a.items.length:Int)≤9223372036854775807;omega⟩ hb h
  · exact MV ha ⟨ht,show(-9223372036854775808:Int)≤0∧(0:Int)≤9223372036854775807 by decide⟩ hb h
  · cases h;exact KX (TB _ _ _).1 (TB _ _ _).2
theorem T5{o:Int}{t:QN}{l:List V}{u:V}(ht:t.length≤Qr)(hl:∀x∈l,x.good)(h:UI o t l=.ok u):u.good:=by
  unfold UI at h
  split at h
  · exact(Hn (fun x hx=>(hl x hx).wf) h).2
  · split at h
    · exact BF (hl _ (by simp)) h
    · exact F2 ht (hl _ (by simp)) (hl _ (by simp)) h
    · cases h
def OkE(f:Int)(d:Int)(r:ER V):Prop:=∀v f',r=.ok (v,f')→v.good∧f'≤f-d∧0≤f'
structure ScT.good(s:ScT):Prop where
  st:s.st.good
  ev:s.ev.good
  it:s.it.good
theorem M2{g:V→Int→ER V}(hg:∀x f,x.good→0≤f→OkE f 0 (g x f)):∀(l:List V) (f:Int),(∀x∈l,x.good)→0≤f→∀ys f',Hm g l f=.ok (ys,f')→(∀y∈ys,y.good)∧f'≤f∧0≤f'
  |[],f,hl,h0,ys,f',h=>by cases h;exact⟨fun y hy=>(by cases hy),Int.le_refl _,h0⟩
  |x::r,f,hl,h0,ys,f',h=>by
    unfold Hm at h
    split at h
    · cases h
    · rename_i y f1 h1
      split at h
      · cases h
      · rename_i l f2 h2
        cases h
        obtain⟨a1,a2,a3⟩:=hg x f (hl x (by simp)) h0 _ _ h1
        obtain⟨b1,b2,b3⟩:=M2 hg r f1 (fun z hz=>hl z (by simp[hz])) a3 _ _ h2
        exact⟨fun z hz=>(List.mem_cons.1 hz).elim (fun e=>e▸a1) (b1 z),by omega,b3⟩
theorem KN{r:ER V}{b:Bool}{f':Int}(h:Wa r=.ok (b,f')):∃v,r=.ok (v,f')∧v.kind=1∧b=(v.bits==1):=by
  unfold Wa at h
  split at h
  · cases h
  · split at h
    · rename_i v f hk;cases h;exact⟨v,rfl,hk,rfl⟩
    · cases h
theorem Ng{g:V→Int→ER V}(hg:∀x f,x.good→0≤f→OkE f 0 (g x f)):∀(l:List V) (f:Int),(∀x∈l,x.good)→0≤f→∀ys f',HB (fun x f=>Wa (g x f)) l f=.ok (ys,f')→(∀y∈ys,y∈l)∧f'≤f∧0≤f'
  |[],f,hl,h0,ys,f',h=>by cases h;exact⟨fun y hy=>(by cases hy),Int.le_refl _,h0⟩
  |x::r,f,hl,h0,ys,f',h=>by
    unfold HB at h
    split at h
    · cases h
    · rename_i b f1 h1
      split at h
      · cases h
      · rename_i l f2 h2
        cases h
        obtain⟨v,h3,_,_⟩:=KN h1
        obtain⟨a1,a2,a3⟩:=hg x f (hl x (by simp)) h0 _ _ h3
        obtain⟨b1,b2,b3⟩:=Ng hg r f1 (fun z hz=>hl z (by simp[hz])) a3 _ _ h2
        refine⟨fun z hz=>?_,by omega,b3⟩
        split at hz
        · exact(List.mem_cons.1 hz).elim (fun e=>by simp[e]) (fun h=>by simp[b1 z h])
        · simp[b1 z hz]
theorem Nf{g:V→Int→ER V}(hg:∀x f,x.good→0≤f→OkE f 0 (g x f)):∀(l:List V) (f:Int),(∀x∈l,x.good)→0≤f→OkE f 0 (Rc (fun x f=>Wa (g x f)) l f)
  |[],f,hl,h0,v,f',h=>by cases h
  |x::r,f,hl,h0,v,f',h=>by
    unfold Rc at h
    split at h
    · cases h
    · rename_i b f1 h1
      obtain⟨u,h3,_,_⟩:=KN h1
      obtain⟨a1,a2,a3⟩:=hg x f (hl x (by simp)) h0 _ _ h3
      split at h
      · cases h;exact⟨hl x (by simp),by omega,a3⟩
      · obtain⟨b1,b2,b3⟩:=Nf hg r f1 (fun z hz=>hl z (by simp[hz])) a3 _ _ h
        exact⟨b1,by omega,b3⟩
theorem R1{r:ER (List V)}{v:V}{f:Int}(h:Xq r=.ok (v,f)):∃l,r=.ok (l,f)∧K5 (.li l)=.ok v:=by
  unfold Xq at h
  split at h
  · cases h
  · split at h
    · cases h
    · rename_i h1;cases h;exact⟨_,rfl,h1⟩
theorem T7{o:Int}{g:V→Int→ER V}{r:ER V}{f:Int}(hr:OkE f 0 r)(hg:∀x f,x.good→0≤f→OkE f 0 (g x f)):OkE f 0 (XK o g r):=fun v f' h=>by
  unfold XK at h
  split at h
  · cases h
  · rename_i u f1
    obtain⟨a1,a2,a3⟩:=hr u f1 rfl
    have hk:∀x∈u.items,x.good:=fun x hx=>a1.kid hx
    split at h
    · cases h
    · split at h
      · obtain⟨l,h1,h2⟩:=R1 h
        obtain⟨b1,b2,b3⟩:=M2 hg _ _ hk a3 _ _ h1
        exact⟨(Hn (fun x hx=>(b1 x hx).wf) h2).2,by omega,b3⟩
      · split at h
        · obtain⟨l,h1,h2⟩:=R1 h
          obtain⟨b1,b2,b3⟩:=Ng hg _ _ hk a3 _ _ h1
          exact⟨(Hn (fun x hx=>(hk x (b1 x hx)).wf) h2).2,by omega,b3⟩
        · obtain⟨b1,b2,b3⟩:=Nf hg _ _ hk a3 _ _ h
          exact⟨b1,by omega,b3⟩
mutual
theorem UL:∀(e:EX) (s:ScT) (f:Int),e.Fine→e.wf→s.good→OkE f 1 (e.ev s f)
  |.mk o b t l,s,f,hf,hw,hs,v,f',h=>by
    have hok:=hf.part
    obtain⟨-,hb,ht,-,hwl⟩:=hw.inv
    have hbd:=Hb hok
    rw[EX.ev]at h
    by_cases h0:f<1
    · rw[if_pos h0]at h;cases h
    rw[if_neg h0]at h
    by_cases c:o=0
    · rw[if_pos c]at h
      cases h;exact⟨Xj,by omega,by omega⟩
    rw[if_neg c]at h;clear c
    by_cases c:o=1
    · rw[if_pos c]at h
      cases h;exact⟨Yw _,by omega,by omega⟩
    rw[if_neg c]at h;clear c
    by_cases c:o=2
    · rw[if_pos c]at h
      cases h;exact⟨Yw _,by omega,by omega⟩
    rw[if_neg c]at h;clear c
    by_cases c:o=3
    · rw[if_pos c]at h
      cases h
      refine⟨KX hb ?_,by omega,by omega⟩
      subst c
      have h9:(if(3:Int)=3 then UT b==b else b==0)=true:=by simp only[EX.ok,Bool.and_eq_true]at hok;exact hok.2
      simpa using h9
    rw[if_neg c]at h;clear c
    by_cases c:o=4
    · rw[if_pos c]at h
      cases h;exact⟨XR hbd.2.2.1,by omega,by omega⟩
    rw[if_neg c]at h;clear c
    by_cases c:o=5
    · rw[if_pos c]at h
      cases h;exact⟨hs.st,by omega,by omega⟩
    rw[if_neg c]at h;clear c
    by_cases c:o=6
    · rw[if_pos c]at h
      cases h;exact⟨hs.ev,by omega,by omega⟩
    rw[if_neg c]at h;clear c
    by_cases c:o=7
    · rw[if_pos c]at h
      cases h;exact⟨hs.it,by omega,by omega⟩
    rw[if_neg c]at h;clear c
    by_cases c:o=18
    · rw[if_pos c]at h
      obtain⟨a1,a2,a3⟩:=Hc false l s (f-1) (fun x hx=>⟨hf.kid hx,hwl x hx⟩) hs v f' h;exact⟨a1,by omega,a3⟩
    rw[if_neg c]at h;clear c
    by_cases c:o=19
    · rw[if_pos c]at h
      obtain⟨a1,a2,a3⟩:=Hc true l s (f-1) (fun x hx=>⟨hf.kid hx,hwl x hx⟩) hs v f' h;exact⟨a1,by omega,a3⟩
    rw[if_neg c]at h;clear c
    by_cases c:o=21
    · rw[if_pos c]at h
      obtain⟨a1,a2,a3⟩:=Rz l s (f-1) (fun x hx=>⟨hf.kid hx,hwl x hx⟩) hs v f' h;exact⟨a1,by omega,a3⟩
    rw[if_neg c]at h;clear c
    by_cases c:o=27∨o=28∨o=29
    · rw[if_pos c]at h
      obtain⟨a1,a2,a3⟩:=Ry o l s (f-1) (fun x hx=>⟨hf.kid hx,hwl x hx⟩) hs v f' h;exact⟨a1,by omega,a3⟩
    rw[if_neg c]at h;clear c
    split at h
    · cases h
    · rename_i vs f1 h1
      split at h
      · cases h
      · rename_i u h2
        cases h
        obtain⟨a1,a2,a3⟩:=H8 l s (f-1) (fun x hx=>⟨hf.kid hx,hwl x hx⟩) hs (by omega) _ _ h1
        exact⟨T5 ht a1 h2,by omega,a3⟩
theorem H8:∀(l:List EX) (s:ScT) (f:Int),(∀x∈l,x.Fine∧x.wf)→s.good→0≤f→∀vs f',Uy l s f=.ok (vs,f')→(∀x∈vs,x.good)∧f'≤f∧0≤f'
  |[],s,f,hl,hs,h0,vs,f',h=>by unfold Uy at h;cases h;exact⟨fun x hx=>(by cases hx),Int.le_refl _,h0⟩
  |x::r,s,f,hl,hs,h0,vs,f',h=>by
    unfold Uy at h
    split at h
    · cases h
    · rename_i v f1 h1
      split at h
      · cases h
      · rename_i vs f2 h2
        cases h
        obtain⟨a1,a2,a3⟩:=UL x s f (hl x (by simp)).1 (hl x (by simp)).2 hs _ _ h1
        obtain⟨b1,b2,b3⟩:=H8 r s f1 (fun z hz=>hl z (by simp[hz])) hs a3 _ _ h2
        exact⟨fun z hz=>(List.mem_cons.1 hz).elim (fun e=>e▸a1) (b1 z),by omega,b3⟩
theorem Hc:∀(k:Bool) (l:List EX) (s:ScT) (f:Int),(∀x∈l,x.Fine∧x.wf)→s.good→OkE f 1 (UX k l s f)
  |k,[],s,f,hl,hs,v,f',h=>by unfold UX at h;cases h
  |k,[_],s,f,hl,hs,v,f',h=>by unfold UX at h;cases h
  |k,x::y::_,s,f,hl,hs,v,f',h=>by
    unfold UX at h
    split at h
    · cases h
    · rename_i b1 f1 h1
      obtain⟨u,h2,_,_⟩:=KN h1
      obtain⟨a1,a2,a3⟩:=UL x s f (hl x (by simp)).1 (hl x (by simp)).2 hs _ _ h2
      split at h
      · cases h;exact⟨Yw _,by omega,a3⟩
      · split at h
        · cases h
        · rename_i b2 f2 h3
          obtain⟨u,h4,_,_⟩:=KN h3
          obtain⟨b1,b2,b3⟩:=UL y s f1 (hl y (by simp)).1 (hl y (by simp)).2 hs _ _ h4
          cases h;exact⟨Yw _,by omega,b3⟩
theorem Rz:∀(l:List EX) (s:ScT) (f:Int),(∀x∈l,x.Fine∧x.wf)→s.good→OkE f 1 (Wn l s f)
  |[],s,f,hl,hs,v,f',h=>by unfold Wn at h;cases h
  |[_],s,f,hl,hs,v,f',h=>by unfold Wn at h;cases h
  |[_,_],s,f,hl,hs,v,f',h=>by unfold Wn at h;cases h
  |x::y::z::_,s,f,hl,hs,v,f',h=>by
    unfold Wn at h
    split at h
    · cases h
    · rename_i b1 f1 h1
      obtain⟨u,h2,_,_⟩:=KN h1
      obtain⟨a1,a2,a3⟩:=UL x s f (hl x (by simp)).1 (hl x (by simp)).2 hs _ _ h2
      split at h
      · obtain⟨b1,b2,b3⟩:=UL y s f1 (hl y (by simp)).1 (hl y (by simp)).2 hs _ _ h;exact⟨b1,by omega,b3⟩
      · obtain⟨b1,b2,b3⟩:=UL z s f1 (hl z (by simp)).1 (hl z (by simp)).2 hs _ _ h;exact⟨b1,by omega,b3⟩
theorem Ry:∀(o:Int) (l:List EX) (s:ScT) (f:Int),(∀x∈l,x.Fine∧x.wf)→s.good→OkE f 0 (Yp o l s f)
  |o,[],s,f,hl,hs,v,f',h=>by unfold Yp at h;cases h
  |o,[_],s,f,hl,hs,v,f',h=>by unfold Yp at h;cases h
  |o,x::y::_,s,f,hl,hs,v,f',h=>by
    unfold Yp at h
    have h1:OkE f 0 (x.ev s f):=fun u f1 h1=>by
      obtain⟨a1,a2,a3⟩:=UL x s f (hl x (by simp)).1 (hl x (by simp)).2 hs _ _ h1
      exact⟨a1,by omega,a3⟩
    exact T7 (g:=fun it f=>y.ev {s with it} f) h1 (fun z g hz hg u f1 h2=>by
      obtain⟨a1,a2,a3⟩:=UL y {s with it:=z} g (hl y (by simp)).1 (hl y (by simp)).2 ⟨hs.st,hs.ev,hz⟩ _ _ h2
      exact⟨a1,by omega,a3⟩) v f' h
end

end
section
/- A function value is called that may panic. -/
section
variable {P:Program} {E:Wy} {Q:Exit→St→Prop} {n:Nat} {env:List (Nat×AV)} {own:List Own} {F:List (Value×AV)} {D:List Deferred} {ops:Array Oper} {rest:List Oper}
variable {ty:TypeId} {pos:String} {af:Array Edge} {d:Nat}
theorem FM(ms:List Cd){f:FuncId}{fo:Operand}{fi ca:List Value}{l:List Operand}{tys:Array TypeId}{xs zs:List AV}{ok:Prop}{e:Value}{Rx:AV→List Own→Prop}{G:List (Value×AV)}(hf:QJ P f=true)(hd:Nat.blt d n=true)
    (hfo:Ev E ⟨n,env,own,F,D⟩ fo (.c (.func (.func f) fi.toArray ca.toArray))) (hG:Lent G (Wg ms own)) (hargs:∀E',EvL E' ⟨n,env,QI ms own++Yf ms own,G++F,D⟩ l xs) (hzs:fi.map AV.c++xs++ca.map AV.c=zs) (hAC:AC P f (QI ms own) zs (PanR ok e Rx))
    (hfr:Wg ms own=[]∨Mt Rx)
    (hret:ok→∀x own',Rx x own'→JL P E ops rest ⟨n,(d,x)::env,QZ ms own' own,F,D⟩ Q)
    (hpan:¬ok→Q (.panic [{v:=e,recovered:=false}]) ⟨n,env,QZ ms [] own,F,D⟩):
    JL P E ops (⟨some d,.call ⟨.value fo,l.toArray,tys⟩,ty,pos,af,none⟩::rest) ⟨n,env,own,F,D⟩ Q:=
  JL.callG ms hf hd hfo hG hargs hzs hAC (hfr.imp id fun h r o hR=>by
      rcases hR with ⟨_,x,h1,h2⟩|⟨_,h1,h2⟩
      · subst h1;exact h x o h2
      · subst h1 h2;exact⟨trivial,fun x hx=>by cases hx⟩)
    (fun x own' hR=>by
      rcases hR with ⟨h0,y,h1,h2⟩|⟨_,h1,_⟩
      · cases h1;exact hret h0 _ _ h2
      · cases h1)
    (fun v own' hR=>by
      rcases hR with ⟨_,y,h1,_⟩|⟨h0,h1,h2⟩
      · cases h1
      · cases h1;subst h2;exact hpan h0)
end

end
section
/- A place within an owned value: what the whole is when another value stands there. -/
theorem Reown.fold{b cap:Nat}{ys:List AV}{v:Value}{e:U7}{xs:List (List AV)}(hv:v=sv b 0 xs.length (cap+1))(hle:xs.length≤cap+1)
    (hs:∀x∈xs,x.length=e.sz) (hl:ys.length=(cap+1)*e.sz) (hp:ys.take xs.flatten.length=xs.flatten):Reown [.box b ys] [.arr v e xs]:=by
  subst hv
  refine⟨fun x=>by simp[QT,UW,Own.fp,KH,sv],fun w A h=>?_⟩
  simp only[List.forall_mem_cons,List.not_mem_nil,false_implies,implies_true,and_true]at h⊢
  simp only[Own.ok]at h⊢
  obtain⟨us,t,h1,h2,h3⟩:=h
  refine .inr ⟨b,cap,us,t,rfl,h1,hle,⟨by rw[h2,hl],fun k u hu=>?_⟩,hs,fun k y hk=>?_⟩
  · have hk:k<ys.length:=by rw[← h2];exact(Array.getElem?_eq_some_iff.1 hu).1
    obtain⟨u',g1,g2,_⟩:=h3 k _ (List.getElem?_eq_getElem hk)
    rw[Nat.zero_add,hu]at g1
    cases g1;exact g2
  · refine h3 k y ?_
    have hk1:=(List.getElem?_eq_some_iff.1 hk).1
    rw[← hp]at hk
    rw[List.getElem?_take]at hk
    rwa [if_pos hk1]at hk
theorem PO{o:Own}{a l:List Own}(h:Reown [o] a):Reown (o::l) (a++l):=
  (Reown.perm (List.perm_append_singleton o l).symm).trans ((Reown.left (c:=l) h).trans (Reown.perm List.perm_append_comm))
def Law(b:Nat)(pre post:List AV)(ctx:Own)(b0:Nat)(plug:V→V):Prop:=
  ∀(x:V) (kv iv:Value) (ok oi:Own),x.wf→VTr x kv iv ok oi→∃kw iw okw oiw,VTr (plug x) kw iw okw oiw∧Reown [.box b (pre++x.raw kv iv++post),ok,oi,ctx] [.box b0 ((plug x).raw kw iw),okw,oiw]
theorem PW(b:Nat):Law b [] [] (.grp []) b id:=fun x kv iv ok oi _ h=>⟨kv,iv,ok,oi,h,by
  rw[List.append_nil,List.nil_append]
  exact HG [.p,.p,.p] _ rfl⟩
theorem SS{is:List V}{cs:List (List AV)}{us:List Value}{o:Own}{i:Nat}(hlt:i<is.length)(hl:cs.length=is.length)(h3:∀x∈cs,x.length=5)(hf:cs.flatten=us.map AV.c)(h1:us.all (·.oneCell')=true)(h:TrL (V.css true is).flatten us o):
    ∃kv iv ok oi ob oa u1 u3,cs[i]? =some ((is[i]'hlt).raw kv iv)∧VTr (is[i]'hlt) kv iv ok oi∧TrL (V.css true (is.take i)).flatten u1 ob∧TrL (V.css true (is.drop (i+1))).flatten u3 oa∧(cs.take i).flatten=u1.map AV.c∧(cs.drop (i+1)).flatten=u3.map AV.c∧
      u1.all (·.oneCell')=true∧u3.all (·.oneCell')=true∧Reown [o] [ok,oi,ob,oa]:=by
  have hsp:(V.css true is).flatten=(V.css true (is.take i)).flatten++(V.css true (is.drop i)).flatten:=by
    rw[← List.flatten_append,← V.css_append,List.take_append_drop]
  rw[hsp]at h
  obtain⟨u1,u2,o1,o2,rfl,g1,g2,g3⟩:=h.split
  rw[List.all_append,Bool.and_eq_true]at h1
  have hlen:(cs.take i).flatten.length=u1.length:=by
    rw[← g1.length,QE (sz:=5) _ (fun x hx=>h3 x (List.mem_of_mem_take hx)),QE (sz:=5) _ (V.css_sz true _),V.css_length,List.length_take,List.length_take,hl]
  have hf2:(cs.take i).flatten++(cs.drop i).flatten=u1.map AV.c++u2.map AV.c:=by
    rw[← List.flatten_append,List.take_append_drop,hf,List.map_append]
  obtain⟨k1,k2⟩:=List.append_inj hf2 (by simpa using hlen)
  obtain⟨kv,iv,ok,oi,u3,o3,e1,e2,e3,e4,e5,e6⟩:=C6 hlt hl h3 k2 h1.2 g2
  refine⟨kv,iv,ok,oi,o1,o3,u1,u3,e1,e2,g1,e5,k1,e3,h1.1,e4,?_⟩
  exact(Wm g3).trans ((Reown.cons e6).trans (Reown.perm (by
    simpa using (List.perm_append_comm (l₁:=[o1]) (l₂:=[ok,oi])).append_right [o3])))
theorem Hj{α:Type}{l:List α}{i:Nat}{x:α}(h:i<l.length):l.set i x=l.take i++x::l.drop (i+1):=by
  rw[List.set_eq_take_append_cons_drop,if_pos h]
theorem Law.into{b b0 b2 cap i:Nat}{pre post:List AV}{ctx ok ob oa:Own}{plug:V→V}{u:V}{kv iv:Value}{cs:List (List AV)}{sp u1 u3:List Value}(hL:Law b pre post ctx b0 plug)(huw:u.wf)(hk1:kv.oneCell'=true)(hi1:iv.oneCell'=true)(hks:Tr (.sl true false Wz (QP u.keys)) kv ok)
    (hlt:i<u.items.length) (hcl:cs.length=u.items.length) (h5:∀x∈cs,x.length=5) (hiv:iv=sv b2 0 cs.length (cap+1)) (hcap:cs.length≤cap+1) (hsz:cs.flatten.length+sp.length=(cap+1)*5)
    (t1:TrL (V.css true (u.items.take i)).flatten u1 ob) (t3:TrL (V.css true (u.items.drop (i+1))).flatten u3 oa) (f1:(cs.take i).flatten=u1.map AV.c) (f3:(cs.drop (i+1)).flatten=u3.map AV.c) (a1:u1.all (·.oneCell')=true) (a3:u3.all (·.oneCell')=true):
    Law b2 (cs.take i).flatten ((cs.drop (i+1)).flatten++sp.map AV.c) (.grp [.box b (pre++u.raw kv iv++post),ok,ob,oa,ctx]) b0 (fun x=>plug (u.setAt i x)):=fun x kx ix okx oix hxw hx=>by
  have hclt:i<cs.length:=by omega
  have hflat:(cs.set i (x.raw kx ix)).flatten=(u1++(x.vals kx ix++u3)).map AV.c:=by
    rw[Hj hclt,List.flatten_append,List.flatten_cons,f1,f3,V.raw_eq,List.map_append,List.map_append]
  have hrl:(x.raw kx ix).length=5:=rfl
  have h5':∀z∈cs.set i (x.raw kx ix),z.length=5:=fun z hz=>(List.mem_or_eq_of_mem_set hz).elim (h5 z) fun e=>e▸rfl
  have hits:u.items.length*80≤Qr:=by obtain⟨k,b,t,ks,is⟩:=u;exact huw.inv.2.2.2.2.1
  have htl:TrL (V.css true (u.items.set i x)).flatten (u1++(x.vals kx ix++u3)) (.grp [ob,.grp [.grp [okx,oix],oa]]):=by
    rw[Hj hlt,V.css_append,List.flatten_append,V.css,List.flatten_cons]
    exact t1.append (hx.trL.append t3 (.refl _)) (.refl _)
  have hIt:Tr (.sl true false eV (V.css true (u.items.set i x))) iv (.grp [.arr iv eV (cs.set i (x.raw kx ix)),.grp [ob,.grp [.grp [okx,oix],oa]]]):=
    GO hflat (by simp[hcl]) h5' (by rw[List.all_append,List.all_append,a1,hx.ones,a3];rfl) (by simpa using hits) htl
  have hV:VTr (u.setAt i x) kv iv ok (.grp [.arr iv eV (cs.set i (x.raw kx ix)),.grp [ob,.grp [.grp [okx,oix],oa]]]):=⟨hk1,hi1,hks,hIt⟩
  obtain⟨kw,iw,okw,oiw,g1,g2⟩:=hL _ _ _ _ _ (Gx huw hxw) hV
  refine⟨kw,iw,okw,oiw,g1,Reown.trans ?_ g2⟩
  have hfold:Reown [.box b2 ((cs.take i).flatten++x.raw kx ix++((cs.drop (i+1)).flatten++sp.map AV.c))] [.arr iv eV (cs.set i (x.raw kx ix))]:=by
    have he:(cs.take i).flatten++x.raw kx ix++((cs.drop (i+1)).flatten++sp.map AV.c)=(cs.set i (x.raw kx ix)).flatten++sp.map AV.c:=by
      rw[Hj hclt,List.flatten_append,List.flatten_cons];simp
    have hl2:(cs.set i (x.raw kx ix)).flatten.length=cs.flatten.length:=by
      rw[QE (sz:=5) _ h5',QE (sz:=5) _ h5,List.length_set]
    rw[he]
    refine Reown.fold (cap:=cap) (by rw[List.length_set];exact hiv) (by rw[List.length_set];exact hcap) h5' ?_ (List.take_left)
    rw[List.length_append,List.length_map,hl2];exact hsz
  refine(PO (l:=[okx,oix,.grp [.box b (pre++u.raw kv iv++post),ok,ob,oa,ctx]]) hfold).trans ?_
  refine⟨fun y=>by simp only[QT,UW,Gu,List.count_append,List.count_nil,List.singleton_append,V.raw,V.setAt,V.kind,V.bits,V.text];simp only[Own.fp];omega,fun w A h=>?_⟩
  simp only[List.forall_mem_cons,List.singleton_append,Kw,List.not_mem_nil,false_implies,implies_true,and_true]at h⊢
  obtain⟨q1,q2,q3,q4,q5,q6,q7,q8⟩:=h
  exact⟨q4,q5,⟨q1,q6,⟨q2,q3⟩,q7⟩,q8⟩
structure At where
  b:Nat
  off:Nat
  pre:List AV
  post:List AV
  u:V
  kv:Value
  iv:Value
  ok:Own
  oi:Own
  ctx:Own
  plug:V→V
structure At.Ok(z:At)(b0:Nat):Prop where
  off:z.pre.length=z.off
  tr:VTr z.u z.kv z.iv z.ok z.oi
  law:Law z.b z.pre z.post z.ctx b0 z.plug
  fine:z.u.Fine
  wf:z.u.wf
def Yj(z:At)(u:V)(kv iv:Value):List AV:=z.pre++u.raw kv iv++z.post
theorem YH(z:At)(u:V)(kv iv:Value):Yj z u kv iv=z.pre++(u.raw kv iv++z.post):=List.append_assoc _ _ _
theorem Fj{z:At}{u:V}{kv iv:Value}(h:z.pre.length=z.off):((Yj z u kv iv).drop z.off).take 5=u.raw kv iv:=by
  rw[YH,← h,List.drop_left]
  exact List.take_left' rfl
theorem KS{z:At}{u:V}{kv iv:Value}(h:z.pre.length=z.off)(k:Nat)(hk:k<5):(Yj z u kv iv)[z.off+k]? =(u.raw kv iv)[k]? :=by
  rw[YH,List.getElem?_append_right (by omega),List.getElem?_append_left (by rw[show(u.raw kv iv).length=5 from rfl];omega)]
  congr 1;omega
theorem LF{α:Type}{a l c ys:List α}{k:Nat}(h:k+ys.length≤l.length):Q1 (a++(l++c)) (a.length+k) ys=a++(Q1 l k ys++c):=by
  unfold Q1
  rw[List.take_append,List.take_of_length_le (by omega),Nat.add_sub_cancel_left,List.take_append_of_le_length (by omega),Nat.add_assoc,List.drop_append,List.drop_eq_nil_of_le (by omega),List.nil_append,Nat.add_sub_cancel_left,List.drop_append_of_le_length h]
  simp
theorem Te{z:At}{u:V}{kv iv:Value}(h:z.pre.length=z.off){k:Nat}{x:AV}(hk:k<5):Q1 (Yj z u kv iv) (z.off+k) [x]=z.pre++(Q1 (u.raw kv iv) k [x]++z.post):=by
  rw[YH,← h,LF (by rw[show(u.raw kv iv).length=5 from rfl];simp;omega)]
theorem B5{z:At}{u x:V}{kv iv kx ix:Value}(h:z.pre.length=z.off):Q1 (Yj z u kv iv) z.off (x.raw kx ix)=Yj z x kx ix:=by
  have:=LF (a:=z.pre) (l:=u.raw kv iv) (c:=z.post) (ys:=x.raw kx ix) (k:=0) (by simp[V.raw])
  rw[Nat.add_zero,h]at this
  rw[YH,this,YH]
  rfl
theorem LV(z:At)(u:V)(kv iv:Value)(h:z.pre.length=z.off):(Yj z u kv iv).length=z.off+5+z.post.length:=by
  rw[YH,List.length_append,List.length_append,show(u.raw kv iv).length=5 from rfl];omega
section
variable {P:Program} {E:Wy} {st:St} {t et ty:TypeId} {pos:String} {af:Array Edge} {dd:Option Tmp} {gd:Option (Nat×Bool)} {x y:Operand} {g:Bool} {n B:Nat}
theorem D0{b off len cap m:Nat}{k:IntKind}{i:Int}(hU:P.underlying t=some (.slice et))(hT:Un P et=some (g,n,B))(hx:Ev E st x (.c (sv b off len cap)))(hi:Ev E st y (.c (.int k i)))(hm:i=(m:Int))(hlt:m<len):
    QW P E st ⟨dd,.indexAddr t x y,ty,pos,af,gd⟩ (.c (.pointer (some ⟨b,off+m*n,none⟩))):=.pure fun A a w hs=>by
  subst hm
  refine⟨.pointer (some ⟨b,off+m*n,none⟩),?_,.c _⟩
  simp only[execOp,hx.eq hs,hi.eq hs,Instr.indexAt,asIntOf,Sem.run_bind,Sem.run_pure,Result.andThen_ok,Qq _ hU]
  rw[if_pos (by omega)]
  simp[Us hT,Wv]
end

end
section
/- Guards that are known; arrays behind a pointer. -/
section
variable {P:Program} {E:Wy} {Q:Exit→St→Prop} {n:Nat} {env:List (Nat×AV)} {own:List Own} {F:List (Value×AV)} {D:List Deferred} {ops:Array Oper} {rest:List Oper}
variable {ty:TypeId} {pos:String} {af:Array Edge} {d:Option Nat} {op:Op}
theorem SatA.yield{A:QS}{a:Act}{w:World}{st:St}(hA:SatA E A st a w){j s:Nat}{g:Bool}(hs:(ops[j]?).bind (·.dst)=some s)(hl:lk st.env s=some (.c (.bool g))):yielded ops a.tmps j=some g:=by
  have h1:=(hA.env s _ hl).eq
  unfold yielded
  rw[hs]
  simp only[Option.bind_some]
  rw[Array.getD_eq_getD_getElem?]at h1
  cases h2:a.tmps[s]? with
  |none=>rw[h2]at h1;simp[undef]at h1
  |some v=>rw[h2]at h1;simp at h1;subst h1;rfl
theorem W2{j s:Nat}{want g:Bool}(hs:(ops[j]?).bind (·.dst)=some s)(hl:lk env s=some (.c (.bool g)))(hw:g=want)(h:JL P E ops (⟨d,op,ty,pos,af,none⟩::rest) ⟨n,env,own,F,D⟩ Q):
    JL P E ops (⟨d,op,ty,pos,af,some (j,want)⟩::rest) ⟨n,env,own,F,D⟩ Q:=fun a w ⟨A,hA⟩=>by
  have hy:=hA.yield hs hl
  have h1:=h a w ⟨A,hA⟩
  unfold wpListIn at h1⊢
  rw[if_pos (by simp[Region.wanted])]at h1
  rw[if_pos (by simp[Region.wanted,hy,hw])]
  exact h1
theorem Wq{d j s:Nat}{want g:Bool}(hs:(ops[j]?).bind (·.dst)=some s)(hn:Nat.blt d n=true)(hl:lk env s=some (.c (.bool g)))(hw:(g==want)=false)
    (h:JL P E ops rest ⟨n,(d,.wh false (.c .nilIface))::env,own,F,D⟩ Q):JL P E ops (⟨some d,op,ty,pos,af,some (j,want)⟩::rest) ⟨n,env,own,F,D⟩ Q:=fun a w ⟨A,hA⟩=>by
  have hy:=hA.yield hs hl
  unfold wpListIn
  rw[if_neg (by simp only[Region.wanted,hy];simpa using hw)]
  exact⟨fun _ _=>trivial,h _ _ ⟨A,hA.put (Ui hn) (.wh _ _ _ (fun h=>by cases h) fun _=>rfl)⟩⟩
variable {st:St} {x y t et s0:TypeId}
theorem Rp{b:Bool}{x y:Operand}(hx:Ev E st x (.c (.bool true)))(hy:Ev E st y (.c (.bool b))):QW P E st ⟨d,.pick x y (.const (.bool false)),ty,pos,af,none⟩ (.c (.bool b)):=.pure fun A a w hs=>
  ⟨_,by simp only[execOp,hx.eq hs,asBool,Sem.run_bind,Sem.run_pure,Result.andThen_ok];rfl,by rw[if_pos trivial,hy.eq hs];exact .c _⟩
theorem Rq{x y:Operand}(hx:Ev E st x (.c (.bool false))):QW P E st ⟨d,.pick x y (.const (.bool false)),ty,pos,af,none⟩ (.c (.bool false)):=.pure fun A a w hs=>
  ⟨_,by simp only[execOp,hx.eq hs,asBool,Sem.run_bind,Sem.run_pure,Result.andThen_ok];rfl,by simp[Act.eval];exact .c _⟩
theorem TL{b:Bool}{x y:Operand}(hx:Ev E st x (.c (.bool false)))(hy:Ev E st y (.c (.bool b))):QW P E st ⟨d,.pick x (.const (.bool true)) y,ty,pos,af,none⟩ (.c (.bool b)):=.pure fun A a w hs=>
  ⟨_,by simp only[execOp,hx.eq hs,asBool,Sem.run_bind,Sem.run_pure,Result.andThen_ok];rfl,by simp only[Bool.false_eq_true,if_false];rw[hy.eq hs];exact .c _⟩
theorem TK{x y:Operand}(hx:Ev E st x (.c (.bool true))):QW P E st ⟨d,.pick x (.const (.bool true)) y,ty,pos,af,none⟩ (.c (.bool true)):=.pure fun A a w hs=>
  ⟨_,by simp only[execOp,hx.eq hs,asBool,Sem.run_bind,Sem.run_pure,Result.andThen_ok];rfl,by simp[Act.eval];exact .c _⟩
variable {g:Bool} {sz B:Nat} {k:IntKind} {i:Int} {x y lo:Operand} {gd:Option (Nat×Bool)}
theorem Mo{b off ln m off':Nat}(hU:P.underlying t=some (.array ln et))(hT:Un P et=some (g,sz,B))(hx:Ev E st x (.c (.pointer (some ⟨b,off,none⟩))))(hi:Ev E st y (.c (.int k i)))(hm:i=(m:Int))(hlt:m<ln)(ho:off+m*sz=off'):
    QW P E st ⟨d,.indexAddr t x y,ty,pos,af,gd⟩ (.c (.pointer (some ⟨b,off',none⟩))):=.pure fun A a w hs=>by
  subst hm ho
  refine⟨.pointer (some ⟨b,off+m*sz,none⟩),?_,.c _⟩
  simp only[execOp,hx.eq hs,hi.eq hs,Instr.indexAt,asIntOf,Instr.sureAddr,Sem.run_bind,Sem.run_pure,Result.andThen_ok,Qq _ hU]
  rw[if_pos (by omega)]
  simp[Us hT,Wv]
theorem H7{b off ln l off':Nat}(hU:P.underlying t=some (.array ln et))(hT:Un P et=some (g,sz,B))(hx:Ev E st x (.c (.pointer (some ⟨b,off,none⟩))))(hlo:Ev E st lo (.c (.int k i)))(hi:i=(l:Int))(hl:l≤ln)(ho:(if ln=l then off else off+l*sz)=off'):
    QW P E st ⟨d,.slice t x (some lo) none none,ty,pos,af,gd⟩ (.c (sv b off' (ln-l) (ln-l))):=.pure fun A a w hs=>by
  refine⟨sv b off' (ln-l) (ln-l),?_,.c _⟩
  subst ho
  have e:(Instr.sliceAt t (.pointer (some ⟨b,off,none⟩)) (some (.int k (l:Int))) none none).run P w=.ok (sv b (if ln=l then off else off+l*sz) (ln-l) (ln-l)) w:=by
    simp only[Instr.sliceAt,Instr.sureAddr,Instr.sliceBounds,Sem.run_bind,Sem.run_pure,Result.andThen_ok,Qq _ hU,Us hT,KP hl]
    split
    · rfl
    · rw[Wv]
  simp only[execOp,hx.eq hs,Option.map_some,Option.map_none,Mu hlo hi hs,Sem.run_bind,e,Result.andThen_ok,Sem.run_pure]
theorem Mq(j:Nat){b off len cap:Nat}{ys:List AV}{l:List UInt8}{e8:TypeId}(hS:P.underlying s0=some (.slice e8))(hT:P.underlying t=some .string)(hE:P.underlying e8=some (.int .u8))(hx:Ev E st x (.c (sv b off len cap)))
    (ho:st.own[j]? =some (.box b ys)) (hy:(ys.drop off).take len=l.map fun b=>.c (.int .u8 (b.toNat:Int))) (hl:l.length=len):QW P E st ⟨d,.convert s0 t x,ty,pos,af,gd⟩ (.c (Q4 l)):=.pure fun A a w hs=>by
  obtain⟨us,t',hb,_,hc⟩:=hs.box j ho
  have hc2:=(hc.drop off).take len
  rw[Nat.zero_add,hy]at hc2
  refine⟨Q4 l,?_,.c _⟩
  have hrun:(Conv.bytesToString (sv b off len cap)).run P w=.ok (Q4 l) w:=by rw[← hl];exact CP hb hc2 cap
  simp only[execOp,hx.eq hs,Go.convert,Sem.run_bind,Qq _ hS,Qq _ hT,Result.andThen_ok]
  simp only[Qq _ hE,Result.andThen_ok,hrun,Sem.run_bind,Sem.run_pure]
end

end
section
/- Walks: the digits of a whole number. -/
set_option maxRecDepth 10000
set_option maxHeartbeats 4000000
def BL(d:QN):List AV:=d.map fun b=>.c (.int .u8 (b.toNat:Int))
def dgB(d:QN):List AV:=List.replicate (20-d.length) (.c (.int .u8 0))++BL d
theorem BK(d:QN):(BL d).length=d.length:=by simp[BL]
theorem Cl{d:QN}(h:d.length≤20):(dgB d).length=20:=by simp[dgB,BK];omega
theorem Tl{d:QN}(c:UInt8)(h:d.length<20):Q1 (dgB d) (19-d.length) [.c (.int .u8 (c.toNat:Int))]=dgB (c::d):=by
  obtain⟨k,hk⟩:∃k,20-d.length=k+1:=⟨19-d.length,by omega⟩
  have h1:19-d.length=k:=by omega
  unfold dgB Q1
  rw[hk,h1,List.length_singleton,List.take_append_of_le_length (by simp),List.take_replicate,Nat.min_eq_left (by omega),List.drop_append_of_le_length (by simp),List.drop_replicate,Nat.sub_self,List.length_cons,show 20-(d.length+1)=k by omega]
  simp[BL]
theorem Tm{d:QN}(h:d.length≤20):((dgB d).drop (20-d.length)).take d.length=d.map fun b=>.c (.int .u8 (b.toNat:Int)):=by
  unfold dgB
  rw[List.drop_append_of_le_length (by simp),List.drop_replicate,Nat.sub_self,List.replicate_zero,List.nil_append]
  exact List.take_of_length_le (by simp[BL])
theorem CZ{n m:Nat}{d:QN}(h:Gm n=(if m=0∧d≠[]then []else Gm m)++d)(hc:0<m∨d=[]):Gm n=(if m / 10=0∧(UInt8.ofNat (48+m%10)::d)≠[]then []else Gm (m / 10))++UInt8.ofNat (48+m%10)::d:=by
  rw[if_neg (fun h=>hc.elim (fun h1=>by omega) h.2)]at h
  rw[h]
  by_cases hm:m<10
  · rw[if_pos ⟨by omega,by simp⟩,Gm,if_pos hm,show m%10=m by omega];rfl
  · rw[if_neg (fun h=>by omega),Gm,if_neg hm,List.append_assoc];rfl
theorem digC{m:Nat}:((UInt8.ofNat (48+m%10)).toNat:Int)=48+((m%10:Nat):Int):=by
  rw[UInt8.toNat_ofNat',Nat.mod_eq_of_lt (by omega)];omega
def digE(b:Nat):AV:=.tup [.c (Q4 (if YG b=0 then Ht (YP b)else [])),.c (.int .i64 (if YG b=0 then 0 else 7))]
theorem Nk(b:Nat)(hb:b<2^64):Fn Tryz.prog 50 [.c (.int .u64 (b:Int))] (digE b):=by
  refine AC.of_J Tryz.func50 rfl Tryz.ntmps50 rfl fun w0 A0=>?_
  refine Zs (Zq rfl (QW.assign .const) (Zq rfl (QW.assign .const) (Zn (Zs (Zm rfl (Zq rfl (QW.call B6 (.cons (.r rfl) .nil) (B3 _ (by assumption))) ?_))))))
  refine Zm rfl (Zx rfl (Zx rfl (Za rfl (Za rfl (Zn (J.seq (Zs (Zm rfl (Zq rfl (QW.neq (.r rfl) .const) ?_)))))))))
  refine Zn ?_
  refine J.cond (.r rfl) (fun c1=>?_) (fun c1=>?_)
  · skip
    have hne:¬YG b=0:=by simpa using c1
    exact Zs (Zq rfl (QW.assign .const) (Zq rfl (QW.assign .const) (Zn (J.ret (thenQ.r (Zr [] (Qt rfl (REv.tmp rfl lr) (REv.tmp rfl lr)) rfl ⟨by rw[digE,if_neg hne,if_neg hne],rfl⟩))))))
  have he0:YG b=0:=by simpa using c1
  have hbd:=Xs b he0
  obtain⟨v,hv⟩:∃v,YP b=v:=⟨_,rfl⟩
  rw[hv]at hbd
  obtain⟨N,hN⟩:∃N,v.natAbs=N:=⟨_,rfl⟩
  have hN16:N<10000000000000000:=by omega
  refine Zk (Zs (JL.alloc z204 rfl rfl fun b6=>Zn (Zs (Zq rfl (QW.assign .const) (Zn (J.seq (Zs (Zm rfl ?_))))))))
  refine Zm rfl (Zq rfl (QW.neg (.r rfl) (c:= -v) (by rw[hv,Int.zero_sub];exact Yy (by omega))) ?_)
  refine Zq rfl ((QW.max2 (.r rfl) (.r rfl)).conv (show _=AV.c (.int .i64 (N:Int)) by rw[hv];congr 2;omega)) ?_
  refine Za rfl (Zn (J.block (Ua (ι:=QN×Nat) [2,3,4,6] (fun⟨d,m⟩=>[(7,.c (.int .i64 ((20-d.length:Nat):Int))),(8,.c (.int .i64 (m:Int)))]) (fun⟨d,m⟩ oo=>List.set oo 0 (.box b6 (dgB d))) (fun⟨d,m⟩=>m≤N∧d.length≤16∧m<10^(16-d.length)∧Gm N=(if m=0∧d≠[]then []else Gm m)++d) (fun⟨d,m⟩=>m+(if d=[]then 1 else 0)) ⟨[],N⟩ (⟨Nat.le_refl _,by simp,by simpa using hN16,by simp⟩) (QQ (.cons rfl lr (.cons rfl lr (.cons rfl lr (.cons rfl lr (.cons rfl lr (.cons rfl lr .nil)))))) (Reown.refl _) (fun _ h=>by first|exact h|simp[h])) ?_)))
  intro⟨d,m⟩ ⟨hmN,hd16,hm10,hnd⟩
  refine J.conv (by(try simp only[nl,Qj,QA,QC,Qy,QZ,AV.cellsOf,Qc,Qd,Nat.reduceAdd]);rfl) ?_
  refine J.seq (Zs (Zm rfl (Zq rfl (QW.gtr (.r rfl) .const) (Zm rfl (Zg rfl (fun hg=>(QW.move (.r rfl))) (Zg rfl (fun hg=>(QW.eql (.when rfl hg) .const)) (Zq rfl (QW.pick_or (.r rfl) (.r rfl)) (Zn ?_))))))))
  refine J.cond (.r rfl) (fun c2=>?_) (fun c2=>?_)
  · skip
    have hc:0<m∨d=[]:=by
      simp at c2
      exact c2.imp (fun h=>h) (fun h=>List.eq_nil_of_length_eq_zero (by omega))
    have hd15:d.length≤15:=by
      rcases hc with hc|hc
      · exact Nat.lt_succ_iff.1 (Nat.lt_of_le_of_ne hd16 fun h=>by rw[h]at hm10;simp at hm10;omega)
      · subst hc;exact Nat.zero_le _
    obtain⟨q,hq⟩:∃q,16-d.length=q+1:=⟨15-d.length,by omega⟩
    rw[hq,Nat.pow_succ]at hm10
    refine Zk (J.seq (J.block (Zs (Zm rfl (Zq rfl (QW.sub (.r rfl) .const (c:=((19-d.length:Nat):Int)) (U6 (by omega) (by omega))) (Za rfl (Zn (Qg (Zm rfl ?_)))))))))
    refine Zm rfl (Zq rfl (QW.rem (.r rfl) .const (by decide) (c:=((m%10:Nat):Int)) (Int.ofNat_tmod m 10).symm) ?_)
    refine Zq rfl (Yb us3 iu5 (.r rfl) (c:=((m%10:Nat):Int)) (wu8 (by omega))) (Zq rfl (QW.add .const (.r rfl) (c:=((UInt8.ofNat (48+m%10)).toNat:Int)) (by rw[digC];exact wu8 (by omega))) ?_)
    refine Zq rfl (Mo (b:=b6) (off:=0) (ln:=20) (et:=5) (off':=19-d.length) (m:=19-d.length) (by kernel_rfl) ty5 (.r rfl) (.r rfl) rfl (by omega) (by simp)) ?_
    refine JL.store_box 0 ty5 (.r rfl) rfl (.r rfl) rfl rfl (by rw[Cl (by omega)];exact Nat.ble_eq_true_of_le (by omega)) (Tl (UInt8.ofNat (48+m%10)) (by omega)) rfl ?_
    refine JL.nil (blkQ.n (thenQ.n (Qg (Zm rfl (Zq rfl (QW.quo (.r rfl) .const (by decide) (c:=((m / 10:Nat):Int)) (by rw[show(m:Int).tdiv 10=((m / 10:Nat):Int)from(Int.ofNat_tdiv m 10).symm];exact Yy (by omega))) ?_)))))
    refine Za rfl (Zn ?_)
    exact⟨⟨UInt8.ofNat (48+m%10)::d,m / 10⟩,⟨by show m / 10≤N;omega,by simp;omega,by rw[List.length_cons,show 16-(d.length+1)=q by omega];exact Nat.div_lt_of_lt_mul (by omega),CZ hnd hc⟩,hc.elim (fun h=>by have:=Nat.div_lt_self h (by decide:1<10);show m / 10+(if UInt8.ofNat (48+m%10)::d=[]then 1 else 0)<m+(if d=[]then 1 else 0);rw[if_neg (by simp)];omega) (fun h=>by subst h;show m / 10+(if UInt8.ofNat (48+m%10)::([]:QN)=[]then 1 else 0)<m+1;rw[if_neg (by simp)];omega),QQ (.cons rfl ((by rw[List.length_cons,show 20-(d.length+1)=19-d.length by omega];exact .refl _)) (.cons rfl lr (.cons rfl lr (.cons rfl lr (.cons rfl lr (.cons rfl lr .nil)))))) (Reown.refl _) (fun _ h=>by first|exact h|simp[h])⟩
  have hz:m=0∧d≠[]:=by
    simp at c2
    exact⟨by omega,fun h=>by subst h;simp at c2⟩
  rw[if_pos hz,List.nil_append]at hnd
  have hd0:=hz.2
  have hd1:1≤d.length:=by cases d with|nil=>exact absurd rfl hd0|cons x r=>simp
  refine J.exit (Qz (Qz (QY (thenQ.n (J.seq (Zs (Zm rfl (Zq rfl (QW.lss (.r rfl) .const) (Zn ?_)))))))))
  refine J.cond (.r rfl) (fun c3=>?_) (fun c3=>?_)
  · skip
    have hneg:v<0:=by rw[← hv];simpa using c3
    refine Zs (Zm rfl (Zq rfl (QW.sub (.r rfl) .const (c:=((19-d.length:Nat):Int)) (U6 (by omega) (by omega))) (Za rfl (Zn (Qg (Zm rfl (Zq rfl (Mo (b:=b6) (off:=0) (ln:=20) (et:=5) (off':=19-d.length) (m:=19-d.length) (by kernel_rfl) ty5 (.r rfl) (.r rfl) rfl (by omega) (by simp)) ?_)))))))
    refine JL.store_box 0 ty5 (.r rfl) rfl .const rfl rfl (by rw[Cl (by omega)];exact Nat.ble_eq_true_of_le (by omega)) (Tl 45 (by omega)) rfl ?_
    refine Zn (Zs (Zm rfl (Zq rfl (by exact H7 (b:=b6) (off:=0) (ln:=20) (et:=5) (off':=19-d.length) (l:=19-d.length) (by kernel_rfl) ty5 (.r rfl) (.r rfl) rfl (by omega) (by split<;>omega)) ?_)))
    refine Zq rfl (by exact Mq 0 (l:=45::d) (e8:=5) (by kernel_rfl) (by kernel_rfl) (by kernel_rfl) (.r rfl) rfl (by rw[show 20-(19-d.length)=(45::d).length by rw[List.length_cons];omega,show 19-d.length=20-(45::d).length by rw[List.length_cons];omega];exact Tm (by rw[List.length_cons];omega)) (by(simp;omega))) ?_
    exact Za rfl (Zq rfl (QW.assign .const) (Zn (J.ret (Zr [.k] (Qt rfl (REv.tmp rfl lr) (REv.tmp rfl lr)) rfl ⟨by rw[digE,if_pos he0,if_pos he0,hv,Ht,if_pos hneg,hN,hnd],rfl⟩))))
  have hpos:¬v<0:=by rw[← hv];simpa using c3
  refine Zk (Zs (Zm rfl (Zq rfl (by exact H7 (b:=b6) (off:=0) (ln:=20) (et:=5) (off':=20-d.length) (l:=20-d.length) (by kernel_rfl) ty5 (.r rfl) (.r rfl) rfl (by omega) (by split<;>omega)) ?_)))
  refine Zq rfl (by exact Mq 0 (l:=d) (e8:=5) (by kernel_rfl) (by kernel_rfl) (by kernel_rfl) (.r rfl) rfl (by rw[show 20-(20-d.length)=d.length by omega];exact Tm (by omega)) (by omega)) ?_
  exact Za rfl (Zq rfl (QW.assign .const) (Zn (J.ret (Zr [.k] (Qt rfl (REv.tmp rfl lr) (REv.tmp rfl lr)) rfl ⟨by rw[digE,if_pos he0,if_pos he0,hv,Ht,if_neg hpos,hN,hnd],rfl⟩))))

end
section
/- Events as plain data: a name and a value; lists of them. -/
/-! ### the page -/
def MJ{α:Type}(p:α→Bool):List α→Int→Int
  |[],_=> -1
  |x::r,k=>if p x then k else MJ p r (k+1)
theorem Td{α:Type}(p:α→Bool):∀(l:List α) (k:Int),0≤k→(decide (0≤MJ p l k))=l.any p
  |[],k,h=>by simp[MJ]
  |x::r,k,h=>by
    unfold MJ
    cases hx:p x with
    |true=>simp[hx,h]
    |false=>simpa[hx]using Td p r (k+1) (by omega)
theorem M9{α:Type}(p:α→Bool){l:List α}{j:Nat}(h:j<l.length)(k:Int):MJ p (l.drop j) k=if p l[j]then k else MJ p (l.drop (j+1)) (k+1):=by
  rw[List.drop_eq_getElem_cons h,MJ]

end
section
/- Walks: slices.Insert of one element, slices.Delete of one. -/
set_option maxRecDepth 10000
set_option maxHeartbeats 4000000
theorem Sz:∀u v w,(callFunc 306 #[u,v]).run Tryz.prog w=((Extern.SlicesOverlaps.overlaps #[30,30] #[4] #[u,v]).run Tryz.prog w).andThen fun v w'=>.ok (.value v) w':=fun u v w=>run_callFunc_extern (P:=Tryz.prog) Tryz.func306 (by kernel_rfl) (by kernel_rfl) (by kernel_rfl) (by kernel_rfl) _ w
theorem Ff{v:Value}{xs:List (List AV)}{ys:List AV}{i:Nat}{fr clip:Bool}(hi:i≤xs.length)(hy:ys.length=1)(hr:(xs.length+1)*16≤Qr):AC Tryz.prog 284 [.arr v Wz xs] [.c v,.c (.int .i64 (i:Int)),.sl fr clip Wz [ys]] (YV (Gy Wz (xs.take i++[ys]++xs.drop i))):=by
  have hr2:=hr
  unfold Qr at hr2
  refine AC.of_J Tryz.func284 rfl Tryz.ntmps284 rfl fun w0 A0=>?_
  refine Zs (Zq rfl (QW.assign .const) (Zn (Zs (Zm rfl (Zm rfl (Ny 0 Ue UO (.r rfl) rfl (.r rfl) rfl hi rfl fun u12=>Zn (Zs (Zm rfl ?_))))))))
  refine Zq rfl (Qw Ue (.r rfl)) (Za rfl (Zn (J.seq (Zs (Zm rfl (Zq rfl (QW.eql (.r rfl) .const) (Zn ?_)))))))
  refine J.cond (.r rfl) (fun c1=>absurd c1 (by simp)) (fun c1=>?_)
  refine Zk (Zs (Zm rfl (Zq rfl (W7 0 Ue (.r rfl) rfl) (Za rfl (Zn (J.seq (Zs (Zm rfl (Zm rfl ?_)))))))))
  refine Zq rfl (QW.eql (.r rfl) (.r rfl)) (Zn ?_)
  refine J.cond (.r rfl) (fun c2=>?_) (fun c2=>?_)
  · skip
    obtain rfl:i=xs.length:=by simp at c2;omega
    exact Zs (Zm rfl (Zm rfl (JL.append 0 Ue Pw rfl (.r rfl) rfl (U8 Ue (.r rfl)) (by omega) rfl fun v25=>JL.isSlice 0 rfl fun hs1=>Za rfl (Zn (J.ret (thenQ.r (Zr [.p] (RetEv.one rfl (REv.tmp rfl lr)) rfl ⟨_,rfl,_,rfl,hs1,by simp;rfl⟩)))))))
  have hlt:i<xs.length:=by simp at c2;omega
  refine Zk (J.seq (J.seq (J.lay 0 rfl (fun a0 hv hx=>absurd hlt (by rw[hx];simp)) fun b cap sp hv hcap hsz hfl=>?_)))
  subst hv
  have hX:xs.flatten.length=xs.length*1:=QE xs hsz
  have hBl:(xs.flatten++sp.map AV.c).length=(cap+1)*1:=by rw[List.length_append,List.length_map];exact hfl
  refine Qg (Zm rfl (Zm rfl (Zq rfl (QW.add (.r rfl) (.r rfl) (U6 (m:=xs.length+1) rfl (by omega))) (Zm rfl (Zq rfl (TO Ue (.r rfl)) (Zq rfl (QW.gtr (.r rfl) (.r rfl)) (Zn ?_)))))))
  refine J.cond (.r rfl) (fun c3=>?_) (fun c3=>?_)
  · skip
    have hgr:cap+1<xs.length+1:=by simp at c3;omega
    refine Zs (Zm rfl (Zm rfl (Zq rfl (Lx (h:=i) Ue UO (.r rfl) (.r rfl) rfl (by omega)) (Zm rfl (Zm rfl (Zq rfl (QW.add (.r rfl) (.r rfl) (U6 (m:=xs.length+1) rfl (by omega))) (Zm rfl (Zq rfl (QW.sub (.r rfl) (.r rfl) (U6 (m:=xs.length+1-i) (by omega) (by omega))) (Ms 0 Ue iu3 Pw rfl (.r rfl) rfl (.r rfl) (by omega) (by omega) (by show 0+i*1≤_;rw[hBl];omega) (by rw[show i+(xs.length+1-i)=xs.length+1 by omega];exact hr) (by unfold Qr;omega) rfl fun b2 cap2 tl hc2 hhl htl=>?_)))))))))
    have hNl:(((xs.flatten++sp.map AV.c).drop 0).take (i*1)++tl).length=(cap2+1)*1:=by rw[List.length_append];exact(congrArg (·+tl.length) hhl).trans htl
    have htl2:i*1+tl.length=(cap2+1)*1:=htl
    have hml:(((xs.flatten++sp.map AV.c).drop (i*1)).take (xs.flatten.length-i*1)).length=xs.flatten.length-i*1:=by rw[List.length_take,List.length_drop,hBl];omega
    refine Za rfl (Zn (Zs (Zm rfl (Zm rfl (Zq rfl (Wx (l:=i) (off':=i*1) Ue UO (.r rfl) (.r rfl) rfl (by omega) (by omega) (by rw[if_neg (by omega)];omega)) ?_)))))
    refine Zm rfl (YL 0 Ue UO (.r rfl) rfl (SrcN.one (.r rfl) rfl hy) (Nat.min_eq_left (by omega)) (by rw[hNl,hy];omega) rfl ?_)
    refine Zn (J.seq (Ud 8 mixed (by kernel_rfl) (by kernel_rfl) (by kernel_rfl) rfl ?_))
    refine .cons [] rfl rfl rfl (.q rfl (QW.move (.r rfl))) ?_
    refine .cons [] rfl rfl rfl (.q rfl (QW.move (.r rfl))) ?_
    refine .cons [] rfl rfl rfl (.q rfl (QW.move (.r rfl))) ?_
    refine .cons [47,48] rfl rfl rfl (.q rfl (QW.add (.r rfl) (.r rfl) (U6 (m:=i+1) rfl (by omega)))) ?_
    refine .cons [46,49] rfl rfl rfl (.q rfl (Wx (l:=i+1) (off':=i*1+1) Ue UO (.r rfl) (.r rfl) rfl (by omega) (by omega) (by rw[if_neg (by omega)];omega))) ?_
    refine .cons [] rfl rfl rfl (.q rfl (QW.move (.r rfl))) ?_
    refine .cons [] rfl rfl rfl (.q rfl (QW.move (.r rfl))) ?_
    refine .cons [51,52] rfl rfl rfl (.q rfl (Wx (l:=i) (off':=i*1) Ue UO (.r rfl) (.r rfl) rfl (by omega) (by omega) (by rw[if_neg (by omega)];omega))) ?_
    refine .nil ?_
    refine YL 0 Ue UO (.r rfl) rfl (KY (i2:=1) (mm:=xs.length-i) (q:=xs.flatten.length-i*1) (.r rfl) rfl (by omega) (Nat.le_refl _) (by rw[hBl];omega)) (Nat.min_eq_left (by omega)) (by rw[QG (by rw[hNl,hy];omega),hNl,hml];omega) rfl ?_
    refine Zn (J.seq (J.fold 0 (xs.take i++[ys]++xs.drop i) rfl (v:=sv b2 0 (i+(xs.length+1-i)) (cap2+1)) (by rw[Xt hi,show i+(xs.length+1-i)=xs.length+1 by omega]) (by rw[Xt hi];omega) (NT hsz hy) (by rw[QG (by rw[QG (by rw[hNl,hy];omega),hNl,hml];omega),QG (by rw[hNl,hy];omega),hNl];rfl) (by rw[GQ hsz hy,KB hsz];exact Tb (X:=xs.flatten) (sp:=sp.map AV.c) (tl:=tl) (a:=i*1) (m:=1) (by omega) hy (by omega)) rfl ?_))
    exact Qg (Zm rfl (Za rfl (Zn (J.ret (thenQ.r (Zr [.p,.k] (RetEv.one rfl (REv.tmp rfl lr)) rfl ⟨_,rfl,_,rfl,rfl,rfl⟩))))))
  have hroom:xs.length+1≤cap+1:=by simp at c3;omega
  refine Zk (Zs (Zm rfl (Zm rfl (Zm rfl (Zq rfl (QW.add (.r rfl) (.r rfl) (U6 (m:=xs.length+1) rfl (by omega))) (Zq rfl (Lx (h:=xs.length+1) Ue UO (.r rfl) (.r rfl) rfl (by omega)) (Za rfl (Zn (J.seq ?_)))))))))
  refine Zs (Zm rfl (Zm rfl (Zm rfl (Zm rfl (Zq rfl (QW.add (.r rfl) (.r rfl) (U6 (m:=i+1) rfl (by omega))) (Zq rfl (Wx (l:=i+1) (off':=i*1+1) Ue UO (.r rfl) (.r rfl) rfl (by omega) (by omega) (by rw[if_neg (by omega)];omega)) ?_))))))
  refine Zq rfl (TP 0 Ue UO Sz (.r rfl) (.r rfl) rfl (by intro h0;simp at h0;subst h0;simp at hy) (by intro h0;have:=congrArg List.length h0;rw[hBl]at this;simp at this)) ?_
  refine Zq rfl (QW.not (.r rfl)) (Zn ?_)
  refine J.cond (.r rfl) (fun c4=>?_) (fun c4=>absurd c4 (by simp))
  refine J.seq ?_
  have hml:(((xs.flatten++sp.map AV.c).drop (i*1)).take (xs.flatten.length-i*1)).length=xs.flatten.length-i*1:=by rw[List.length_take,List.length_drop,hBl];omega
  refine Ud 8 mixed (by kernel_rfl) (by kernel_rfl) (by kernel_rfl) rfl ?_
  refine .cons [] rfl rfl rfl (.q rfl (QW.move (.r rfl))) ?_
  refine .cons [] rfl rfl rfl (.q rfl (QW.move (.r rfl))) ?_
  refine .cons [] rfl rfl rfl (.q rfl (QW.move (.r rfl))) ?_
  refine .cons [70,71] rfl rfl rfl (.q rfl (QW.add (.r rfl) (.r rfl) (U6 (m:=i+1) rfl (by omega)))) ?_
  refine .cons [69,72] rfl rfl rfl (.q rfl (Wx (l:=i+1) (off':=i*1+1) Ue UO (.r rfl) (.r rfl) rfl (by omega) (by omega) (by rw[if_neg (by omega)];omega))) ?_
  refine .cons [] rfl rfl rfl (.q rfl (QW.move (.r rfl))) ?_
  refine .cons [] rfl rfl rfl (.q rfl (QW.move (.r rfl))) ?_
  refine .cons [74,75] rfl rfl rfl (.q rfl (Wx (l:=i) (off':=i*1) Ue UO (.r rfl) (.r rfl) rfl (by omega) (by omega) (by rw[if_neg (by omega)];omega))) ?_
  refine .nil ?_
  refine YL 0 Ue UO (.r rfl) rfl (KY (i2:=0) (mm:=xs.length-i) (q:=xs.flatten.length-i*1) (.r rfl) rfl (by omega) (by omega) (by rw[hBl];omega)) (by show min _ _=_;omega) (by rw[hBl,hml];omega) rfl ?_
  refine Zn (Zs (Zm rfl (Zm rfl (Zq rfl (Wx (l:=i) (off':=i*1) Ue UO (.r rfl) (.r rfl) rfl (by omega) (by omega) (by rw[if_neg (by omega)];omega)) ?_))))
  refine Zm rfl (YL 0 Ue UO (.r rfl) rfl (SrcN.one (.r rfl) rfl hy) (Nat.min_eq_left (by omega)) (by rw[QG (by rw[hBl,hml];omega),hBl,hy];omega) rfl ?_)
  refine Zn (J.seq (J.fold 0 (xs.take i++[ys]++xs.drop i) rfl (v:=sv b 0 (xs.length+1) (cap+1)) (by rw[Xt hi]) (by rw[Xt hi];omega) (NT hsz hy) (by rw[QG (by rw[QG (by rw[hBl,hml];omega),hBl,hy];omega),QG (by rw[hBl,hml];omega),hBl];rfl) (by rw[GQ hsz hy,KB hsz];exact M8 (X:=xs.flatten) (sp:=sp.map AV.c) (a:=i*1) (m:=1) (by omega) hy (by rw[hBl];omega)) rfl ?_))
  exact Qg (Zm rfl (Za rfl (Zn (J.ret (thenQ.r (Zr [.p] (RetEv.one rfl (REv.tmp rfl lr)) rfl ⟨_,rfl,_,rfl,rfl,rfl⟩))))))
theorem Sy:∀u v w,(callFunc 308 #[u,v]).run Tryz.prog w=((Extern.SlicesOverlaps.overlaps #[31,31] #[4] #[u,v]).run Tryz.prog w).andThen fun v w'=>.ok (.value v) w':=fun u v w=>run_callFunc_extern (P:=Tryz.prog) Tryz.func308 (by kernel_rfl) (by kernel_rfl) (by kernel_rfl) (by kernel_rfl) _ w
theorem Fe{v:Value}{xs:List (List AV)}{ys:List AV}{i:Nat}{fr clip:Bool}(hi:i≤xs.length)(hy:ys.length=5)(hr:(xs.length+1)*80≤Qr):AC Tryz.prog 285 [.arr v eV xs] [.c v,.c (.int .i64 (i:Int)),.sl fr clip eV [ys]] (YV (Gy eV (xs.take i++[ys]++xs.drop i))):=by
  have hr2:=hr
  unfold Qr at hr2
  refine AC.of_J Tryz.func285 rfl Tryz.ntmps285 rfl fun w0 A0=>?_
  refine Zs (Zq rfl (QW.assign .const) (Zn (Zs (Zm rfl (Zm rfl (Ny 0 QU Ql (.r rfl) rfl (.r rfl) rfl hi rfl fun u12=>Zn (Zs (Zm rfl ?_))))))))
  refine Zq rfl (Qw QU (.r rfl)) (Za rfl (Zn (J.seq (Zs (Zm rfl (Zq rfl (QW.eql (.r rfl) .const) (Zn ?_)))))))
  refine J.cond (.r rfl) (fun c1=>absurd c1 (by simp)) (fun c1=>?_)
  refine Zk (Zs (Zm rfl (Zq rfl (W7 0 QU (.r rfl) rfl) (Za rfl (Zn (J.seq (Zs (Zm rfl (Zm rfl ?_)))))))))
  refine Zq rfl (QW.eql (.r rfl) (.r rfl)) (Zn ?_)
  refine J.cond (.r rfl) (fun c2=>?_) (fun c2=>?_)
  · skip
    obtain rfl:i=xs.length:=by simp at c2;omega
    exact Zs (Zm rfl (Zm rfl (JL.append 0 QU GX rfl (.r rfl) rfl (U8 QU (.r rfl)) (by omega) rfl fun v25=>JL.isSlice 0 rfl fun hs1=>Za rfl (Zn (J.ret (thenQ.r (Zr [.p] (RetEv.one rfl (REv.tmp rfl lr)) rfl ⟨_,rfl,_,rfl,hs1,by simp;rfl⟩)))))))
  have hlt:i<xs.length:=by simp at c2;omega
  refine Zk (J.seq (J.seq (J.lay 0 rfl (fun a0 hv hx=>absurd hlt (by rw[hx];simp)) fun b cap sp hv hcap hsz hfl=>?_)))
  subst hv
  have hX:xs.flatten.length=xs.length*5:=QE xs hsz
  have hBl:(xs.flatten++sp.map AV.c).length=(cap+1)*5:=by rw[List.length_append,List.length_map];exact hfl
  refine Qg (Zm rfl (Zm rfl (Zq rfl (QW.add (.r rfl) (.r rfl) (U6 (m:=xs.length+1) rfl (by omega))) (Zm rfl (Zq rfl (TO QU (.r rfl)) (Zq rfl (QW.gtr (.r rfl) (.r rfl)) (Zn ?_)))))))
  refine J.cond (.r rfl) (fun c3=>?_) (fun c3=>?_)
  · skip
    have hgr:cap+1<xs.length+1:=by simp at c3;omega
    refine Zs (Zm rfl (Zm rfl (Zq rfl (Lx (h:=i) QU Ql (.r rfl) (.r rfl) rfl (by omega)) (Zm rfl (Zm rfl (Zq rfl (QW.add (.r rfl) (.r rfl) (U6 (m:=xs.length+1) rfl (by omega))) (Zm rfl (Zq rfl (QW.sub (.r rfl) (.r rfl) (U6 (m:=xs.length+1-i) (by omega) (by omega))) (Ms 0 QU iu3 GX rfl (.r rfl) rfl (.r rfl) (by omega) (by omega) (by show 0+i*5≤_;rw[hBl];omega) (by rw[show i+(xs.length+1-i)=xs.length+1 by omega];exact hr) (by unfold Qr;omega) rfl fun b2 cap2 tl hc2 hhl htl=>?_)))))))))
    have hNl:(((xs.flatten++sp.map AV.c).drop 0).take (i*5)++tl).length=(cap2+1)*5:=by rw[List.length_append];exact(congrArg (·+tl.length) hhl).trans htl
    have htl2:i*5+tl.length=(cap2+1)*5:=htl
    have hml:(((xs.flatten++sp.map AV.c).drop (i*5)).take (xs.flatten.length-i*5)).length=xs.flatten.length-i*5:=by rw[List.length_take,List.length_drop,hBl];omega
    refine Za rfl (Zn (Zs (Zm rfl (Zm rfl (Zq rfl (Wx (l:=i) (off':=i*5) QU Ql (.r rfl) (.r rfl) rfl (by omega) (by omega) (by rw[if_neg (by omega)];omega)) ?_)))))
    refine Zm rfl (YL 0 QU Ql (.r rfl) rfl (SrcN.one (.r rfl) rfl hy) (Nat.min_eq_left (by omega)) (by rw[hNl,hy];omega) rfl ?_)
    refine Zn (J.seq (Ud 8 mixed (by kernel_rfl) (by kernel_rfl) (by kernel_rfl) rfl ?_))
    refine .cons [] rfl rfl rfl (.q rfl (QW.move (.r rfl))) ?_
    refine .cons [] rfl rfl rfl (.q rfl (QW.move (.r rfl))) ?_
    refine .cons [] rfl rfl rfl (.q rfl (QW.move (.r rfl))) ?_
    refine .cons [47,48] rfl rfl rfl (.q rfl (QW.add (.r rfl) (.r rfl) (U6 (m:=i+1) rfl (by omega)))) ?_
    refine .cons [46,49] rfl rfl rfl (.q rfl (Wx (l:=i+1) (off':=i*5+5) QU Ql (.r rfl) (.r rfl) rfl (by omega) (by omega) (by rw[if_neg (by omega)];omega))) ?_
    refine .cons [] rfl rfl rfl (.q rfl (QW.move (.r rfl))) ?_
    refine .cons [] rfl rfl rfl (.q rfl (QW.move (.r rfl))) ?_
    refine .cons [51,52] rfl rfl rfl (.q rfl (Wx (l:=i) (off':=i*5) QU Ql (.r rfl) (.r rfl) rfl (by omega) (by omega) (by rw[if_neg (by omega)];omega))) ?_
    refine .nil ?_
    refine YL 0 QU Ql (.r rfl) rfl (KY (i2:=1) (mm:=xs.length-i) (q:=xs.flatten.length-i*5) (.r rfl) rfl (by omega) (Nat.le_refl _) (by rw[hBl];omega)) (Nat.min_eq_left (by omega)) (by rw[QG (by rw[hNl,hy];omega),hNl,hml];omega) rfl ?_
    refine Zn (J.seq (J.fold 0 (xs.take i++[ys]++xs.drop i) rfl (v:=sv b2 0 (i+(xs.length+1-i)) (cap2+1)) (by rw[Xt hi,show i+(xs.length+1-i)=xs.length+1 by omega]) (by rw[Xt hi];omega) (NT hsz hy) (by rw[QG (by rw[QG (by rw[hNl,hy];omega),hNl,hml];omega),QG (by rw[hNl,hy];omega),hNl];rfl) (by rw[GQ hsz hy,KB hsz];exact Tb (X:=xs.flatten) (sp:=sp.map AV.c) (tl:=tl) (a:=i*5) (m:=5) (by omega) hy (by omega)) rfl ?_))
    exact Qg (Zm rfl (Za rfl (Zn (J.ret (thenQ.r (Zr [.p,.k] (RetEv.one rfl (REv.tmp rfl lr)) rfl ⟨_,rfl,_,rfl,rfl,rfl⟩))))))
  have hroom:xs.length+1≤cap+1:=by simp at c3;omega
  refine Zk (Zs (Zm rfl (Zm rfl (Zm rfl (Zq rfl (QW.add (.r rfl) (.r rfl) (U6 (m:=xs.length+1) rfl (by omega))) (Zq rfl (Lx (h:=xs.length+1) QU Ql (.r rfl) (.r rfl) rfl (by omega)) (Za rfl (Zn (J.seq ?_)))))))))
  refine Zs (Zm rfl (Zm rfl (Zm rfl (Zm rfl (Zq rfl (QW.add (.r rfl) (.r rfl) (U6 (m:=i+1) rfl (by omega))) (Zq rfl (Wx (l:=i+1) (off':=i*5+5) QU Ql (.r rfl) (.r rfl) rfl (by omega) (by omega) (by rw[if_neg (by omega)];omega)) ?_))))))
  refine Zq rfl (TP 0 QU Ql Sy (.r rfl) (.r rfl) rfl (by intro h0;simp at h0;subst h0;simp at hy) (by intro h0;have:=congrArg List.length h0;rw[hBl]at this;simp at this)) ?_
  refine Zq rfl (QW.not (.r rfl)) (Zn ?_)
  refine J.cond (.r rfl) (fun c4=>?_) (fun c4=>absurd c4 (by simp))
  refine J.seq ?_
  have hml:(((xs.flatten++sp.map AV.c).drop (i*5)).take (xs.flatten.length-i*5)).length=xs.flatten.length-i*5:=by rw[List.length_take,List.length_drop,hBl];omega
  refine Ud 8 mixed (by kernel_rfl) (by kernel_rfl) (by kernel_rfl) rfl ?_
  refine .cons [] rfl rfl rfl (.q rfl (QW.move (.r rfl))) ?_
  refine .cons [] rfl rfl rfl (.q rfl (QW.move (.r rfl))) ?_
  refine .cons [] rfl rfl rfl (.q rfl (QW.move (.r rfl))) ?_
  refine .cons [70,71] rfl rfl rfl (.q rfl (QW.add (.r rfl) (.r rfl) (U6 (m:=i+1) rfl (by omega)))) ?_
  refine .cons [69,72] rfl rfl rfl (.q rfl (Wx (l:=i+1) (off':=i*5+5) QU Ql (.r rfl) (.r rfl) rfl (by omega) (by omega) (by rw[if_neg (by omega)];omega))) ?_
  refine .cons [] rfl rfl rfl (.q rfl (QW.move (.r rfl))) ?_
  refine .cons [] rfl rfl rfl (.q rfl (QW.move (.r rfl))) ?_
  refine .cons [74,75] rfl rfl rfl (.q rfl (Wx (l:=i) (off':=i*5) QU Ql (.r rfl) (.r rfl) rfl (by omega) (by omega) (by rw[if_neg (by omega)];omega))) ?_
  refine .nil ?_
  refine YL 0 QU Ql (.r rfl) rfl (KY (i2:=0) (mm:=xs.length-i) (q:=xs.flatten.length-i*5) (.r rfl) rfl (by omega) (by omega) (by rw[hBl];omega)) (by show min _ _=_;omega) (by rw[hBl,hml];omega) rfl ?_
  refine Zn (Zs (Zm rfl (Zm rfl (Zq rfl (Wx (l:=i) (off':=i*5) QU Ql (.r rfl) (.r rfl) rfl (by omega) (by omega) (by rw[if_neg (by omega)];omega)) ?_))))
  refine Zm rfl (YL 0 QU Ql (.r rfl) rfl (SrcN.one (.r rfl) rfl hy) (Nat.min_eq_left (by omega)) (by rw[QG (by rw[hBl,hml];omega),hBl,hy];omega) rfl ?_)
  refine Zn (J.seq (J.fold 0 (xs.take i++[ys]++xs.drop i) rfl (v:=sv b 0 (xs.length+1) (cap+1)) (by rw[Xt hi]) (by rw[Xt hi];omega) (NT hsz hy) (by rw[QG (by rw[QG (by rw[hBl,hml];omega),hBl,hy];omega),QG (by rw[hBl,hml];omega),hBl];rfl) (by rw[GQ hsz hy,KB hsz];exact M8 (X:=xs.flatten) (sp:=sp.map AV.c) (a:=i*5) (m:=5) (by omega) hy (by rw[hBl];omega)) rfl ?_))
  exact Qg (Zm rfl (Za rfl (Zn (J.ret (thenQ.r (Zr [.p] (RetEv.one rfl (REv.tmp rfl lr)) rfl ⟨_,rfl,_,rfl,rfl,rfl⟩))))))

end
section
/- Walks: a new item in an owned value. -/
set_option maxRecDepth 10000
set_option maxHeartbeats 4000000
theorem Ne{v:V}{s:StT}{i:Nat}{e:Int}(h:v.fnd s=(i,e)):e=0∨(e=71∧s.isKey=true∧v.kind=5∧i≤v.keys.length)∨(e=82∧s.isKey=false∧v.kind=4∧i=0)∨(e=81∧i=0):=by
  unfold V.fnd at h
  split at h
  · rename_i h1
    split at h
    · rename_i h2
      split at h
      · exact .inl (congrArg Prod.snd h).symm
      · cases h;exact .inr (.inl ⟨rfl,h1,h2,Df _ _⟩)
    · cases h;exact .inr (.inr (.inr ⟨rfl,rfl⟩))
  · rename_i h1
    split at h
    · rename_i h2
      split at h
      · cases h;exact .inr (.inr (.inl ⟨rfl,by simpa using h1,h2,rfl⟩))
      · exact .inl (congrArg Prod.snd h).symm
    · cases h;exact .inr (.inr (.inr ⟨rfl,rfl⟩))
def V.stp(u:V)(s:StT)(last:Bool):V×Nat×Int:=
  if(u.fnd s).2=0 then(u,(u.fnd s).1,0)else if last=true then(if(u.grw s (u.fnd s).1 (u.fnd s).2).2=0 then(u.ins s (u.grw s (u.fnd s).1 (u.fnd s).2).1 .nil,(u.grw s (u.fnd s).1 (u.fnd s).2).1,0)else(u,(u.grw s (u.fnd s).1 (u.fnd s).2).1,(u.grw s (u.fnd s).1 (u.fnd s).2).2))
  else(u,(u.fnd s).1,(u.fnd s).2)
def GrowR(z:At)(s:StT):AV→List Own→Prop:=fun x o=>∃kv iv ok oi,x=.tup [.c (.int .i64 ((z.u.stp s true).2.1:Int)),.c (.int .i64 (z.u.stp s true).2.2)]∧o=[.box z.b (Yj z (z.u.stp s true).1 kv iv),ok,oi]∧VTr (z.u.stp s true).1 kv iv ok oi
theorem GrowR.no{z:At}{s:StT}{i m:Nat}{e f:Int}{ok oi:Own}{o:List Own}(h:z.u.fnd s=(i,e))(he:e≠0)(hg:z.u.grw s i e=(m,f))(hf:f≠0)(ho:o=[.box z.b (Yj z z.u z.kv z.iv),ok,oi])(hV:VTr z.u z.kv z.iv ok oi):GrowR z s (.tup [.c (.int .i64 (m:Int)),.c (.int .i64 f)]) o:=by
  have:z.u.stp s true=(z.u,m,f):=by simp[V.stp,h,he,hg,hf]
  exact⟨z.kv,z.iv,ok,oi,by rw[this],by rw[this];exact ho,by rw[this];exact hV⟩
theorem GrowR.yes{z:At}{s:StT}{i m:Nat}{e:Int}{kv iv:Value}{ok oi:Own}{o:List Own}(h:z.u.fnd s=(i,e))(he:e≠0)(hg:z.u.grw s i e=(m,0))(ho:o=[.box z.b (Yj z z.u kv iv),ok,oi])(hV:VTr (z.u.ins s m .nil) kv iv ok oi):GrowR z s (.tup [.c (.int .i64 (m:Int)),.c (.int .i64 0)]) o:=by
  have:z.u.stp s true=(z.u.ins s m .nil,m,0):=by simp[V.stp,h,he,hg]
  exact⟨kv,iv,ok,oi,by rw[this],by rw[this];exact ho,by rw[this];exact hV⟩
theorem Fh{z:At}{u:V}{kv kv2 iv:Value}(h:z.pre.length=z.off):Q1 (Yj z u kv iv) (z.off+3) [.c kv2]=Yj z u kv2 iv:=(Te h (by decide)).trans (by rw[YH];rfl)
theorem Fi{z:At}{u:V}{kv iv iv2:Value}(h:z.pre.length=z.off):Q1 (Yj z u kv iv) (z.off+4) [.c iv2]=Yj z u kv iv2:=(Te h (by decide)).trans (by rw[YH];rfl)
theorem RI:∀{ks:List QN} {us:List Value} {o:Own},TrL (QP ks).flatten us o→us=ks.map Q4
  |[],us,o,h=>by cases h;rfl
  |s::ks,us,o,h=>by
    simp only[QP,List.map_cons,List.flatten_cons,List.singleton_append]at h
    cases h with
    |cons h1 h2 ho=>rw[h1.c_inv,RI h2];rfl
theorem MZ:∀{cs:List (List AV)} {ks:List QN},(∀x∈cs,x.length=1)→cs.flatten=(ks.map Q4).map AV.c→cs=QP ks
  |[],[],_,_=>rfl
  |[],_::_,_,h=>by simp at h
  |c::cs,ks,h1,h=>by
    obtain⟨x,rfl⟩:=List.length_eq_one_iff.1 (h1 c (by simp))
    cases ks with
    |nil=>simp at h
    |cons k ks=>
      simp only[List.flatten_cons,List.singleton_append,List.map_cons,List.cons.injEq]at h
      rw[MZ (fun x hx=>h1 x (by simp[hx])) h.2,h.1]
      rfl
theorem ST{cs:List (List AV)}{ks:List QN}{us:List Value}{o:Own}(h1:cs.flatten=us.map AV.c)(h3:∀x∈cs,x.length=1)(h:TrL (QP ks).flatten us o):cs=QP ks:=by
  rw[RI h]at h1
  exact MZ h3 h1
def SJ:List AV:=[.c (.int .i64 0),.c (.int .u64 0),.c (Q4 []),.c (.slice none 0 0),.c (.slice none 0 0)]
theorem TQ(e:U7):OwnEq (.grp [.arr (.slice none 0 0) e [],.grp []]) (.grp []):=⟨fun b=>by simp[Own.fp,Yn,KH],fun w A=>by
  simp only[Kw,List.forall_mem_cons,List.not_mem_nil,false_implies,implies_true,and_true,iff_true]
  exact .inl ⟨_,rfl,rfl⟩⟩
theorem RY(e:U7):Tr (.sl true false e []) (.slice none 0 0) (.grp []):=.sl (us:=[]) (o:=.grp []) rfl rfl (fun _ h=>by cases h) (fun _ h=>by cases h) rfl (by simp) (.nil (.refl _)) (TQ e)
theorem Eu:VTr .nil (.slice none 0 0) (.slice none 0 0) (.grp []) (.grp []):=⟨rfl,rfl,RY Wz,RY eV⟩
theorem ins_tr{is:List V}{cs:List (List AV)}{us:List Value}{o:Own}{m:Nat}{v:Value}(hm:m≤is.length)(hl:cs.length=is.length)(h3:∀x∈cs,x.length=5)(hf:cs.flatten=us.map AV.c)(h1:us.all (·.oneCell')=true)(h:TrL (V.css true is).flatten us o)(h6:(is.length+1)*80≤Qr):
    Tr (.sl true false eV (V.css true (is.take m++[V.nil]++is.drop m))) v (.grp [.arr v eV (cs.take m++[SJ]++cs.drop m),o]):=by
  have hsp:(V.css true is).flatten=(V.css true (is.take m)).flatten++(V.css true (is.drop m)).flatten:=by
    rw[← List.flatten_append,← V.css_append,List.take_append_drop]
  rw[hsp]at h
  obtain⟨u1,u2,o1,o2,rfl,g1,g2,g3⟩:=h.split
  rw[List.all_append,Bool.and_eq_true]at h1
  have hlen:(cs.take m).flatten.length=u1.length:=by
    rw[← g1.length,QE (sz:=5) _ (fun x hx=>h3 x (List.mem_of_mem_take hx)),QE (sz:=5) _ (V.css_sz true _),V.css_length,List.length_take,List.length_take,hl]
  have hf2:(cs.take m).flatten++(cs.drop m).flatten=u1.map AV.c++u2.map AV.c:=by
    rw[← List.flatten_append,List.take_append_drop,hf,List.map_append]
  obtain⟨k1,k2⟩:=List.append_inj hf2 (by simpa using hlen)
  have htl:TrL (V.css true (is.take m++[V.nil]++is.drop m)).flatten (u1++V.vals .nil (.slice none 0 0) (.slice none 0 0)++u2) o:=by
    rw[V.css_append,V.css_append,List.flatten_append,List.flatten_append]
    have hn:(V.css true [V.nil]).flatten=V.nil.cs true:=by simp[V.css]
    rw[hn]
    refine(g1.append Eu.trL (o'':=o1) ?_).append g2 g3
    refine(OwnEq.grp_perm (List.Perm.swap _ _ _)).trans (OwnEq.trans (.cons ?_ (.refl _)) (OwnEq.drops _))
    exact(W8 [] [.grp []]).trans (OwnEq.one _)
  refine GO (us:=u1++V.vals .nil (.slice none 0 0) (.slice none 0 0)++u2) ?_ ?_ ?_ ?_ ?_ htl
  · rw[List.flatten_append,List.flatten_append,k1,k2,List.map_append,List.map_append]
    rfl
  · simp only[List.length_append,List.length_take,List.length_drop,List.length_singleton];omega
  · intro x hx
    simp only[List.mem_append,List.mem_singleton]at hx
    rcases hx with (hx|rfl)|hx
    · exact h3 x (List.mem_of_mem_take hx)
    · rfl
    · exact h3 x (List.mem_of_mem_drop hx)
  · rw[List.all_append,List.all_append,h1.1,h1.2,Eu.ones];rfl
  · simp only[List.length_append,List.length_take,List.length_drop,List.length_singleton];unfold Qr at h6⊢;omega
theorem Di(ks:List QN)(s:QN)(m:Nat):(QP ks).take m++[[.c (Q4 s)]]++(QP ks).drop m=QP (ks.take m++[s]++ks.drop m):=by simp[QP,List.map_take,List.map_drop]
theorem SV{z:At}{s:StT}{zs:List AV}{i:Nat}{e:Int}(hs:Sc s zs)(ho:z.pre.length=z.off)(hV:VTr z.u z.kv z.iv z.ok z.oi)(hp:Uc z.u=true)(hw:z.u.wf)(hsw:s.wf)(hie:z.u.fnd s=(i,e))(he0:e≠0):AC Tryz.prog 270 [.box z.b (Yj z z.u z.kv z.iv),z.ok,z.oi] [.c (.pointer (some ⟨z.b,z.off,none⟩)),.agg zs,.c (.int .i64 (i:Int)),.c (.int .i64 e)] (YV (GrowR z s)):=by
  subst hs
  obtain⟨l1,l2⟩:=Xa hp
  have hcs:=(Ne hie).resolve_left he0
  obtain⟨ck,uk,o1,p1,p2,p3,p4,p5,p6⟩:=hV.ks.inv
  obtain⟨ci,ui,o2,q1,q2,q3,q4,q5,q6⟩:=hV.is.inv
  obtain rfl:=ST p1 p3 p5
  rw[V.css_length]at q2
  have hkr:z.u.keys.length*16≤Qr:=by unfold Qr;omega
  have hir:z.u.items.length*80≤Qr:=by unfold Qr;omega
  have hV2:VTr z.u z.kv z.iv (.arr z.kv Wz (QP z.u.keys)) (.grp [.arr z.iv eV ci,o2]):=⟨hV.k1,hV.i1,NS hkr,GO q1 q2 q3 q4 hir q5⟩
  refine AC.of_J Tryz.func270 rfl Tryz.ntmps270 rfl fun w0 A0=>?_
  refine J.seq (J.reown (Reown.cons (TJ p6 q6)) (Qg (Qs (.r rfl) rfl fun b5=>Zq rfl (QW.assign .const) (Zq rfl (QW.assign .const) (Zn (Ru (ι:=Nat) [0,5] (fun m=>[(2,.c (.int .i64 (m:Int)))]) (fun m oo=>oo) (fun m=>z.u.grw s i e=(if 32≤z.u.items.length then(0,3)else(m,0))∧m≤z.u.items.length∧(s.isKey=true→m≤z.u.keys.length)) ?_ ?_))))))
  · skip
    refine J.block (Zs (Zm rfl (Zq rfl (QW.eql (.r rfl) .const) (Zm rfl (Zg rfl (fun hg=>(Qf N7 (.r rfl) rfl)) (Zg rfl (fun hg=>(Qb 0 UO (.when rfl hg) rfl rfl)) (Zg rfl (fun hg=>(QW.call ES (.cons (.when rfl hg) .nil) (BW _))) (Zg rfl (fun hg=>(QW.not (.when rfl hg))) (Zq rfl (QW.pick_and (.r rfl) (.r rfl)) ?_)))))))))
    refine Za rfl (Zn ?_)
    refine J.cond (.r rfl) (fun c1=>?_) (fun c1=>?_)
    · skip
      have ht1:e=71∧M6 s.key=false:=by simpa using c1
      exact J.seq (J.reown (Reown.cons (Reown.cons (Reown.cons (W5 _ _ _)))) (Qg (Zq rfl (QW.assign .const) (Zq rfl (QW.assign .const) (Zn (J.ret (blkQ.r (thenQ.r (Zr [.k,.p,.p,.p] (Qt rfl (REv.tmp rfl lr) (REv.tmp rfl lr)) rfl ⟨_,rfl,GrowR.no (m:=0) (f:=31) hie he0 (by unfold V.grw;rw[if_pos ht1]) (by decide) rfl hV2⟩)))))))))
    have hf1:¬(e=71∧M6 s.key=false):=by intro hh;simp[hh.1,hh.2]at c1
    refine J.seq (Ud 10 mixed (by kernel_rfl) (by kernel_rfl) (by kernel_rfl) rfl ?_)
    refine .cons [] rfl rfl rfl (.q rfl (QW.move (.r rfl))) ?_
    refine .cons [20] rfl rfl rfl (.q rfl (QW.eql (.r rfl) .const)) ?_
    refine .cons [21] rfl rfl rfl (.q rfl (QW.move (.r rfl))) ?_
    refine .cons [22] rfl rfl rfl (.g rfl rfl rfl (fun hg=>(Qf GT (.r rfl) rfl))) ?_
    refine .cons [23,22] rfl rfl rfl (.g rfl rfl rfl (fun hg=>(Qb 0 UA (.when rfl hg) rfl rfl))) ?_
    refine .cons [22] rfl rfl rfl (.g rfl rfl rfl (fun hg=>(QW.move (.r rfl)))) ?_
    refine .cons [25,22] rfl rfl rfl (.g rfl rfl rfl (fun hg=>(W6 (.when rfl hg)))) ?_
    refine .cons [26,22] rfl rfl rfl (.g rfl rfl rfl (fun hg=>(Qf Uv (.when rfl hg) rfl))) ?_
    refine .cons [27,22] rfl rfl rfl (.g rfl rfl rfl (fun hg=>(Qb 1 WP (.when rfl hg) rfl ((KS ho 4 (by decide)).trans rfl)))) ?_
    refine .cons [28,22] rfl rfl rfl (.g rfl rfl rfl (fun hg=>(W7 3 QU (.when rfl hg) rfl))) ?_
    refine .nil ?_
    refine Zg rfl (fun hg=>(QW.eql (.when rfl hg) (.when rfl hg))) (Zq rfl (QW.pick_and (.r rfl) (.r rfl)) (Za rfl (Zn ?_)))
    refine J.cond (.r rfl) (fun c2=>?_) (fun c2=>?_)
    · skip
      have ht2:e=82∧s.index=(z.u.items.length:Int):=by simpa[q2]using c2
      refine Qg (Zd GT rfl (Zl 0 UA rfl (Za rfl (JL.nil (blkQ.n (thenQ.n ?_))))))
      exact⟨z.u.items.length,⟨by unfold V.grw;rw[if_neg hf1,if_pos ht2],Nat.le_refl _,fun hk=>absurd hk (by rcases hcs with h|h|h;(exact absurd (h.1.symm.trans ht2.1) (by decide));(rw[h.2.1];decide);(exact absurd (h.1.symm.trans ht2.1) (by decide)))⟩,QQ (.cons rfl (Le.intE ht2.2) (.cons rfl lr (.cons rfl lr .nil))) (Reown.refl _) (fun _ h=>by first|exact h|simp[h])⟩
    have hf2:¬(e=82∧s.index=(z.u.items.length:Int)):=by intro hh;simp[hh.1,hh.2,q2]at c2
    refine Zs (Zm rfl (Zq rfl (QW.neq (.r rfl) .const) (Za rfl (Zn ?_))))
    refine J.cond (.r rfl) (fun c3=>?_) (fun c3=>?_)
    · skip
      have ht3:e≠71:=by simpa using c3
      exact J.seq (J.reown (Reown.cons (Reown.cons (Reown.cons (W5 _ _ _)))) (Qg (Zm rfl (Zq rfl (QW.assign .const) (Za rfl (Zn (J.ret (blkQ.r (thenQ.r (Zr [.k,.p,.p,.p] (Qt rfl (REv.tmp rfl lr) (REv.tmp rfl lr)) rfl ⟨_,rfl,GrowR.no (m:=0) (f:=e) hie he0 (by unfold V.grw;rw[if_neg hf1,if_neg hf2,if_pos ht3]) (by assumption) rfl hV2⟩))))))))))
    have h71:e=71:=by simpa using c3
    have h5:s.isKey=true∧z.u.kind=5∧i≤z.u.keys.length:=by
      rcases hcs with h|h|h
      · exact h.2
      · exact absurd (h.1.symm.trans h71) (by decide)
      · exact absurd (h.1.symm.trans h71) (by decide)
    have hkl:=(X0 hp h5.2.1).1
    refine J.skip (blkQ.n (thenQ.n ?_))
    exact⟨i,⟨by unfold V.grw;rw[if_neg hf1,if_neg hf2,if_neg (by simp[h71])],by omega,fun _=>h5.2.2⟩,QQ (.cons rfl lr (.cons rfl lr (.cons rfl lr .nil))) (Reown.refl _) (fun _ h=>by first|exact h|simp[h])⟩
  · intro m ⟨hgm,hmi,hmk⟩
    refine J.conv (by(try simp only[nl,Qj,QA,QC,Qy,QZ,AV.cellsOf,Qc,Qd,Nat.reduceAdd]);rfl) ?_
    refine J.seq (Zs (Zm rfl (Zu rfl (Zd Uv rfl (Zq rfl (Qb 1 WP (.r rfl) rfl ((KS ho 4 (by decide)).trans rfl)) ?_)))))
    refine Zq rfl (W7 3 QU (.r rfl) rfl) (Zq rfl (QW.geq (.r rfl) .const) (Zn ?_))
    refine J.cond (.r rfl) (fun c1=>?_) (fun c1=>?_)
    · skip
      have h32:32≤z.u.items.length:=by(simp[q2]at c1;omega)
      exact J.seq (J.reown (Reown.cons (Reown.cons (Reown.cons (W5 _ _ _)))) (Qg (Zq rfl (QW.assign .const) (Zq rfl (QW.assign .const) (Zn (J.ret (thenQ.r (Zr [.k,.p,.p,.p] (Qt rfl (REv.tmp rfl lr) (REv.tmp rfl lr)) rfl ⟨_,rfl,GrowR.no (m:=0) (f:=3) hie he0 (by rw[hgm,if_pos h32]) (by decide) rfl hV2⟩))))))))
    have h32:¬32≤z.u.items.length:=by(simp[q2]at c1;omega)
    refine Zk (Ru (ι:=Value×List QN) [0,2] (fun⟨kv2,ks2⟩=>[]) (fun⟨kv2,ks2⟩ oo=>List.set (List.set oo 1 (.box z.b (Yj z z.u kv2 z.iv))) 2 (.arr kv2 Wz (QP ks2))) (fun⟨kv2,ks2⟩=>kv2.oneCell'=true∧ks2=(if s.isKey=true then z.u.keys.take m++[s.key]++z.u.keys.drop m else z.u.keys)) ?_ ?_)
    · skip
      refine Zs (Zd Lk rfl (Zl 0 P1 rfl (Zn ?_)))
      refine J.cond (.r rfl) (fun c2=>?_) (fun c2=>?_)
      · skip
        have hK:s.isKey=true:=c2
        refine WW 10 1 (fun os_ ow_ x_ o_=>match os_ with|[]=>(∃o2_,(Gy Wz ((QP z.u.keys).take m++[[.c (Q4 s.key)]]++(QP z.u.keys).drop m)) x_ o2_∧o_=QZ [.k,.k,.p] o2_ ow_)|_=>False) mixed (by kernel_rfl) (by kernel_rfl) (by kernel_rfl) rfl ?_
        refine OutK.quiet [] rfl rfl rfl (fun qs_ qv_ ql_=>(.q rfl (QW.move (.r rfl)))) ?_
        refine OutK.quiet [] rfl rfl rfl (fun qs_ qv_ ql_=>(.q rfl (QW.move (.r rfl)))) ?_
        refine OutK.quiet [47] rfl rfl rfl (fun qs_ qv_ ql_=>(.q rfl (W6 (.r rfl)))) ?_
        refine OutK.quiet [48] rfl rfl rfl (fun qs_ qv_ ql_=>(.q rfl (Qf YQ (.r rfl) rfl))) ?_
        refine OutK.quiet [49] rfl rfl rfl (fun qs_ qv_ ql_=>by
            rcases qs_ with _|⟨⟨y0,p0⟩,qs_⟩
            · skip
              exact(.q rfl (Qb 1 Ge (.r rfl) rfl ((KS ho 3 (by decide)).trans rfl)))
            rcases qs_ with _|⟨⟨y1,p1⟩,qs_⟩
            · skip
              obtain⟨hr0,_⟩:=qv_
              obtain⟨o55,⟨v55,rfl,hs55,rfl⟩,rfl⟩:=hr0
              exact(.q rfl (Qb 1 Ge (.r rfl) rfl ((KS ho 3 (by decide)).trans rfl)))
            exact absurd ql_ (by simp)) ?_
        refine OutK.quiet [] rfl rfl rfl (fun qs_ qv_ ql_=>(.q rfl (QW.move (.r rfl)))) ?_
        refine OutK.quiet [] rfl rfl rfl (fun qs_ qv_ ql_=>(.q rfl (Qf N7 (.r rfl) rfl))) ?_
        refine OutK.quiet [52] rfl rfl rfl (fun qs_ qv_ ql_=>by
            rcases qs_ with _|⟨⟨y0,p0⟩,qs_⟩
            · skip
              exact(.q rfl (Qb 0 UO (.r rfl) rfl rfl))
            rcases qs_ with _|⟨⟨y1,p1⟩,qs_⟩
            · skip
              obtain⟨hr0,_⟩:=qv_
              obtain⟨o55,⟨v55,rfl,hs55,rfl⟩,rfl⟩:=hr0
              exact(.q rfl (Qb 0 UO (.r rfl) rfl rfl))
            exact absurd ql_ (by simp)) ?_
        refine OutK.quiet [53] rfl rfl rfl (fun qs_ qv_ ql_=>(.q rfl (QW.buildSlice (idx:=[0]) (xs:=[[.c (Q4 s.key)]]) Ue Pw z9 rfl (.cons (.r rfl) .nil) rfl rfl rfl rfl rfl rfl rfl rfl rfl))) ?_
        refine OutK.loud [50,51,54] rfl rfl rfl rfl rfl (fun qs_ qv_ ql_=>by
            obtain rfl:qs_=[]:=List.length_eq_zero_iff.1 ql_
            exact LStepR.callRF (d:=55) [.k,.k,.p] S8 Lent.nil (fun _=>(.cons (.r rfl) (.cons (.r rfl) (.cons (.r rfl) .nil)))) (Ff (xs:=QP z.u.keys) (i:=m) (by rw[Qp];exact hmk hK) rfl (by rw[Qp];unfold Qr;omega)) (.inl rfl)) ?_
        refine .nil fun qs_ qv_ ql_=>?_
        obtain⟨⟨y0,p0⟩,qs_,rfl⟩:∃p t,qs_=p::t:=by(cases qs_ with|nil=>simp at ql_|cons p t=>exact⟨p,t,rfl⟩)
        obtain rfl:qs_=[]:=List.length_eq_zero_iff.1 (by simpa using ql_)
        obtain⟨hr0,_⟩:=qv_
        obtain⟨o55,⟨v55,rfl,hs55,rfl⟩,rfl⟩:=hr0
        refine JL.conv (by(try simp only[nl,Qj,QA,QC,Qy,QZ,AV.cellsOf,Qc,Qd,Nat.reduceAdd]);rfl) ?_
        refine Zu rfl (Zd YQ rfl (JL.store_box 1 Ge (.r rfl) rfl (.r rfl) (by assumption) rfl (by rw[LV _ _ _ _ ho];exact Nat.ble_eq_true_of_le (by omega)) (Fh ho) rfl ?_))
        refine Zn ?_
        exact⟨⟨v55,z.u.keys.take m++[s.key]++z.u.keys.drop m⟩,⟨hs55,by rw[if_pos hK]⟩,QQ (.cons rfl lr (.cons rfl lr .nil)) (Reown.ofEq (by show [_,Own.box z.b _,Own.arr v55 Wz _,_,_]=_;rw[Di];rfl)) (fun _ h=>by first|exact h|simp[h])⟩
      have hK:s.isKey=false:=c2
      refine Zk ?_
      exact⟨⟨z.kv,z.u.keys⟩,⟨hV.k1,by rw[if_neg (by simp[hK])]⟩,QQ (.cons rfl lr (.cons rfl lr .nil)) (Reown.refl _) (fun _ h=>by first|exact h|simp[h])⟩
    · intro⟨kv2,ks2⟩ ⟨hk2,hks2⟩
      refine J.conv (by(try simp only[nl,Qj,QA,QC,Qy,QZ,AV.cellsOf,Qc,Qd,Nat.reduceAdd]);rfl) ?_
      refine Zs (Zm rfl (Zm rfl (Zu rfl (Zd Uv rfl (Zq rfl (Qb 1 WP (.r rfl) rfl ((KS ho 4 (by decide)).trans rfl)) ?_)))))
      refine Zm rfl (Zq rfl (QW.build (idx:=[]) Kj Yd rfl .nil rfl rfl rfl rfl) (Zq rfl (QW.buildSlice (idx:=[0]) (xs:=[SJ]) QU GX Yd rfl (.cons (.r rfl) .nil) rfl rfl rfl rfl rfl rfl rfl rfl rfl) (JL.callRF [.k,.k,.k,.p] S7 rfl Lent.nil (fun _=>(.cons (.r rfl) (.cons (.r rfl) (.cons (.r rfl) .nil)))) (Fe (xs:=ci) (i:=m) (by omega) rfl (by unfold Qr;omega)) (.inl rfl) fun x66 o66 h66=>?_)))
      obtain⟨v66,rfl,hs66,rfl⟩:=h66
      refine Zu rfl (Zd Uv rfl (JL.store_box 1 WP (.r rfl) rfl (.r rfl) (by assumption) rfl (by rw[LV _ _ _ _ ho];exact Nat.ble_eq_true_of_le (by omega)) (Fi ho) rfl ?_))
      exact Zn (J.seq (J.reown (Reown.cons (Reown.cons (Reown.cons (W5 _ _ _)))) (Qg (Zm rfl (Za rfl (Zq rfl (QW.assign .const) (Zn (J.ret (Zr [.k,.p,.p,.p] (Qt rfl (REv.tmp rfl lr) (REv.tmp rfl lr)) rfl ⟨_,rfl,GrowR.yes (m:=m) hie he0 (by rw[hgm,if_neg h32]) rfl ⟨hk2,hs66,by(rw[show(z.u.ins s m .nil).keys=ks2 from hks2.symm];exact NS (by rw[hks2];split<;>((try simp only[List.length_append,List.length_take,List.length_drop,List.length_singleton]);unfold Qr;omega))),ins_tr hmi q2 q3 q1 q4 q5 (by unfold Qr;omega)⟩⟩)))))))))

end
section
/- Walks: a part of a value is another one. -/
set_option maxRecDepth 10000
set_option maxHeartbeats 4000000
theorem DS:V.nil.Fine:=.mk rfl fun _ h=>by cases h
theorem FH{u:V}{s:StT}{m:Nat}(hm:m≤u.items.length):∃h:m<(u.ins s m .nil).items.length,(u.ins s m .nil).items[m]=.nil:=by
  have hl:m<(u.items.take m++[V.nil]++u.items.drop m).length:=by simp;omega
  refine⟨hl,?_⟩
  show(u.items.take m++[V.nil]++u.items.drop m)[m]'hl=.nil
  simp[List.getElem_append,Nat.min_eq_left hm]
theorem FG{u x:V}{s:StT}{m:Nat}(hm:m≤u.items.length):(u.ins s m .nil).setAt m x=u.ins s m x:=by
  obtain⟨k,b,t,ks,is⟩:=u
  simp only[V.items]at hm
  simp only[V.setAt,V.ins,V.kind,V.bits,V.text,V.keys,V.items]
  congr 1
  rw[List.append_assoc,List.set_append_right _ _ (by simp;omega)]
  simp[Nat.min_eq_left hm]
theorem PM{u:V}{s:StT}{i m:Nat}{e:Int}(hp:Uc u=true)(h:u.fnd s=(i,e))(he:e≠0)(hg:u.grw s i e=(m,0)):m≤u.items.length:=by
  unfold V.grw at hg
  split at hg
  · cases hg
  · split at hg
    · split at hg
      · cases hg
      · cases hg;exact Nat.le_refl _
    · split at hg
      · rename_i h1 h2 h3
        cases hg;exact absurd rfl he
      · rename_i h3
        split at hg
        · cases hg
        · cases hg
          have h71:e=71:=Decidable.byContradiction h3
          rcases Ne h with h|h|h|h
          · exact absurd h he
          · have:=(X0 hp h.2.2.1).1;omega
          · omega
          · omega
theorem PK{u u2 x:V}{s:StT}{r:List StT}{i2:Nat}{e2:Int}(h:u.stp s (decide (r=[]))=(u2,i2,e2))(he:e2≠0):u.set (s::r) x=(.nil,e2):=by
  unfold V.stp at h
  split at h
  · cases h;exact absurd rfl he
  · rename_i h0
    split at h
    · rename_i hr
      have hr:r=[]:=by simpa using hr
      subst hr
      split at h
      · cases h;exact absurd rfl he
      · rename_i hg
        cases h
        show u.put s x=_
        rw[V.put,if_neg h0,if_neg hg]
    · rename_i hr
      cases h
      cases r with
      |nil=>simp at hr
      |cons t r=>rw[V.set,if_pos h0]
theorem FC{u u2 x:V}{s:StT}{r:List StT}{i2:Nat}(hf:u.Fine)(hw:u.wf)(hs:s.wf)(h:u.stp s (decide (r=[]))=(u2,i2,0)):
    ∃hlt:i2<u2.items.length,u2.wf∧u2.items[i2].Fine∧u.set (s::r) x=if(u2.items[i2].set r x).2≠0 then(.nil,(u2.items[i2].set r x).2)else(u2.setAt i2 (u2.items[i2].set r x).1,0):=by
  unfold V.stp at h
  split at h
  · rename_i h0
    cases h
    have hlt:=G6 hf.part h0
    refine⟨hlt,hw,hf.kid (List.getElem_mem hlt),?_⟩
    cases r with
    |nil=>show u.put s x=_;rw[V.put,if_pos h0];rfl
    |cons t r=>rw[V.set,if_neg (by simp[h0]),TF hlt]
  · rename_i h0
    split at h
    · rename_i hr
      have hr:r=[]:=by simpa using hr
      subst hr
      split at h
      · rename_i hg
        cases h
        have hm:=PM (m:=(u.grw s (u.fnd s).1 (u.fnd s).2).1) hf.part (i:=(u.fnd s).1) (e:=(u.fnd s).2) rfl h0 (Prod.ext rfl hg)
        obtain⟨hlt,hnil⟩:=FH (s:=s) hm
        refine⟨hlt,TG hw hf.part hs V.wf_nil,by rw[hnil];exact DS,?_⟩
        show u.put s x=if(V.set _ [] x).2≠0 then _ else(V.setAt _ _ x,0)
        rw[V.put,if_neg h0,if_pos hg,FG hm]
        rfl
      · rename_i hg
        have:=congrArg (·.2.2) h
        exact absurd this hg
    · have:=congrArg (·.2.2) h
      exact absurd this h0
def LM(f:V→V)(w:V×Int):V×Int:=if w.2≠0 then(.nil,w.2)else(f w.1,0)
theorem Bs(w:V×Int)(h:w.2≠0→w.1=.nil):LM id w=w:=by
  unfold LM
  split
  · rename_i h0;rw[← h h0]
  · rename_i h0
    have:w.2=0:=Decidable.byContradiction h0
    exact Prod.ext rfl this.symm
theorem FE:∀{p:List StT} {v x:V},(v.set p x).2≠0→(v.set p x).1=.nil
  |[],v,x,h=>absurd rfl h
  |[s],v,x,h=>by
    change (v.put s x).2≠0 at h
    show(v.put s x).1=.nil
    unfold V.put at h⊢
    split
    · rename_i h0;rw[if_pos h0]at h;exact absurd rfl h
    · rename_i h0
      rw[if_neg h0]at h
      split
      · rename_i h1;rw[if_pos h1]at h;exact absurd rfl h
      · rfl
  |s::t::r,v,x,h=>by
    unfold V.set at h⊢
    split
    · rfl
    · rename_i h0
      rw[if_neg h0]at h
      split
      · rfl
      · rename_i h1;rw[if_neg h1]at h;exact absurd rfl h
theorem Br(f:V→V)(u:V)(i:Nat)(w:V×Int):LM f (if w.2≠0 then(.nil,w.2)else(u.setAt i w.1,0))=LM (fun z=>f (u.setAt i z)) w:=by
  unfold LM
  by_cases h:w.2=0
  · simp[h]
  · simp[h]
theorem Bh{v x w:V}{p:List StT}{e:Int}(hv:v.err=0)(hx:x.err=0)(h:v.set p x=(w,e))(he:e≠0):v.setv p x=(.nil,e):=by rw[V.setv,if_neg (by simp[hv]),if_neg (by simp[hx]),h,if_pos he]
theorem Bi{v x w:V}{p:List StT}(hv:v.err=0)(hx:x.err=0)(h:v.set p x=(w,0))(he:w.err≠0):v.setv p x=(.nil,w.err):=by rw[V.setv,if_neg (by simp[hv]),if_neg (by simp[hx]),h,if_neg (by simp),if_pos he]
theorem Si{v x w:V}{p:List StT}(hv:v.err=0)(hx:x.err=0)(h:v.set p x=(w,0))(he:w.err=0):v.setv p x=(w,0):=by rw[V.setv,if_neg (by simp[hv]),if_neg (by simp[hx]),h,if_neg (by simp),if_neg (by simp[he])]
def Bk(v:V)(p:List StT)(x:V):AV:=.tup [.agg ((v.setv p x).1.cs true),.c (.int .i64 (v.setv p x).2)]
theorem GF{v u x:V}{p:List StT}{e:Int}(h:v.setv p x=(u,e)):Bk v p x=.tup [.agg (u.cs true),.c (.int .i64 e)]:=by rw[Bk,h]
theorem Ti(v:V)(s:StT):NA (Cb v s):=.tup (FlL.cons (.c _) (FlL.cons (.c _) .nil))
theorem DU(a b c d:Own)(l:List Own):Reown (a::b::c::d::l) (b::c::d::a::l):=.perm (List.perm_middle (l₁:=[b,c,d])).symm
theorem Reown.step{cur ok bx ctx kids ok3 oi3 ob oa:Own}(h:Reown [kids] [ok3,oi3,ob,oa]):Reown [cur,ok,bx,ctx,kids] [bx,ok3,oi3,.grp [cur,ok,ob,oa,ctx]]:=by
  refine(Reown.left (c:=[cur,ok,bx,ctx]) h).trans ⟨fun y=>by simp only[QT,UW,Gu,List.count_append,List.count_nil,List.cons_append,List.nil_append];omega,fun w A h=>?_⟩
  simp only[List.forall_mem_cons,List.cons_append,List.nil_append,Kw,List.not_mem_nil,false_implies,implies_true,and_true]at h⊢
  obtain⟨q1,q2,q3,q4,q5,q6,q7,q8⟩:=h
  exact⟨q3,q5,q6,q1,q2,q7,q8,q4⟩
theorem Reown.fin{cur ok oi ctx okx oix:Own}{l:List Own}(h:Reown [cur,okx,oix,ctx] l):Reown [cur,ok,oi,ctx,okx,oix] l:=by
  refine Reown.trans ⟨fun y=>by simp only[QT,UW,List.count_append,List.count_nil];omega,fun w A h=>?_⟩ h
  simp only[List.forall_mem_cons,List.not_mem_nil,false_implies,implies_true,and_true]at h⊢
  exact⟨h.1,h.2.2.2.2.1,h.2.2.2.2.2,h.2.2.2.1⟩
theorem Sw{fr:Bool}{v x:V}{j:Nat}(h:j<2):((v.cs fr++x.cs fr).drop (j*5)).take 5=(if j=0 then v else x).cs fr:=by
  have h1:=V.cs_length fr v
  have h2:=V.cs_length fr x
  rcases Nat.lt_or_ge j 1 with h0|h0
  · obtain rfl:j=0:=by omega
    rw[Nat.zero_mul,List.drop_zero,List.take_left' h1];rfl
  · obtain rfl:j=1:=by omega
    rw[Nat.one_mul,List.drop_left' h1,List.take_of_length_le (by omega)];rfl
theorem PE{cs:List (List AV)}{sp:List Value}{i:Nat}{c:List AV}(h:cs[i]? =some c):cs.flatten++sp.map AV.c=(cs.take i).flatten++c++((cs.drop (i+1)).flatten++sp.map AV.c):=by
  obtain⟨hi,rfl⟩:=List.getElem?_eq_some_iff.1 h
  have h2:=congrArg List.flatten (show cs=cs.take i++cs[i]::cs.drop (i+1) by rw[← List.drop_eq_getElem_cons hi,List.take_append_drop])
  rw[List.flatten_append,List.flatten_cons]at h2
  rw[h2]
  simp only[List.append_assoc]
theorem Bj{fr fr2 c2:Bool}{v x:V}{p:List StT}{ys zs:List AV}(hv:Vc fr v ys)(hx:Vc fr x zs)(hw:v.wf)(hxw:x.wf)(hp:p.length*32≤Qr∧∀s∈p,s.wf):Fn Tryz.prog 252 [.agg ys,.sl fr2 c2 eSt (StT.css p),.agg zs] (Bk v p x):=by
  obtain⟨hp80,hpw⟩:=hp
  have hpl:p.length≤4398046511104:=by unfold Qr at hp80;omega
  subst hv hx
  refine AC.of_J Tryz.func252 rfl Tryz.ntmps252 rfl fun w0 A0=>?_
  refine Zs (Qs (.r rfl) rfl fun b3=>Qs (.r rfl) rfl fun b5=>JL.alloc Yd rfl rfl fun b6=>Zq rfl (QW.assign .const) (Zn (J.seq (Zs (Zq rfl (Qe 2 Ql (.r rfl) rfl (Qo vl rfl) vl) (Zq rfl (Qe 1 Ql (.r rfl) rfl (Qo vl rfl) vl) ?_))))))
  refine Zq rfl (Nv (idx:=[0,1]) (sz:=5) (by kernel_rfl) z363 rfl (.cons (.r rfl) (.cons (.r rfl) .nil)) rfl rfl rfl (Pm (z0:=SJ) (z1:=SJ) rfl rfl (by exact vl) (by exact vl))) ?_
  refine Zq rfl (QW.move .const) (Zn (J.block (Ua (ι:=Nat) [1,3,5,6,20] (fun j=>[(21,.c (.int .i64 (j:Int)))]) (fun _ oo=>oo) (fun j=>j≤2∧(0<j→v.err=0)∧(1<j→x.err=0)) (fun j=>2-j) 0 (⟨by decide,fun h=>absurd h (by decide),fun h=>absurd h (by decide)⟩) (QQ (.cons rfl lr (.cons rfl lr (.cons rfl lr (.cons rfl lr (.cons rfl lr (.cons rfl lr .nil)))))) (Reown.refl _) (fun _ h=>by first|exact h|simp[h])) ?_)))
  intro j ⟨hj2,he1,he2⟩
  refine J.conv (by(try simp only[nl,Qj,QA,QC,Qy,QZ,AV.cellsOf,Qc,Qd,Nat.reduceAdd]);rfl) ?_
  refine Zs (Zq rfl (QW.lss (.r rfl) .const) (Zn (J.seq ?_)))
  refine J.cond (.r rfl) (fun c1=>?_) (fun c1=>?_)
  · skip
    have hj1:j<2:=by(simp at c1;omega)
    have hwj:(if j=0 then v else x).wf:=by split<;>assumption
    refine Zk (J.seq (J.block (Zs (Zq rfl (FK (zs:=(if j=0 then v else x).cs fr) (ln:=2) (et:=33) (by kernel_rfl) Ql (.r rfl) (.r rfl) rfl (by omega) (Sw hj1) vl) ?_))))
    refine JL.alloc Yd rfl rfl fun b9=>Qa 0 Ql (.r rfl) rfl (.r rfl) rfl vl rfl rfl (Zn (Zs (Zq rfl (Qe 0 Ql (.r rfl) rfl (Qo vl rfl) vl) (Zq rfl (QW.call X5 (.cons (.r rfl) .nil) (Yl Vc.self hwj)) (Za rfl (Zn (Zs (Zm rfl ?_))))))))
    refine Zq rfl (QW.neq (.r rfl) .const) (Zn ?_)
    refine J.cond (.r rfl) (fun c2=>?_) (fun c2=>?_)
    · skip
      simp at c2
      have hbad:v.setv p x=(.nil,(if j=0 then v else x).err):=by
        by_cases h0:j=0
        · rw[if_pos h0]at c2⊢
          rw[V.setv,if_pos c2]
        · rw[if_neg h0]at c2⊢
          rw[V.setv,if_neg (by simp[he1 (by omega)]),if_pos c2]
      refine Zs (Zq rfl (QW.build (idx:=[]) Kj Yd rfl .nil rfl rfl rfl rfl) (Zm rfl (Qa 1 Ql (.r rfl) rfl (.r rfl) rfl rfl rfl rfl (Za rfl (Zn (J.ret (blkQ.r (thenQ.r (thenQ.r ?_)))))))))
      exact blkQ.r (thenQ.r (Zr [.k,.k,.k,.k] (Qt rfl (REv.cell 1 Ql rfl rfl rfl rfl (.aggL (.cons lr (.cons lr (.cons lr (.cons (.nil true false _) (.cons (.nil true false _) .nil))))))) (REv.tmp rfl lr)) rfl ⟨congrArg Wl.ret (GF hbad).symm,rfl⟩))
    simp at c2
    have he1b:v.err=0:=by
      by_cases h0:j=0
      · rw[if_pos h0]at c2;exact c2
      · exact he1 (by omega)
    have he2b:1<j+1→x.err=0:=fun h=>by
      rw[if_neg (by omega)]at c2;exact c2
    refine J.skip (blkQ.n (thenQ.n (Qg (Zq rfl (QW.add (.r rfl) .const (Yy (by omega))) (Zm rfl (Zn ?_))))))
    exact⟨j+1,⟨by omega,fun _=>he1b,he2b⟩,by omega,QQ (.cons rfl lr (.cons rfl lr (.cons rfl lr (.cons rfl lr (.cons rfl lr (.cons rfl lr .nil)))))) (Q3 1 _ rfl) (fun _ h=>by first|exact h|simp[h])⟩
  obtain rfl:j=2:=by(simp at c1;omega)
  have hv0:=he1 (by decide)
  have hx0:=he2 (by decide)
  have hfv:=V.fine_of hv0
  refine J.exit (Qz (Qz (QY (thenQ.n (Zs (Zq rfl (Qe 2 Ql (.r rfl) rfl (Qo vl rfl) vl) (JL.callRF [] LX rfl Lent.nil (fun _=>(.cons (.r rfl) .nil)) (L8 Vc.self hw) (.inl rfl) fun x32 o32 h32=>?_)))))))
  obtain⟨kv32,iv32,ok32,oi32,rfl,rfl,hV32⟩:=h32
  refine JL.alloc Yd rfl rfl fun b11=>Qa 0 Ql (.r rfl) rfl (.r rfl) rfl rfl rfl rfl (Zn (Zs (Za rfl (Zn (J.seq (Zs (Zm rfl (Zq rfl (Qh HP (.r rfl) (StT.css_length _)) ?_))))))))
  refine Zq rfl (QW.move .const) (Zn (J.block (J.reown ((DU _ _ _ _ _).trans (YA _)) (Ua (ι:=Nat×At) [1,5,6,11,33,34] (fun⟨j,z⟩=>[(35,.c (.int .i64 (j:Int))),(12,.c (.pointer (some ⟨z.b,z.off,none⟩)))]) (fun⟨j,z⟩ oo=>List.set (List.set (List.set (List.set oo 3 (.box z.b (Yj z z.u z.kv z.iv))) 4 (z.ok)) 5 (z.oi)) 6 (z.ctx)) (fun⟨j,z⟩=>j≤p.length∧z.Ok b11∧v.set p x=LM z.plug (z.u.set (p.drop j) x)) (fun⟨j,z⟩=>p.length-j) ⟨0,⟨b11,0,[],[],v,kv32,iv32,ok32,oi32,.grp [],id⟩⟩ (⟨Nat.zero_le _,⟨rfl,hV32,PW b11,hfv,hw⟩,(Bs _ FE).symm⟩) (QQ (.cons rfl lr (.cons rfl lr (.cons rfl lr (.cons rfl lr (.cons rfl lr (.cons rfl lr (.cons rfl lr (.cons rfl lr .nil)))))))) (Reown.ofEq rfl) (fun _ h=>by first|exact h|simp[h])) ?_))))
  intro⟨j,z⟩ ⟨hj,hz,hset⟩
  refine J.conv (by(try simp only[nl,Qj,QA,QC,Qy,QZ,AV.cellsOf,Qc,Qd,Nat.reduceAdd]);rfl) ?_
  refine Zs (Zq rfl (QW.lss (.r rfl) (.r rfl)) (Zn (J.seq ?_)))
  refine J.cond (.r rfl) (fun c2=>?_) (fun c2=>?_)
  · skip
    have hlt:j<p.length:=by simpa using c2
    have hsw:=hpw _ (List.getElem_mem hlt)
    refine Zk (J.seq (J.block (Zs (Zm rfl (Zq rfl (Qi HP K2 rfl (.r rfl) (.r rfl) rfl (by exact StT.css_getE hlt)) ?_)))))
    refine Zq rfl (Qm K2 (.r rfl) rfl rfl) (JL.alloc ND rfl rfl fun b14=>Za rfl (Qa 0 K2 (.r rfl) rfl (.r rfl) rfl rfl rfl rfl (Zn (J.seq (Ud 9 mixed (by kernel_rfl) (by kernel_rfl) (by kernel_rfl) rfl ?_)))))
    refine .cons [] rfl rfl rfl (.q rfl (QW.move (.r rfl))) ?_
    refine .cons [41] rfl rfl rfl (.q rfl (W6 (.r rfl))) ?_
    refine .cons [42] rfl rfl rfl (.q rfl (Qe 4 Ql (.r rfl) rfl (Fj hz.off) rfl)) ?_
    refine .cons [] rfl rfl rfl (.q rfl (Qe 0 K2 (.r rfl) rfl rfl rfl)) ?_
    refine .cons [43,44] rfl rfl rfl (.q rfl (HH [.k,.k,.k,.k,.k,.l,.l] EN (Lent.cons (hz.tr.lentK) (Lent.cons (hz.tr.lentI) Lent.nil)) rfl rfl (fun _=>(.cons (Ev.le (.r rfl) (V.raw_le (by simp) (by simp))) (.cons (.r rfl) .nil))) (Cc (fr:=false) (v:=z.u) (s:=p[j]'hlt) Vc.self Sc.self hz.fine.part (hpw _ (List.getElem_mem hlt))) (Ti _ _))) ?_
    refine .cons [45] rfl rfl rfl (.q rfl (QW.move (.r rfl))) ?_
    refine .cons [40] rfl rfl rfl (.q rfl (QW.extract (.r rfl) rfl)) ?_
    refine .cons [40] rfl rfl rfl (.q rfl (QW.extract (.r rfl) rfl)) ?_
    refine .cons [46] rfl rfl rfl (.q rfl (QW.assign (.r rfl))) ?_
    refine .nil ?_
    refine Za rfl (Zn (Ru (ι:=V×Nat×Int×Value×Value×Own×Own) [1,5,6,11,12,13,14,33,34,35,36,37,38,39,40,41,42,43,44,45,46,47] (fun⟨u2,i2,e2,kv2,iv2,ok2,oi2⟩=>[(15,.c (.int .i64 (i2:Int))),(16,.c (.int .i64 e2))]) (fun⟨u2,i2,e2,kv2,iv2,ok2,oi2⟩ oo=>List.set (List.set (List.set oo 4 (.box z.b (Yj z u2 kv2 iv2))) 5 (ok2)) 6 (oi2)) (fun⟨u2,i2,e2,kv2,iv2,ok2,oi2⟩=>z.u.stp (p[j]'hlt) (decide (p.drop (j+1)=[]))=(u2,i2,e2)∧VTr u2 kv2 iv2 ok2 oi2) ?_ ?_))
    · skip
      refine Zs (Zm rfl (Zq rfl (QW.neq (.r rfl) .const) (Zm rfl (Zg rfl (fun hg=>(QW.move (.r rfl))) (Zg rfl (fun hg=>(QW.move (.r rfl))) (Zg rfl (fun hg=>(Qh HP (.when rfl hg) (StT.css_length _))) (Zg rfl (fun hg=>(QW.sub (.when rfl hg) .const (Yy (by omega)))) (Zg rfl (fun hg=>(QW.eql (.when rfl hg) (.when rfl hg))) (Zq rfl (QW.pick_and (.r rfl) (.r rfl)) ?_)))))))))
      refine Zn ?_
      refine J.cond (.r rfl) (fun c3=>?_) (fun c3=>?_)
      · skip
        have he0:(z.u.fnd (p[j]'hlt)).2≠0:=by(simp at c3;exact c3.1)
        have hlast:p.drop (j+1)=[]:=by(simp at c3;exact List.drop_of_length_le (by omega))
        refine Qg (Zm rfl (Zq rfl (Qe 0 K2 (.r rfl) rfl rfl rfl) (Zm rfl (Zm rfl (JL.callRF [.k,.k,.k,.k,.p,.p,.p] Qaf rfl Lent.nil (fun _=>(.cons (.r rfl) (.cons (.r rfl) (.cons (.r rfl) (.cons (.r rfl) .nil))))) (SV (z:=z) (s:=p[j]'hlt) (i:=(z.u.fnd (p[j]'hlt)).1) (e:=(z.u.fnd (p[j]'hlt)).2) Sc.self hz.off hz.tr hz.fine.part hz.wf (hpw _ (List.getElem_mem hlt)) rfl he0) (.inl rfl) fun x62 o62 h62=>?_)))))
        obtain⟨kv62,iv62,ok62,oi62,rfl,rfl,hV62⟩:=h62
        refine Zm rfl (Zx rfl (Zx rfl (Za rfl (Za rfl (Zn ?_)))))
        exact⟨⟨_,_,_,kv62,iv62,ok62,oi62⟩,⟨by rw[hlast];rfl,hV62⟩,QQ (.cons rfl lr (.cons rfl lr (.cons rfl lr (.cons rfl lr (.cons rfl lr (.cons rfl lr (.cons rfl lr (.cons rfl lr (.cons rfl lr (.cons rfl lr (.cons rfl lr (.cons rfl lr (.cons rfl lr (.cons rfl lr (.cons rfl lr (.cons rfl lr (.cons rfl lr (.cons rfl lr (.cons rfl lr (.cons rfl lr (.cons rfl lr (.cons rfl lr (.cons rfl lr (.cons rfl lr .nil)))))))))))))))))))))))) (Reown.refl _) (fun _ h=>by first|exact h|simp[h])⟩
      have hno:(z.u.fnd (p[j]'hlt)).2=0∨p.drop (j+1)≠[]:=by
        simp at c3
        by_cases h0:(z.u.fnd (p[j]'hlt)).2=0
        · exact .inl h0
        · refine .inr fun hd=>?_
          have:=c3 h0
          rw[List.drop_eq_nil_iff]at hd
          omega
      refine Zk ?_
      exact⟨⟨z.u,(z.u.fnd (p[j]'hlt)).1,(z.u.fnd (p[j]'hlt)).2,z.kv,z.iv,z.ok,z.oi⟩,⟨by unfold V.stp;by_cases h0:(z.u.fnd (p[j]'hlt)).2=0;(rw[if_pos h0,h0]);(rw[if_neg h0,if_neg (by simpa using hno.resolve_left h0)]),hz.tr⟩,QQ (.cons rfl lr (.cons rfl lr (.cons rfl lr (.cons rfl lr (.cons rfl lr (.cons rfl lr (.cons rfl lr (.cons rfl lr (.cons rfl lr (.cons rfl lr (.cons rfl lr (.cons rfl lr (.cons rfl lr (.cons rfl lr (.cons rfl lr (.cons rfl lr (.cons rfl lr (.cons rfl lr (.cons rfl lr (.cons rfl lr (.cons rfl lr (.cons rfl lr (.cons rfl lr (.cons rfl lr .nil)))))))))))))))))))))))) (Reown.refl _) (fun _ h=>by first|exact h|simp[h])⟩
    · intro⟨u2,i2,e2,kv2,iv2,ok2,oi2⟩ ⟨hst,hV2⟩
      refine J.conv (by(try simp only[nl,Qj,QA,QC,Qy,QZ,AV.cellsOf,Qc,Qd,Nat.reduceAdd]);rfl) ?_
      refine J.seq (Zs (Zm rfl (Zq rfl (QW.neq (.r rfl) .const) (Zn ?_))))
      refine J.cond (.r rfl) (fun c3=>?_) (fun c3=>?_)
      · skip
        have he2:e2≠0:=by simpa using c3
        refine Zs (Zq rfl (QW.build (idx:=[]) Kj Yd rfl .nil rfl rfl rfl rfl) (Zm rfl (Qa 1 Ql (.r rfl) rfl (.r rfl) rfl rfl rfl rfl (Za rfl (Zn (J.ret (thenQ.r (blkQ.r (thenQ.r ?_)))))))))
        exact thenQ.r (blkQ.r (thenQ.r (Zr [.k,.k,.k,.k,.k,.k,.k,.k] (Qt rfl (REv.cell 1 Ql rfl rfl rfl rfl (.aggL (.cons lr (.cons lr (.cons lr (.cons (.nil true false _) (.cons (.nil true false _) .nil))))))) (REv.tmp rfl lr)) rfl ⟨congrArg Wl.ret (GF (Bh hv0 hx0 (e:=e2) (w:=.nil) (by rw[hset,Lt hlt,PK hst he2];simp[LM,he2]) he2)).symm,rfl⟩)))
      obtain rfl:e2=0:=by simpa using c3
      obtain⟨hlt2,huw2,hfk,hset3⟩:=FC (x:=x) hz.fine hz.wf hsw hst
      refine Zk ?_
      obtain⟨ci,ui,o2,q1,q2,q3,q4,q5,q6⟩:=hV2.is.inv
      rw[V.css_length]at q2
      refine J.reown (Rn (i:=6) rfl q6) (J.lay 6 rfl (fun a0 hv hx=>absurd hlt2 (by rw[← q2,hx];simp)) fun b2 cap sp hiv hcap hsz5 hfl=>?_)
      subst hiv
      refine Qg (Zm rfl (Zu rfl (Zd Uv rfl (Zq rfl (Qb 4 WP (.r rfl) rfl ((KS hz.off 4 (by decide)).trans rfl)) ?_))))
      refine Zm rfl (Zq rfl (D0 (m:=i2) QU Ql (.r rfl) (.r rfl) rfl (by omega)) (Za rfl (JL.nil (blkQ.n (thenQ.n ?_)))))
      obtain⟨kv3,iv3,ok3,oi3,ob,oa,u1,u3,e1,e3,e4,e5,e6,e7,e8,e9,e10⟩:=SS hlt2 q2 q3 q1 q4 q5
      refine J.reown (Reown.cons (Reown.cons (Reown.cons (Reown.cons (Reown.step e10))))) (Qg (Zq rfl (QW.add (.r rfl) .const (Yy (by omega))) (Zm rfl (Zn ?_))))
      exact⟨⟨j+1,⟨b2,0+i2*5,(ci.take i2).flatten,(ci.drop (i2+1)).flatten++sp.map AV.c,u2.items[i2],kv3,iv3,ok3,oi3,.grp [.box z.b (Yj z u2 kv2 (sv b2 0 ci.length (cap+1))),ok2,ob,oa,z.ctx],fun w=>z.plug (u2.setAt i2 w)⟩⟩,⟨hlt,⟨by rw[QE (sz:=5) _ (fun x hx=>q3 x (List.mem_of_mem_take hx)),List.length_take,Nat.min_eq_left (by omega)];exact(Nat.zero_add _).symm,e3,hz.law.into huw2 hV2.k1 hV2.i1 hV2.ks hlt2 q2 q3 rfl hcap hfl e4 e5 e6 e7 e8 e9,hfk,huw2.kid (List.getElem_mem hlt2)⟩,by rw[hset,Lt hlt,hset3,Br]⟩,by show p.length-(j+1)<p.length-j;omega,QQ (.cons rfl lr (.cons rfl lr (.cons rfl lr (.cons rfl lr (.cons rfl lr (.cons rfl lr (.cons rfl lr (.cons rfl lr .nil)))))))) ((Q3 1 _ rfl).trans (Reown.ofEq (by show [_,_,_,Own.box b2 _,_,_,_]=[_,_,_,Own.box b2 _,_,_,_];rw[PE e1];rfl))) (fun _ h=>by first|exact h|simp[h])⟩
  have hge:p.length≤j:=by simpa using c2
  rw[List.drop_of_length_le hge]at hset
  have hset2:v.set p x=(z.plug x,0):=hset
  have hww:(z.plug x).wf:=by have:=Me hw hfv hpw hxw;rwa [hset2]at this
  refine J.exit (Qz (Qz (QY (thenQ.n (Zs (Zm rfl (Zq rfl (Qe 1 Ql (.r rfl) rfl (Qo vl rfl) vl) (JL.callRF [] LX rfl Lent.nil (fun _=>(.cons (.r rfl) .nil)) (L8 Vc.self hxw) (.inl rfl) fun x78 o78 h78=>?_))))))))
  obtain⟨kv78,iv78,ok78,oi78,rfl,rfl,hV78⟩:=h78
  refine Zu rfl (JL.store_box 3 Ql (.r rfl) rfl (.r rfl) rfl rfl (by rw[LV _ _ _ _ hz.off];exact Nat.ble_eq_true_of_le (by omega)) (B5 hz.off) rfl ?_)
  refine Zn (J.seq (J.seq ?_))
  obtain⟨kw,iw,okw,oiw,hW,hR⟩:=hz.law x kv78 iv78 ok78 oi78 hxw hV78
  refine J.reown (Reown.cons (Reown.cons (Reown.cons (Reown.fin hR)))) (Qg (Zq rfl (Qe 3 Ql (.r rfl) rfl rfl rfl) (Zq rfl (HH [.k,.k,.k,.k,.l,.l] X5 (Lent.cons (hW.lentK) (Lent.cons (hW.lentI) Lent.nil)) rfl rfl (fun _=>(.cons (Ev.le (.r rfl) (V.raw_le (by simp) (by simp))) .nil)) (Yl (fr:=false) (v:=z.plug x) Vc.self hww) (Fl.c _)) ?_)))
  refine Za rfl (Zn (Zs (Zm rfl (Zq rfl (QW.neq (.r rfl) .const) (Zn ?_)))))
  refine J.cond (.r rfl) (fun c3=>?_) (fun c3=>?_)
  · skip
    have hbd:(z.plug x).err≠0:=by simpa using c3
    exact Zs (Zq rfl (QW.build (idx:=[]) Kj Yd rfl .nil rfl rfl rfl rfl) (Zm rfl (Qa 0 Ql (.r rfl) rfl (.r rfl) rfl rfl rfl rfl (Za rfl (Zn (J.ret (thenQ.r (Zr [.k,.k,.k,.k,.k,.k] (Qt rfl (REv.cell 0 Ql rfl rfl rfl rfl (.aggL (.cons lr (.cons lr (.cons lr (.cons (.nil true false _) (.cons (.nil true false _) .nil))))))) (REv.tmp rfl lr)) rfl ⟨congrArg Wl.ret (GF (Bi hv0 hx0 hset2 hbd)).symm,rfl⟩))))))))
  have hgd:(z.plug x).err=0:=by simpa using c3
  refine Zk (J.seq (J.close 4 rfl hW.ks.clos rfl (fun _ h=>by cases h) ?_))
  refine J.close 4 rfl hW.is.clos rfl (fun _ h=>by cases h) ?_
  exact Qg (Zq rfl (Qe 3 Ql (.r rfl) rfl rfl rfl) (Qa 0 Ql (.r rfl) rfl (.r rfl) rfl rfl rfl rfl (Zq rfl (QW.assign .const) (Zn (J.ret (Zr [.k,.k,.k,.k] (Qt rfl (REv.cell 0 Ql rfl rfl rfl rfl (V.raw_le (by simp) (by simp))) (REv.tmp rfl lr)) rfl ⟨congrArg Wl.ret (GF (Si hv0 hx0 hset2 hgd)).symm,rfl⟩))))))

end
section
/- Walks: operations of lists and records. -/
set_option maxRecDepth 10000
set_option maxHeartbeats 4000000
def Xk{α:Type}:Except Int α→Int
  |.ok _=>0
  |.error c=>c
def PlR(r:Except Int V):Wl→List Own→Prop:=PanR (Xk r=0) (WT (Xk r)) fun x o=>∃v,r=.ok v∧x=.agg (v.cs false)∧o=[]
theorem PlR.ok{r:Except Int V}{v:V}(h:r=.ok v):PlR r (.ret (.agg (v.cs false))) []:=.inl ⟨by rw[h];rfl,_,rfl,v,h,rfl,rfl⟩
theorem PlR.er{r:Except Int V}{c:Int}(h:r=.error c)(hc:¬c=0):PlR r (.pan (.iface 47 (.int .i64 c))) []:=.inr ⟨by rw[h];exact hc,by rw[h];rfl,rfl⟩
theorem XB{l:List V}(h:l.length=2):∃a b,l=[a,b]:=by
  match l,h with
  |[a,b],_=>exact⟨a,b,rfl⟩
theorem LO{l:List V}(h:l.length=1):∃a,l=[a]:=by
  match l,h with
  |[a],_=>exact⟨a,rfl⟩
theorem Gj{v:V}(h:Uc v=true):v.text.length≤128:=by
  obtain⟨k,b,t,ks,is⟩:=v
  show t.length≤128
  unfold Uc at h
  have hz:t=[]→t.length≤128:=fun h=>by subst h;simp
  by_cases h3:k=3
  · subst h3;simp at h;omega
  · refine hz ?_
    simp only[h3,if_false]at h
    repeat' split at h
    all_goals simp at h
    all_goals simp[h]
theorem li_wf{l:List V}(hl:∀x∈l,x.good)(hn:l.length≤8):(V.li l).wf:=.mk (by decide) (by decide) (by decide) (by decide) (by unfold Qr;omega) (fun _ h=>by cases h) (fun x hx=>(hl x hx).wf)
theorem pe8(t:QN)(a:V):UI 8 t [a]=La a ⟨true,t,0⟩:=rfl
theorem pe9(t:QN)(a b:V):UI 9 t [a,b]=if a.kind≠4∨b.kind≠2 then .error 81 else if YG b.bits≠0 then .error 82 else La a ⟨false,[],YP b.bits⟩:=rfl
theorem pe10(t:QN)(a:V):UI 10 t [a]=if a.kind<3 then .error 81 else .ok (.nu (SF ((a.text.length:Int)+(a.items.length:Int)))):=rfl
theorem pe23(t:QN)(l:List V):UI 23 t l=K5 (.li l):=rfl
theorem pe24(t:QN)(a b:V):UI 24 t [a,b]=if a.kind≠4 then .error 81 else NJ a ⟨false,[],a.items.length⟩ b:=rfl
theorem pe25(t:QN)(a b:V):UI 25 t [a,b]=if a.kind≠5 then .error 81 else NJ a ⟨true,t,0⟩ b:=rfl
theorem E5{v:V}{s:StT}(h:(v.getv [s]).2=0):La v s=.ok (v.getv [s]).1:=if_pos h
theorem E7{v:V}{s:StT}(h:¬(v.getv [s]).2=0):La v s=.error (v.getv [s]).2:=if_neg h
theorem Ei{v x:V}{s:StT}(h:(v.setv [s] x).2=0):NJ v s x=.ok (v.setv [s] x).1:=if_pos h
theorem Ej{v x:V}{s:StT}(h:¬(v.setv [s] x).2=0):NJ v s x=.error 84:=if_neg h
theorem Eg{s:StT}(h:s.wf):[s].length*32≤Qr∧∀x∈[s],x.wf:=⟨by unfold Qr;simp,fun x hx=>by rw[List.mem_singleton.1 hx];exact h⟩
theorem G5{F:List (Value×AV)}(v:V):Le F (.agg (v.cs true)) (.agg (v.cs false)):=.aggL (Rl true false (fun h=>by cases h) v)
theorem BS{fr:Bool}{o:Int}{bb:Nat}{t:QN}{args:List EX}{l:List V}{ys:List AV}(he:Xc fr (.mk o bb t args) ys)(ht:t.length≤Qr)(hl:∀x∈l,x.good)(hn:l.length≤8∧(o=23∨((o=8∨o=10)∧l.length=1)∨((o=9∨o=24∨o=25)∧l.length=2))):
    AC Tryz.prog 263 [] [.agg ys,.sl false false eV (V.css false l)] (PlR (UI o t l)):=by
  subst he
  obtain⟨hn8,hn⟩:=hn
  refine AC.of_J Tryz.func263 rfl Tryz.ntmps263 rfl fun w0 A0=>?_
  refine Zs (Qs (.r rfl) rfl fun b2=>JL.alloc Yd rfl rfl fun b4=>Zn (J.seq (Zs (Zd Yk rfl (Zl 1 UA rfl (Zn (J.block ?_)))))))
  refine Zs (Zq rfl (QW.eql (.r rfl) .const) (Za rfl (Zn ?_)))
  refine J.cond (.r rfl) (fun c1=>?_) (fun c1=>?_)
  · skip
    obtain rfl:o=8:=by simpa using c1
    obtain⟨a,rfl⟩:=LO (l:=l) (by omega)
    have ha:=hl a (by simp)
    refine J.seq (QV mixed (Zf 0 [] rfl (fun _=>QW.move (.r rfl)) (Zf 1 [17] rfl (fun _=>Qi QU Ql rfl (.r rfl) .const rfl rfl) (Zf 2 [18] rfl (fun _=>Qm Ql (.r rfl) (QF vl rfl) vl) (Zf 3 [] rfl (fun _=>Qf Hz (.r rfl) rfl) (Zo 4 1 [20] rfl (fun _ ho_=>Qb 1 UO (.r rfl) ho_ rfl) (Zf 5 [21] rfl (fun _=>QW.build (idx:=[0,1]) El ND rfl (.cons .const (.cons (.r rfl) .nil)) rfl rfl rfl rfl) (JX.one 6 [true,true,true,true,true,true] rfl (by kernel_rfl) (by kernel_rfl) rfl rfl (by kernel_rfl) rfl fun bs6_ pe_ ex_=>?_))))))))
    refine JL.conv (by(try simp only[Ug,Uo,Q8,Q0,Flt.val,Flt.bx,nx,nl,Qj,QA,QC,Qy,QZ,AV.cellsOf,Qc,Qd,Nat.reduceAdd]);rfl) ?_
    refine Qn [] EL rfl Lent.nil (fun _=>(.cons (.r rfl) (.cons (.r rfl) .nil))) (Ck (v:=a) (s:=⟨true,t,0⟩) Vc.self ha.wf ⟨ht,show(-9223372036854775808:Int)≤0∧(0:Int)≤9223372036854775807 by decide⟩) (.inl rfl) (fun k23 x23 o23 h23=>?_) (fun k23=>?_)
    rotate_left
    · skip
      refine thenQ.p (thenQ.p (blkQ.p (thenQ.p ?_)))
      exact⟨_,QI [.k,.k] _,_,rfl,rfl,Qk [.k,.k] _,PlR.er ((pe8 t a).trans (E7 k23)) k23⟩
    obtain⟨rfl,rfl⟩:=h23
    refine JL.nil ?_
    refine thenQ.n ⟨[_],_,rfl,rfl,rfl,rfl,rfl,U5 2 rfl rfl,⟨rfl,rfl⟩,trivial,?_⟩
    refine JX.conv (S':=[6,5,4,3,2,1,0]) rfl (by(try simp only[Q0]);rfl) (by(try simp only[Ug,Uo,Q8,Q0,Flt.val,Flt.bx,nx,nl,Qj,QA,QC,Qy,QZ,AV.cellsOf,Qc,Qd,Nat.reduceAdd]);rfl) ?_
    refine JX.one 7 [] rfl (by kernel_rfl) (by kernel_rfl) rfl rfl (by kernel_rfl) rfl fun bs7_ pe_ ex_=>?_
    refine JL.conv (by(try simp only[Ug,Uo,Q8,Q0,Flt.val,Flt.bx,nx,nl,Qj,QA,QC,Qy,QZ,AV.cellsOf,Qc,Qd,Nat.reduceAdd]);rfl) ?_
    refine Qa 0 Ql (.r rfl) rfl (.r rfl) rfl vl rfl rfl (JL.nil ?_)
    refine thenQ.n ⟨[],_,rfl,rfl,rfl,rfl,rfl,QM 2 rfl,trivial,trivial,?_⟩
    refine JX.conv (S':=[7,6,5,4,3,2,1,0]) rfl (by(try simp only[Q0]);rfl) (by(try simp only[Ug,Uo,Q8,Q0,Flt.val,Flt.bx,nx,nl,Qj,QA,QC,Qy,QZ,AV.cellsOf,Qc,Qd,Nat.reduceAdd]);rfl) ?_
    refine JX.fin (by kernel_rfl) (by kernel_rfl) fun bs_=>?_
    refine QX.conv (by(try simp only[Ug,Uo,Q8,Q0,Flt.val,Flt.bx,nx,nl,Qj,QA,QC,Qy,QZ,AV.cellsOf,Qc,Qd,Nat.reduceAdd]);rfl) ?_
    exact thenQ.n (J.ret (blkQ.r (thenQ.r (Zr [.k,.k] (RetEv.one rfl (REv.cell 0 Ql rfl rfl (Qo vl rfl) vl (G5 _))) rfl (PlR.ok ((pe8 t a).trans (E5 k23)))))))
  have n8:¬o=8:=by simpa using c1
  refine Zs (Zq rfl (QW.eql (.r rfl) .const) (Za rfl (Zn ?_)))
  refine J.cond (.r rfl) (fun c2=>?_) (fun c2=>?_)
  · skip
    obtain rfl:o=9:=by simpa using c2
    obtain⟨a,b,rfl⟩:=XB (l:=l) (by omega)
    have ha:=hl a (by simp)
    have hb:=hl b (by simp)
    have hb64:=hb.bits
    refine Zs (Zm rfl (Zq rfl (QW.buildSlice (idx:=[0,1]) (xs:=Wt [4,2]) Ks Fs z3 rfl (.cons .const (.cons .const .nil)) rfl rfl rfl rfl rfl rfl rfl rfl rfl) ?_))
    refine Qn [] WZ rfl Lent.nil (fun _=>(.cons (.r rfl) (.cons (.r rfl) .nil))) (Wo _ [4,2] (by simp) (by simp)) (.inl rfl) (fun k28 x28 o28 h28=>?_) (fun k28=>?_)
    rotate_left
    · skip
      refine thenQ.p (blkQ.p (thenQ.p ?_))
      exact⟨_,QI [.k,.k] _,_,rfl,rfl,Qk [.k,.k] _,PlR.er (c:=81) ((pe9 t a b).trans (if_pos (by simp[Uj]at k28;omega))) (by decide)⟩
    obtain⟨rfl,rfl⟩:=h28
    refine Zn (Zs (Zm rfl (Zq rfl (Qi QU Ql rfl (.r rfl) .const rfl rfl) (Ze UE rfl (Zq rfl (Qv WQ (.r rfl) (YT _ _)) (Zq rfl (QW.call B6 (.cons (.r rfl) .nil) (B3 _ (by assumption))) ?_))))))
    refine Zm rfl (Zx rfl (Zx rfl (Za rfl (Za rfl (Zn (Zs (Zm rfl (Zq rfl (QW.eql (.r rfl) .const) ?_))))))))
    refine Qn [] WL rfl Lent.nil (fun _=>(.cons (.r rfl) (.cons .const .nil))) (XL _ _) (.inl rfl) (fun k39 x39 o39 h39=>?_) (fun k39=>?_)
    rotate_left
    · skip
      refine thenQ.p (blkQ.p (thenQ.p ?_))
      exact⟨_,QI [.k,.k] _,_,rfl,rfl,Qk [.k,.k] _,PlR.er (c:=82) (by rw[pe9,if_neg (by simp[Uj]at k28;omega),if_pos (by simpa using k39)]) (by decide)⟩
    obtain⟨rfl,rfl⟩:=h39
    refine Zn (Zs (Zm rfl (Zq rfl (Qi QU Ql rfl (.r rfl) .const rfl rfl) (Zq rfl (Qm Ql (.r rfl) (QF vl rfl) vl) (Zm rfl (Zq rfl (QW.build (idx:=[2]) El ND rfl (.cons (.r rfl) .nil) rfl rfl rfl rfl) ?_))))))
    refine Qn [] EL rfl Lent.nil (fun _=>(.cons (.r rfl) (.cons (.r rfl) .nil))) (Ck (v:=a) (s:=⟨false,[],YP b.bits⟩) Vc.self ha.wf ⟨by unfold Qr;simp,by have:=Xs b.bits (by simpa using k39);show(-9223372036854775808:Int)≤YP b.bits∧YP b.bits≤9223372036854775807;omega⟩) (.inl rfl) (fun k45 x45 o45 h45=>?_) (fun k45=>?_)
    rotate_left
    · skip
      refine thenQ.p (blkQ.p (thenQ.p ?_))
      exact⟨_,QI [.k,.k] _,_,rfl,rfl,Qk [.k,.k] _,PlR.er (by rw[pe9,if_neg (by simp[Uj]at k28;omega),if_neg (by simpa using k39)];exact E7 k45) k45⟩
    obtain⟨rfl,rfl⟩:=h45
    exact Qa 0 Ql (.r rfl) rfl (.r rfl) rfl vl rfl rfl (Zn (J.ret (blkQ.r (thenQ.r (Zr [.k,.k] (RetEv.one rfl (REv.cell 0 Ql rfl rfl (Qo vl rfl) vl (G5 _))) rfl (PlR.ok (by rw[pe9,if_neg (by simp[Uj]at k28;omega),if_neg (by simpa using k39)];exact E5 k45)))))))
  have n9:¬o=9:=by simpa using c2
  refine Zs (Zq rfl (QW.eql (.r rfl) .const) (Za rfl (Zn ?_)))
  refine J.cond (.r rfl) (fun c3=>?_) (fun c3=>?_)
  · skip
    obtain rfl:o=10:=by simpa using c3
    obtain⟨a,rfl⟩:=LO (l:=l) (by omega)
    have ha:=hl a (by simp)
    have ha32:=ha.len
    have hat:=Gj ha.fine.part
    refine Zs (Zm rfl (Zq rfl (Qi QU Ql rfl (.r rfl) .const rfl rfl) (Ze UZ rfl (Zq rfl (Qv UA (.r rfl) (DT _ _)) (Zq rfl (QW.geq (.r rfl) .const) ?_)))))
    refine Qn [] WL rfl Lent.nil (fun _=>(.cons (.r rfl) (.cons .const .nil))) (XL _ _) (.inl rfl) (fun k53 x53 o53 h53=>?_) (fun k53=>?_)
    rotate_left
    · skip
      refine thenQ.p (blkQ.p (thenQ.p ?_))
      exact⟨_,QI [.k,.k] _,_,rfl,rfl,Qk [.k,.k] _,PlR.er (c:=81) ((pe10 t a).trans (if_pos (by simp at k53;omega))) (by decide)⟩
    obtain⟨rfl,rfl⟩:=h53
    refine Zn (J.seq (QV mixed (Zf 0 [] rfl (fun _=>QW.move (.r rfl)) (Zf 1 [55] rfl (fun _=>Qi QU Ql rfl (.r rfl) .const rfl rfl) (Zf 2 [56] rfl (fun _=>QL Xf (.r rfl) rfl) (Zf 3 [57] rfl (fun _=>Qv UO (.r rfl) (Mj _ _)) (Zf 4 [58] rfl (fun _=>U3 Mx (.r rfl)) (Zf 5 [] rfl (fun _=>QW.move (.r rfl)) (Zf 6 [60] rfl (fun _=>Qi QU Ql rfl (.r rfl) .const rfl rfl) ?_)))))))))
    refine Zf 7 [61] rfl (fun _=>QL Uv (.r rfl) rfl) (Zf 8 [62] rfl (fun _=>Qv WP (.r rfl) (PN _ _)) (Zf 9 [63] rfl (fun _=>Qh QU (.r rfl) wl) (Zf 10 [59,64] rfl (fun _=>QW.add (.r rfl) (.r rfl) (Yy (by omega))) (Zf 11 [65] rfl (fun _=>QW.call gofn27 (.cons (.r rfl) .nil) (BI _ (by omega))) (Zf 12 [66] rfl (fun _=>QW.move (.r rfl)) (Zf 13 [54] rfl (fun _=>QW.extract (.r rfl) rfl) (Zf 14 [54] rfl (fun _=>QW.extract (.r rfl) rfl) (Zf 15 [67] rfl (fun _=>QW.assign (.r rfl)) (Zf 16 [68] rfl (fun _=>QW.assign (.r rfl)) ?_)))))))))
    refine JX.fin (by kernel_rfl) (by kernel_rfl) fun bs_=>?_
    refine QX.conv (by(try simp only[Ug,Uo,Q8,Q0,Flt.val,Flt.bx,nx,nl,Qj,QA,QC,Qy,QZ,AV.cellsOf,Qc,Qd,Nat.reduceAdd]);rfl) ?_
    exact thenQ.n (Zs (Zm rfl (Zq rfl (QW.call X7 (.cons (.r rfl) .nil) (Gl _)) (Qa 0 Ql (.r rfl) rfl (.r rfl) rfl rfl rfl rfl (Zn (J.ret (blkQ.r (thenQ.r (Zr [.k,.k] (RetEv.one rfl (REv.cell 0 Ql rfl rfl rfl rfl lr)) rfl (PlR.ok ((pe10 t a).trans (if_neg (by simp at k53;omega)))))))))))))
  have n10:¬o=10:=by simpa using c3
  refine Zs (Zq rfl (QW.eql (.r rfl) .const) (Za rfl (Zn ?_)))
  refine J.cond (.r rfl) (fun c4=>?_) (fun c4=>?_)
  · skip
    obtain rfl:o=23:=by simpa using c4
    refine Zs (Zm rfl (Zq rfl (QW.build (idx:=[0,4]) Kj Yd rfl (.cons .const (.cons (.r rfl) .nil)) rfl rfl rfl rfl) ?_))
    refine Qn [] NX rfl Lent.nil (fun _=>(.cons (Ev.le (.r rfl) (.aggL (.cons lr (.cons lr (.cons lr (.cons (.nil false false _) (.cons lr .nil))))))) .nil)) (NR (fr:=false) (v:=.li l) Vc.self (li_wf hl hn8)) (.inl rfl) (fun k75 x75 o75 h75=>?_) (fun k75=>?_)
    rotate_left
    · skip
      refine thenQ.p (blkQ.p (thenQ.p ?_))
      exact⟨_,QI [.k,.k] _,_,rfl,rfl,Qk [.k,.k] _,PlR.er (c:=84) ((pe23 t l).trans (if_neg k75)) (by decide)⟩
    obtain⟨rfl,rfl⟩:=h75
    exact Qa 0 Ql (.r rfl) rfl (.r rfl) rfl rfl rfl rfl (Zn (J.ret (blkQ.r (thenQ.r (Zr [.k,.k] (RetEv.one rfl (REv.cell 0 Ql rfl rfl rfl rfl lr)) rfl (PlR.ok (v:=.li l) ((pe23 t l).trans (if_pos k75))))))))
  have n23:¬o=23:=by simpa using c4
  refine Zs (Zq rfl (QW.eql (.r rfl) .const) (Za rfl (Zn ?_)))
  refine J.cond (.r rfl) (fun c5=>?_) (fun c5=>?_)
  · skip
    obtain rfl:o=24:=by simpa using c5
    obtain⟨a,b,rfl⟩:=XB (l:=l) (by omega)
    have ha:=hl a (by simp)
    have hb:=hl b (by simp)
    have ha32:=ha.len
    refine Zs (Zm rfl (Zq rfl (QW.buildSlice (idx:=[0]) (xs:=Wt [4]) Ks Fs z3 rfl (.cons .const .nil) rfl rfl rfl rfl rfl rfl rfl rfl rfl) ?_))
    refine Qn [] WZ rfl Lent.nil (fun _=>(.cons (.r rfl) (.cons (.r rfl) .nil))) (Wo _ [4] (by simp) (by simp)) (.inl rfl) (fun k80 x80 o80 h80=>?_) (fun k80=>?_)
    rotate_left
    · skip
      refine thenQ.p (blkQ.p (thenQ.p ?_))
      exact⟨_,QI [.k,.k] _,_,rfl,rfl,Qk [.k,.k] _,PlR.er (c:=81) ((pe24 t a b).trans (if_pos (by simpa[Uj]using k80))) (by decide)⟩
    obtain⟨rfl,rfl⟩:=h80
    refine Zn (J.seq (QV mixed (Zf 0 [] rfl (fun _=>QW.move (.r rfl)) (Zf 1 [82] rfl (fun _=>Qi QU Ql rfl (.r rfl) .const rfl rfl) (Zf 2 [83] rfl (fun _=>Qm Ql (.r rfl) (QF vl rfl) vl) (Zf 3 [] rfl (fun _=>QW.move (.r rfl)) (Zf 4 [85] rfl (fun _=>Qi QU Ql rfl (.r rfl) .const rfl rfl) (Zf 5 [86] rfl (fun _=>QL Uv (.r rfl) rfl) (Zf 6 [87] rfl (fun _=>Qv WP (.r rfl) (PN _ _)) ?_)))))))))
    refine Zf 7 [88] rfl (fun _=>Qh QU (.r rfl) wl) (Zf 8 [89] rfl (fun _=>QW.build (idx:=[2]) El ND rfl (.cons (.r rfl) .nil) rfl rfl rfl rfl) (Zf 9 [90] rfl (fun _=>QW.buildSlice (idx:=[0]) (xs:=StT.css [⟨false,[],(a.items.length:Int)⟩]) HP Px ND rfl (.cons (.r rfl) .nil) rfl rfl rfl rfl rfl rfl rfl rfl rfl) (Zf 10 [] rfl (fun _=>QW.move (.r rfl)) (Zf 11 [92] rfl (fun _=>Qi QU Ql rfl (.r rfl) .const rfl rfl) (Zf 12 [93] rfl (fun _=>Qm Ql (.r rfl) (QF vl rfl) vl) (Zf 13 [84,91,94] rfl (fun _=>QW.call EP (.cons (.r rfl) (.cons (.r rfl) (.cons (.r rfl) .nil))) (Bj (v:=a) (x:=b) (p:=[⟨false,[],a.items.length⟩]) Vc.self Vc.self ha.wf hb.wf (Eg ⟨by unfold Qr;simp,by show(-9223372036854775808:Int)≤(a.items.length:Int)∧(a.items.length:Int)≤9223372036854775807;omega⟩))) ?_))))))
    refine Zf 14 [95] rfl (fun _=>QW.move (.r rfl)) (Zf 15 [81] rfl (fun _=>QW.extract (.r rfl) rfl) (Zf 16 [81] rfl (fun _=>QW.extract (.r rfl) rfl) (JX.a 17 rfl (AllocOp.mk Yd rfl) rfl rfl rfl rfl rfl (JX.one 18 [true,false,true,true,true,true,true,true,true,true,true,true,true,true,true,true,true,true] rfl (by kernel_rfl) (by kernel_rfl) rfl rfl (by kernel_rfl) rfl fun bs18_ pe_ ex_=>?_))))
    refine JL.conv (by(try simp only[Ug,Uo,Q8,Q0,Flt.val,Flt.bx,nx,nl,Qj,QA,QC,Qy,QZ,AV.cellsOf,Qc,Qd,Nat.reduceAdd]);rfl) ?_
    refine Qa 2 Ql (.r rfl) rfl (.r rfl) rfl vl rfl rfl (JL.nil ?_)
    refine thenQ.n ⟨[],_,rfl,rfl,rfl,rfl,rfl,QM 3 rfl,trivial,⟨trivial,trivial⟩,?_⟩
    refine JX.conv (S':=[18,17,15,14,13,12,11,10,9,8,7,6,5,4,3,2,1,0]) rfl (by(try simp only[Q0]);rfl) (by(try simp only[Ug,Uo,Q8,Q0,Flt.val,Flt.bx,nx,nl,Qj,QA,QC,Qy,QZ,AV.cellsOf,Qc,Qd,Nat.reduceAdd]);rfl) ?_
    refine Zf 19 [97] rfl (fun _=>QW.assign (.r rfl)) (JX.fin (by kernel_rfl) (by kernel_rfl) fun bs_=>?_)
    refine QX.conv (by(try simp only[Ug,Uo,Q8,Q0,Flt.val,Flt.bx,nx,nl,Qj,QA,QC,Qy,QZ,AV.cellsOf,Qc,Qd,Nat.reduceAdd]);rfl) ?_
    refine thenQ.n (Zs (Zm rfl (Zq rfl (QW.eql (.r rfl) .const) ?_)))
    refine Qn [] WL rfl Lent.nil (fun _=>(.cons (.r rfl) (.cons .const .nil))) (XL _ _) (.inl rfl) (fun k100 x100 o100 h100=>?_) (fun k100=>?_)
    rotate_left
    · skip
      refine thenQ.p (blkQ.p (thenQ.p ?_))
      exact⟨_,QI [.k,.k,.k] _,_,rfl,rfl,Qk [.k,.k,.k] _,PlR.er (c:=84) (by rw[pe24,if_neg (by simpa[Uj]using k80)];exact Ej (by simpa using k100)) (by decide)⟩
    obtain⟨rfl,rfl⟩:=h100
    exact Zn (Zs (Zq rfl (Qe 2 Ql (.r rfl) rfl (Qo vl rfl) vl) (Qa 0 Ql (.r rfl) rfl (.r rfl) rfl vl rfl rfl (Zn (J.ret (blkQ.r (thenQ.r (Zr [.k,.k,.k] (RetEv.one rfl (REv.cell 0 Ql rfl rfl (Qo vl rfl) vl (G5 _))) rfl (PlR.ok (by rw[pe24,if_neg (by simpa[Uj]using k80)];exact Ei (by simpa using k100)))))))))))
  have n24:¬o=24:=by simpa using c5
  obtain rfl:o=25:=by omega
  obtain⟨a,b,rfl⟩:=XB (l:=l) (by omega)
  have ha:=hl a (by simp)
  have hb:=hl b (by simp)
  refine J.skip (blkQ.n (thenQ.n (Zs (Zm rfl (Zq rfl (QW.buildSlice (idx:=[0]) (xs:=Wt [5]) Ks Fs z3 rfl (.cons .const .nil) rfl rfl rfl rfl rfl rfl rfl rfl rfl) ?_)))))
  refine Qn [] WZ rfl Lent.nil (fun _=>(.cons (.r rfl) (.cons (.r rfl) .nil))) (Wo _ [5] (by simp) (by simp)) (.inl rfl) (fun k104 x104 o104 h104=>?_) (fun k104=>?_)
  rotate_left
  · skip
    refine thenQ.p ?_
    exact⟨_,QI [.k,.k] _,_,rfl,rfl,Qk [.k,.k] _,PlR.er (c:=81) ((pe25 t a b).trans (if_pos (by simpa[Uj]using k104))) (by decide)⟩
  obtain⟨rfl,rfl⟩:=h104
  refine Zn (J.seq (QV mixed (Zf 0 [] rfl (fun _=>QW.move (.r rfl)) (Zf 1 [106] rfl (fun _=>Qi QU Ql rfl (.r rfl) .const rfl rfl) (Zf 2 [107] rfl (fun _=>Qm Ql (.r rfl) (QF vl rfl) vl) (Zf 3 [] rfl (fun _=>Qf Hz (.r rfl) rfl) (Zo 4 1 [109] rfl (fun _ ho_=>Qb 1 UO (.r rfl) ho_ rfl) (Zf 5 [110] rfl (fun _=>QW.build (idx:=[0,1]) El ND rfl (.cons .const (.cons (.r rfl) .nil)) rfl rfl rfl rfl) (Zf 6 [111] rfl (fun _=>QW.buildSlice (idx:=[0]) (xs:=StT.css [⟨true,t,0⟩]) HP Px ND rfl (.cons (.r rfl) .nil) rfl rfl rfl rfl rfl rfl rfl rfl rfl) ?_)))))))))
  refine Zf 7 [] rfl (fun _=>QW.move (.r rfl)) (Zf 8 [113] rfl (fun _=>Qi QU Ql rfl (.r rfl) .const rfl rfl) (Zf 9 [114] rfl (fun _=>Qm Ql (.r rfl) (QF vl rfl) vl) (Zf 10 [108,112,115] rfl (fun _=>QW.call EP (.cons (.r rfl) (.cons (.r rfl) (.cons (.r rfl) .nil))) (Bj (v:=a) (x:=b) (p:=[⟨true,t,0⟩]) Vc.self Vc.self ha.wf hb.wf (Eg ⟨ht,show(-9223372036854775808:Int)≤0∧(0:Int)≤9223372036854775807 by decide⟩))) ?_)))
  refine Zf 11 [116] rfl (fun _=>QW.move (.r rfl)) (Zf 12 [105] rfl (fun _=>QW.extract (.r rfl) rfl) (Zf 13 [105] rfl (fun _=>QW.extract (.r rfl) rfl) (JX.a 14 rfl (AllocOp.mk Yd rfl) rfl rfl rfl rfl rfl (JX.one 15 [true,false,true,true,true,true,true,true,true,true,true,true,true,true,true] rfl (by kernel_rfl) (by kernel_rfl) rfl rfl (by kernel_rfl) rfl fun bs15_ pe_ ex_=>?_))))
  refine JL.conv (by(try simp only[Ug,Uo,Q8,Q0,Flt.val,Flt.bx,nx,nl,Qj,QA,QC,Qy,QZ,AV.cellsOf,Qc,Qd,Nat.reduceAdd]);rfl) ?_
  refine Qa 2 Ql (.r rfl) rfl (.r rfl) rfl vl rfl rfl (JL.nil ?_)
  refine thenQ.n ⟨[],_,rfl,rfl,rfl,rfl,rfl,QM 3 rfl,trivial,⟨trivial,trivial⟩,?_⟩
  refine JX.conv (S':=[15,14,12,11,10,9,8,7,6,5,4,3,2,1,0]) rfl (by(try simp only[Q0]);rfl) (by(try simp only[Ug,Uo,Q8,Q0,Flt.val,Flt.bx,nx,nl,Qj,QA,QC,Qy,QZ,AV.cellsOf,Qc,Qd,Nat.reduceAdd]);rfl) ?_
  refine Zf 16 [118] rfl (fun _=>QW.assign (.r rfl)) (JX.fin (by kernel_rfl) (by kernel_rfl) fun bs_=>?_)
  refine QX.conv (by(try simp only[Ug,Uo,Q8,Q0,Flt.val,Flt.bx,nx,nl,Qj,QA,QC,Qy,QZ,AV.cellsOf,Qc,Qd,Nat.reduceAdd]);rfl) ?_
  refine thenQ.n (Zs (Zm rfl (Zq rfl (QW.eql (.r rfl) .const) ?_)))
  refine Qn [] WL rfl Lent.nil (fun _=>(.cons (.r rfl) (.cons .const .nil))) (XL _ _) (.inl rfl) (fun k121 x121 o121 h121=>?_) (fun k121=>?_)
  rotate_left
  · skip
    refine thenQ.p ?_
    exact⟨_,QI [.k,.k,.k] _,_,rfl,rfl,Qk [.k,.k,.k] _,PlR.er (c:=84) (by rw[pe25,if_neg (by simpa[Uj]using k104)];exact Ej (by simpa using k121)) (by decide)⟩
  obtain⟨rfl,rfl⟩:=h121
  exact Zn (Zs (Zq rfl (Qe 2 Ql (.r rfl) rfl (Qo vl rfl) vl) (Qa 0 Ql (.r rfl) rfl (.r rfl) rfl vl rfl rfl (Zn (J.ret (Zr [.k,.k,.k] (RetEv.one rfl (REv.cell 0 Ql rfl rfl (Qo vl rfl) vl (G5 _))) rfl (PlR.ok (by rw[pe25,if_neg (by simpa[Uj]using k104)];exact Ei (by simpa using k121)))))))))

end
section
/- Walks: orders of numbers, texts, lists. -/
set_option maxRecDepth 10000
set_option maxHeartbeats 4000000
theorem cmpI_ok(a b:Int):Fn Tryz.prog 293 [.c (.int .i64 a),.c (.int .i64 b)] (.c (.int .i64 (HE a b))):=Fw a b
theorem Nn{a b:List QN}{k:Nat}(ha:k<a.length)(hb:k<b.length):K0 (a.drop k) (b.drop k)=Er (XP a[k] b[k]) (K0 (a.drop (k+1)) (b.drop (k+1))):=by
  rw[List.drop_eq_getElem_cons ha,List.drop_eq_getElem_cons hb,K0]
theorem cmpK_gt{a b:List QN}{k:Nat}(ha:k<a.length)(hb:b.length≤k):K0 (a.drop k) (b.drop k)=1:=by
  rw[List.drop_eq_getElem_cons ha,List.drop_of_length_le hb,K0]
theorem cmpK_lt{a b:List QN}{k:Nat}(ha:a.length≤k)(hb:k<b.length):K0 (a.drop k) (b.drop k)= -1:=by
  rw[List.drop_eq_getElem_cons hb,List.drop_of_length_le ha,K0]
theorem cmpK_eq{a b:List QN}{k:Nat}(ha:a.length≤k)(hb:b.length≤k):K0 (a.drop k) (b.drop k)=0:=by
  rw[List.drop_of_length_le hb,List.drop_of_length_le ha,K0]
theorem MY{a b:List V}{k:Nat}(ha:k<a.length)(hb:k<b.length):Ww (a.drop k) (b.drop k)=Er (a[k].ord b[k]) (Ww (a.drop (k+1)) (b.drop (k+1))):=by
  rw[List.drop_eq_getElem_cons ha,List.drop_eq_getElem_cons hb,Ww]
theorem SB{a b:List V}{k:Nat}(ha:k<a.length)(hb:b.length≤k):Ww (a.drop k) (b.drop k)=1:=by
  rw[List.drop_eq_getElem_cons ha,List.drop_of_length_le hb,Ww]
theorem SA{a b:List V}{k:Nat}(ha:a.length≤k)(hb:k<b.length):Ww (a.drop k) (b.drop k)= -1:=by
  rw[List.drop_eq_getElem_cons hb,List.drop_of_length_le ha,Ww]
theorem SC{a b:List V}{k:Nat}(ha:a.length≤k)(hb:b.length≤k):Ww (a.drop k) (b.drop k)=0:=by
  rw[List.drop_of_length_le hb,List.drop_of_length_le ha,Ww]
theorem Eq{a b:Int}(h:a≠0):Er a b=a:=if_pos h
theorem Ep{b:Int}:Er 0 b=b:=if_neg (fun h=>h rfl)
def FQ:List Int→Int
  |[]=>0
  |x::r=>Er x (FQ r)
theorem RV{l:List Int}{k:Nat}(h:k<l.length):FQ (l.drop k)=Er l[k] (FQ (l.drop (k+1))):=by
  rw[List.drop_eq_getElem_cons h,FQ]
theorem SE{l:List Int}{k:Nat}(h:l.length≤k):FQ (l.drop k)=0:=by rw[List.drop_of_length_le h,FQ]
theorem SD(a:Int):FQ [a]=a:=by simp only[FQ,Er];split<;>omega
theorem Ew(n:Int):Fn Tryz.prog 313 [.c (.int .u64 n)] (.c (.bool false)):=by
  refine AC.of_J Tryz.func313 rfl Tryz.ntmps313 rfl fun w0 A0=>?_
  exact Zs (Zq rfl (QW.assign .const) (Zn (Zs (Zm rfl (Zm rfl (Zq rfl (QW.neq (.r rfl) (.r rfl)) (Za rfl (Zn (J.ret (Zr [] (RetEv.one rfl (REv.tmp rfl lr)) rfl ⟨U0 (by simp),rfl⟩))))))))))
theorem cmpU_ok(a b:Int):Fn Tryz.prog 296 [.c (.int .u64 a),.c (.int .u64 b)] (.c (.int .i64 (HE a b))):=by
  refine AC.of_J Tryz.func296 rfl Tryz.ntmps296 rfl fun w0 A0=>?_
  refine Zs (Zq rfl (QW.assign .const) (Zn (Zs (Zm rfl (Zq rfl (QW.call EH (.cons (.r rfl) .nil) (Ew _)) (Za rfl (Zn (Zs (Zm rfl ?_)))))))))
  refine Zq rfl (QW.call EH (.cons (.r rfl) .nil) (Ew _)) (Za rfl (Zn (J.seq (Zs (Zm rfl (Zn ?_))))))
  refine J.cond (.r rfl) (fun c1=>absurd c1 (by simp)) (fun c1=>?_)
  refine Zk (J.seq (Zs (Zm rfl (Zn ?_))))
  refine J.cond (.r rfl) (fun c2=>absurd c2 (by simp)) (fun c2=>?_)
  refine Zk (J.seq (Zs (Zm rfl (Zm rfl (Zq rfl (QW.lss (.r rfl) (.r rfl)) (Zn ?_))))))
  refine J.cond (.r rfl) (fun c3=>?_) (fun c3=>?_)
  · skip
    simp at c3
    exact Zs (Zq rfl (QW.assign .const) (Zn (J.ret (thenQ.r (Zr [] (RetEv.one rfl (REv.tmp rfl lr)) rfl ⟨by rw[show HE a b= -1 from if_pos c3],rfl⟩)))))
  simp at c3
  refine Zk (J.seq (Zs (Zm rfl (Zm rfl (Zq rfl (QW.gtr (.r rfl) (.r rfl)) (Zn ?_))))))
  refine J.cond (.r rfl) (fun c4=>?_) (fun c4=>?_)
  · skip
    simp at c4
    exact Zs (Zq rfl (QW.assign .const) (Zn (J.ret (thenQ.r (Zr [] (RetEv.one rfl (REv.tmp rfl lr)) rfl ⟨by rw[show HE a b=1 by unfold HE;rw[if_neg (by omega),if_pos (by omega)]],rfl⟩)))))
  simp at c4
  exact Zk (Zs (Zq rfl (QW.assign .const) (Zn (J.ret (Zr [] (RetEv.one rfl (REv.tmp rfl lr)) rfl ⟨by rw[show HE a b=0 by unfold HE;rw[if_neg (by omega),if_neg (by omega)]],rfl⟩)))))
theorem Nm(a b:QN):Fn Tryz.prog 86 [.c (Q4 a),.c (Q4 b)] (.c (.int .i64 (XP a b))):=by
  refine AC.of_J Tryz.func86 rfl Tryz.ntmps86 rfl fun w0 A0=>?_
  refine Zs (Zq rfl (QW.assign .const) (Zn (Zs (Zm rfl (Zq rfl (QW.call Lj (.cons (.r rfl) .nil) (Kd _)) (Za rfl (Zn (Zs (Zm rfl ?_)))))))))
  refine Zq rfl (QW.call Lj (.cons (.r rfl) .nil) (Kd _)) (Za rfl (Zn (J.seq (Zs (Zm rfl (Zn ?_))))))
  refine J.cond (.r rfl) (fun c1=>absurd c1 (by simp)) (fun c1=>?_)
  refine Zk (J.seq (Zs (Zm rfl (Zn ?_))))
  refine J.cond (.r rfl) (fun c2=>absurd c2 (by simp)) (fun c2=>?_)
  refine Zk (J.seq (Zs (Zm rfl (Zm rfl (Zq rfl (TN (.r rfl) (.r rfl)) (Zn ?_))))))
  refine J.cond (.r rfl) (fun c3=>?_) (fun c3=>?_)
  · skip
    exact Zs (Zq rfl (QW.assign .const) (Zn (J.ret (thenQ.r (Zr [] (RetEv.one rfl (REv.tmp rfl lr)) rfl ⟨by simp[XP,c3],rfl⟩)))))
  refine Zk (J.seq (Zs (Zm rfl (Zm rfl (Zq rfl (PQ (.r rfl) (.r rfl)) (Zn ?_))))))
  refine J.cond (.r rfl) (fun c4=>?_) (fun c4=>?_)
  · skip
    exact Zs (Zq rfl (QW.assign .const) (Zn (J.ret (thenQ.r (Zr [] (RetEv.one rfl (REv.tmp rfl lr)) rfl ⟨by rw[Tf]at c4;simp[XP,c3,c4],rfl⟩)))))
  exact Zk (Zs (Zq rfl (QW.assign .const) (Zn (J.ret (Zr [] (RetEv.one rfl (REv.tmp rfl lr)) rfl ⟨by rw[Tf]at c4;simp[XP,c3,c4],rfl⟩)))))
theorem or_ok{fr c:Bool}(l:List Int)(hl:l.length≤1000):Fn Tryz.prog 295 [.sl fr c eI64 (Wt l)] (.c (.int .i64 (FQ l))):=by
  refine AC.of_J Tryz.func295 rfl Tryz.ntmps295 rfl fun w0 A0=>?_
  refine Zs (Zq rfl (QW.assign .const) (Zn (Zs (Zq rfl (QW.assign .const) (Zn (J.seq (Zs (Zm rfl (Zq rfl (Qh Ks (.r rfl) (Yz _)) ?_)))))))))
  refine Zq rfl (QW.move .const) (Zn (J.block (Ua (ι:=Nat) [3,6,7] (fun k=>[(8,.c (.int .i64 (k:Int)))]) (fun _ oo=>oo) (fun k=>k≤l.length∧FQ l=FQ (l.drop k)) (fun k=>l.length-k) 0 (⟨Nat.zero_le _,rfl⟩) (QQ (.cons rfl lr (.cons rfl lr (.cons rfl lr (.cons rfl lr .nil)))) (Reown.refl _) (fun _ h=>by first|exact h|simp[h])) ?_)))
  intro k ⟨hk,hs⟩
  refine J.conv (by(try simp only[nl,Qj,QA,QC,Qy,QZ,AV.cellsOf,Qc,Qd,Nat.reduceAdd]);rfl) ?_
  refine Zs (Zq rfl (QW.lss (.r rfl) (.r rfl)) (Zn (J.seq ?_)))
  refine J.cond (.r rfl) (fun c1=>?_) (fun c1=>?_)
  · skip
    have hlt:k<l.length:=by simpa using c1
    refine Zk (J.seq (J.block (Zs (Zq rfl (Qi Ks UA rfl (.r rfl) (.r rfl) rfl (by exact H0 hlt)) ?_))))
    refine Zt UA rfl (Za rfl (Zn (Zs (Zm rfl (Zm rfl (Zq rfl (QW.neq (.r rfl) (.r rfl)) (Zn ?_)))))))
    refine J.cond (.r rfl) (fun c2=>?_) (fun c2=>?_)
    · skip
      have hz:l[k]'hlt≠0:=by simpa using c2
      exact Zs (Zm rfl (Za rfl (Zn (J.ret (blkQ.r (thenQ.r (thenQ.r (blkQ.r (thenQ.r (Zr [] (RetEv.one rfl (REv.tmp rfl lr)) rfl ⟨by rw[hs,RV hlt,Eq hz],rfl⟩))))))))))
    have hz:l[k]'hlt=0:=by simpa using c2
    refine J.skip (blkQ.n (thenQ.n (Qg (Zq rfl (QW.add (.r rfl) .const (Yy (by omega))) (Zm rfl (Zn ?_))))))
    exact⟨k+1,⟨hlt,by rw[hs,RV hlt,hz,Ep]⟩,by omega,QQ (.cons rfl lr (.cons rfl lr (.cons rfl lr (.cons rfl lr .nil)))) (Reown.refl _) (fun _ h=>by first|exact h|simp[h])⟩
  have hge:l.length≤k:=by simpa using c1
  exact J.exit (Qz (Qz (QY (thenQ.n (Zs (Zm rfl (Za rfl (Zn (J.ret (Zr [] (RetEv.one rfl (REv.tmp rfl lr)) rfl ⟨by rw[hs,SE hge],rfl⟩))))))))))
theorem DK{fr fr2 cl cl2:Bool}(a b:List QN)(ha:a.length≤8796093022208)(hb:b.length≤8796093022208):Fn Tryz.prog 297 [.sl fr cl Wz (QP a),.sl fr2 cl2 Wz (QP b)] (.c (.int .i64 (K0 a b))):=by
  refine AC.of_J Tryz.func297 rfl Tryz.ntmps297 rfl fun w0 A0=>?_
  refine Zs (Zq rfl (QW.assign .const) (Zn (J.seq (Zs (Zm rfl (Zq rfl (Qh Ue (.r rfl) (Qp _)) (Zq rfl (QW.move .const) (Zn (J.block ?_)))))))))
  refine Ua (ι:=Nat) [0,1,9,10] (fun k=>[(11,.c (.int .i64 (k:Int)))]) (fun _ oo=>oo) (fun k=>k≤a.length∧k≤b.length∧K0 a b=K0 (a.drop k) (b.drop k)) (fun k=>a.length-k) 0 (⟨Nat.zero_le _,Nat.zero_le _,rfl⟩) (QQ (.cons rfl lr (.cons rfl lr (.cons rfl lr (.cons rfl lr (.cons rfl lr .nil))))) (Reown.refl _) (fun _ h=>by first|exact h|simp[h])) ?_
  intro k ⟨hk,hk2,hs⟩
  refine J.conv (by(try simp only[nl,Qj,QA,QC,Qy,QZ,AV.cellsOf,Qc,Qd,Nat.reduceAdd]);rfl) ?_
  refine Zs (Zq rfl (QW.lss (.r rfl) (.r rfl)) (Zn (J.seq ?_)))
  refine J.cond (.r rfl) (fun c1=>?_) (fun c1=>?_)
  · skip
    have hlt:k<a.length:=by simpa using c1
    refine Zk (J.seq (J.block (Zs (Zm rfl (Zq rfl (Qi Ue UO rfl (.r rfl) (.r rfl) rfl (WE hlt)) (Zt UO rfl (Za rfl (Za rfl (Zn ?_)))))))))
    refine J.seq (Zs (Zm rfl (Zm rfl (Zq rfl (Qh Ue (.r rfl) (Qp _)) (Zq rfl (QW.geq (.r rfl) (.r rfl)) (Zn ?_))))))
    refine J.cond (.r rfl) (fun c2=>?_) (fun c2=>?_)
    · skip
      have hg2:b.length≤k:=by simpa using c2
      exact Zs (Zq rfl (QW.assign .const) (Zn (J.ret (thenQ.r (blkQ.r (thenQ.r (thenQ.r (blkQ.r (thenQ.r (Zr [] (RetEv.one rfl (REv.tmp rfl lr)) rfl ⟨by rw[hs,cmpK_gt hlt hg2],rfl⟩))))))))))
    have hlt2:k<b.length:=by simpa using c2
    refine Zk (Zs (Zm rfl (Zm rfl (Zq rfl (Qi Ue UO rfl (.r rfl) (.r rfl) rfl (WE hlt2)) (Zt UO rfl (Za rfl (Zn (Zs (Zm rfl ?_)))))))))
    refine Zm rfl (Zq rfl (QW.call B7 (.cons (.r rfl) (.cons (.r rfl) .nil)) (Nm _ _)) (Za rfl (Zn (Zs (Zm rfl (Zq rfl (QW.neq (.r rfl) .const) (Zn ?_)))))))
    refine J.cond (.r rfl) (fun c3=>?_) (fun c3=>?_)
    · skip
      have hz:XP (a[k]'hlt) (b[k]'hlt2)≠0:=by simpa using c3
      exact Zs (Zm rfl (Za rfl (Zn (J.ret (blkQ.r (thenQ.r (thenQ.r (blkQ.r (thenQ.r (Zr [] (RetEv.one rfl (REv.tmp rfl lr)) rfl ⟨by rw[hs,Nn hlt hlt2,Eq hz],rfl⟩))))))))))
    have hz:XP (a[k]'hlt) (b[k]'hlt2)=0:=by simpa using c3
    refine J.skip (blkQ.n (thenQ.n (Qg (Zq rfl (QW.add (.r rfl) .const (Yy (by omega))) (Zm rfl (Zn ?_))))))
    exact⟨k+1,⟨hlt,hlt2,by rw[hs,Nn hlt hlt2,hz,Ep]⟩,by omega,QQ (.cons rfl lr (.cons rfl lr (.cons rfl lr (.cons rfl lr (.cons rfl lr .nil))))) (Reown.refl _) (fun _ h=>by first|exact h|simp[h])⟩
  have hge:a.length≤k:=by simpa using c1
  refine J.exit (Qz (Qz (QY (thenQ.n (J.seq (Zs (Zm rfl (Zq rfl (Qh Ue (.r rfl) (Qp _)) (Zm rfl ?_)))))))))
  refine Zq rfl (Qh Ue (.r rfl) (Qp _)) (Zq rfl (QW.lss (.r rfl) (.r rfl)) (Zn ?_))
  refine J.cond (.r rfl) (fun c2=>?_) (fun c2=>?_)
  · skip
    have hx:a.length<b.length:=by simpa using c2
    exact Zs (Zq rfl (QW.assign .const) (Zn (J.ret (thenQ.r (Zr [] (RetEv.one rfl (REv.tmp rfl lr)) rfl ⟨by rw[hs,cmpK_lt hge (by omega)],rfl⟩)))))
  have hx:b.length≤a.length:=by simpa using c2
  exact Zk (Zs (Zq rfl (QW.assign .const) (Zn (J.ret (Zr [] (RetEv.one rfl (REv.tmp rfl lr)) rfl ⟨by rw[hs,cmpK_eq hge (by omega)],rfl⟩)))))
theorem DI{fr fr2 cl cl2:Bool}(a b:List V)(ha:a.length≤8796093022208)(hb:b.length≤8796093022208)(ih:∀x∈a,∀y∈b,Fn Tryz.prog 276 [.agg (x.cs fr),.agg (y.cs fr2)] (.c (.int .i64 (x.ord y)))):Fn Tryz.prog 298 [.sl fr cl eV (V.css fr a),.sl fr2 cl2 eV (V.css fr2 b),.c (.func (.func 276) #[] #[])] (.c (.int .i64 (Ww a b))):=by
  refine AC.of_J Tryz.func298 rfl Tryz.ntmps298 rfl fun w0 A0=>?_
  refine Zs (Zq rfl (QW.assign .const) (Zn (J.seq (Zs (Zm rfl (Zq rfl (Qh QU (.r rfl) wl) (Zq rfl (QW.move .const) (Zn (J.block ?_)))))))))
  refine Ua (ι:=Nat) [0,1,2,11,12] (fun k=>[(13,.c (.int .i64 (k:Int)))]) (fun _ oo=>oo) (fun k=>k≤a.length∧k≤b.length∧Ww a b=Ww (a.drop k) (b.drop k)) (fun k=>a.length-k) 0 (⟨Nat.zero_le _,Nat.zero_le _,rfl⟩) (QQ (.cons rfl lr (.cons rfl lr (.cons rfl lr (.cons rfl lr (.cons rfl lr (.cons rfl lr .nil)))))) (Reown.refl _) (fun _ h=>by first|exact h|simp[h])) ?_
  intro k ⟨hk,hk2,hs⟩
  refine J.conv (by(try simp only[nl,Qj,QA,QC,Qy,QZ,AV.cellsOf,Qc,Qd,Nat.reduceAdd]);rfl) ?_
  refine Zs (Zq rfl (QW.lss (.r rfl) (.r rfl)) (Zn (J.seq ?_)))
  refine J.cond (.r rfl) (fun c1=>?_) (fun c1=>?_)
  · skip
    have hlt:k<a.length:=by simpa using c1
    refine Zk (J.seq (J.block (Zs (Zm rfl (Zq rfl (Qi QU Ql rfl (.r rfl) (.r rfl) rfl (V.css_getE _ hlt)) (Zq rfl (Qm Ql (.r rfl) (QF vl rfl) vl) (JL.alloc Yd rfl rfl fun b8=>Za rfl (Qa 0 Ql (.r rfl) rfl (.r rfl) rfl vl rfl rfl ?_))))))))
    refine Zn (J.seq (Zs (Zm rfl (Zm rfl (Zq rfl (Qh QU (.r rfl) wl) (Zq rfl (QW.geq (.r rfl) (.r rfl)) (Zn ?_)))))))
    refine J.cond (.r rfl) (fun c2=>?_) (fun c2=>?_)
    · skip
      have hg2:b.length≤k:=by simpa using c2
      exact Zs (Zq rfl (QW.assign .const) (Zn (J.ret (thenQ.r (blkQ.r (thenQ.r (thenQ.r (blkQ.r (thenQ.r (Zr [.k] (RetEv.one rfl (REv.tmp rfl lr)) rfl ⟨by rw[hs,SB hlt hg2],rfl⟩))))))))))
    have hlt2:k<b.length:=by simpa using c2
    refine Zk (Zs (Zm rfl (Zm rfl (Zq rfl (Qi QU Ql rfl (.r rfl) (.r rfl) rfl (V.css_getE _ hlt2)) (Zq rfl (Qm Ql (.r rfl) (QF vl rfl) vl) (JL.alloc Yd rfl rfl fun b9=>Qa 0 Ql (.r rfl) rfl (.r rfl) rfl vl rfl rfl (Zn (Zs ?_))))))))
    refine Zm rfl (Zq rfl (Qe 1 Ql (.r rfl) rfl (Qo vl rfl) vl) (Zq rfl (Qe 0 Ql (.r rfl) rfl (Qo vl rfl) vl) (Zq rfl (QW.callV EM (.r rfl) (.cons (.r rfl) (.cons (.r rfl) .nil)) rfl (ih _ (List.getElem_mem hlt) _ (List.getElem_mem hlt2))) (Za rfl (Zn (Zs (Zm rfl (Zq rfl (QW.neq (.r rfl) .const) (Zn ?_)))))))))
    refine J.cond (.r rfl) (fun c3=>?_) (fun c3=>?_)
    · skip
      have hz:(a[k]'hlt).ord (b[k]'hlt2)≠0:=by simpa using c3
      exact Zs (Zm rfl (Za rfl (Zn (J.ret (blkQ.r (thenQ.r (thenQ.r (blkQ.r (thenQ.r (Zr [.k,.k] (RetEv.one rfl (REv.tmp rfl lr)) rfl ⟨by rw[hs,MY hlt hlt2,Eq hz],rfl⟩))))))))))
    have hz:(a[k]'hlt).ord (b[k]'hlt2)=0:=by simpa using c3
    refine J.skip (blkQ.n (thenQ.n (Qg (Zq rfl (QW.add (.r rfl) .const (Yy (by omega))) (Zm rfl (Zn ?_))))))
    exact⟨k+1,⟨hlt,hlt2,by rw[hs,MY hlt hlt2,hz,Ep]⟩,by omega,QQ (.cons rfl lr (.cons rfl lr (.cons rfl lr (.cons rfl lr (.cons rfl lr (.cons rfl lr .nil)))))) (Q3 2 _ rfl) (fun _ h=>by first|exact h|simp[h])⟩
  have hge:a.length≤k:=by simpa using c1
  refine J.exit (Qz (Qz (QY (thenQ.n (J.seq (Zs (Zm rfl (Zq rfl (Qh QU (.r rfl) wl) (Zm rfl ?_)))))))))
  refine Zq rfl (Qh QU (.r rfl) wl) (Zq rfl (QW.lss (.r rfl) (.r rfl)) (Zn ?_))
  refine J.cond (.r rfl) (fun c2=>?_) (fun c2=>?_)
  · skip
    have hx:a.length<b.length:=by simpa using c2
    exact Zs (Zq rfl (QW.assign .const) (Zn (J.ret (thenQ.r (Zr [] (RetEv.one rfl (REv.tmp rfl lr)) rfl ⟨by rw[hs,SA hge (by omega)],rfl⟩)))))
  have hx:b.length≤a.length:=by simpa using c2
  exact Zk (Zs (Zq rfl (QW.assign .const) (Zn (J.ret (Zr [] (RetEv.one rfl (REv.tmp rfl lr)) rfl ⟨by rw[hs,SC hge (by omega)],rfl⟩)))))

end
section
/- Walks: the order of values. -/
set_option maxRecDepth 10000
set_option maxHeartbeats 4000000
theorem F0:∀(n:Nat) {v u:V} {ys zs:List AV} {fr fr2:Bool},Vc fr v ys→Vc fr2 u zs→v.wf→u.wf→v.sz≤n→
    Fn Tryz.prog 276 [.agg ys,.agg zs] (.c (.int .i64 (v.ord u))):=by
  intro n
  induction n with
  |zero=>intro v u ys zs fr fr2 hv hu hw hw2 h;exact absurd h (by have:=V.sz_pos v;omega)
  |succ n ih=>
    intro v u ys zs fr fr2 hv hu hw hw2 hn
    obtain⟨k,b,t,ks,is⟩:=v
    obtain⟨k',b',t',ks',is'⟩:=u
    subst hv hu
    obtain⟨-,hb,-,hk16,hi80,-,hwi⟩:=hw.inv
    obtain⟨-,hb2,-,hk16',hi80',-,hwi'⟩:=hw2.inv
    have h1:is.length≤8796093022208:=by unfold Qr at hi80;omega
    have h2:is'.length≤8796093022208:=by unfold Qr at hi80';omega
    have h3:ks.length≤8796093022208:=by unfold Qr at hk16;omega
    have h4:ks'.length≤8796093022208:=by unfold Qr at hk16';omega
    refine AC.of_J Tryz.func276 rfl Tryz.ntmps276 rfl fun w0 A0=>?_
    refine Zs (Qs (.r rfl) rfl fun b2=>Qs (.r rfl) rfl fun b3=>Zq rfl (QW.assign .const) (Zn (J.seq (Zs (Zd UZ rfl (Zl 1 UA rfl (Zd UZ rfl ?_)))))))
    refine Zl 0 UA rfl (Zq rfl (QW.call S2 (.cons (.r rfl) (.cons (.r rfl) .nil)) (cmpI_ok _ _)) (Za rfl (Zn (Zs (Zm rfl (Zq rfl (QW.neq (.r rfl) .const) (Zn ?_)))))))
    refine J.cond (.r rfl) (fun c1=>?_) (fun c1=>?_)
    · skip
      have hz:HE k k'≠0:=by simpa using c1
      exact Zs (Zm rfl (Za rfl (Zn (J.ret (thenQ.r (Zr [.k,.k] (RetEv.one rfl (REv.tmp rfl lr)) rfl ⟨by simp only[V.ord];rw[Eq hz],rfl⟩))))))
    have hz:HE k k'=0:=by simpa using c1
    refine Zk (J.seq (QV mixed (Zf 0 [] rfl (fun _=>Qf UE (.r rfl) rfl) (Zo 1 1 [16] rfl (fun _ ho_=>Qb 1 WQ (.r rfl) ho_ rfl) (Zf 2 [] rfl (fun _=>Qf UE (.r rfl) rfl) (Zo 3 0 [18] rfl (fun _ ho_=>Qb 0 WQ (.r rfl) ho_ rfl) (Zf 4 [17] rfl (fun _=>QW.assign (.r rfl)) (Zf 5 [19] rfl (fun _=>QW.assign (.r rfl)) (JX.fin (by kernel_rfl) (by kernel_rfl) fun bs_=>?_)))))))))
    refine QX.conv (by(try simp only[Ug,Uo,Q8,Q0,Flt.val,Flt.bx,nx,nl,Qj,QA,QC,Qy,QZ,AV.cellsOf,Qc,Qd,Nat.reduceAdd]);rfl) ?_
    refine thenQ.n (Ru (ι:=Nat×Nat) [2,3,4] (fun⟨n1,n2⟩=>[(6,.c (.int .u64 (n1:Int))),(7,.c (.int .u64 (n2:Int)))]) (fun⟨n1,n2⟩ oo=>oo) (fun⟨n1,n2⟩=>n1=Rk k b∧n2=Rk k b') ?_ ?_)
    · skip
      refine Zs (Zd UZ rfl (Zl 1 UA rfl (Zq rfl (QW.eql (.r rfl) .const) (Zn ?_))))
      refine J.cond (.r rfl) (fun c2=>?_) (fun c2=>?_)
      · skip
        have hk2:k=2:=by simpa using c2
        refine Qg (Zm rfl (Zq rfl (QW.call EK (.cons (.r rfl) .nil) (RU _ (by assumption))) ?_))
        refine Zm rfl (Zq rfl (QW.call EK (.cons (.r rfl) .nil) (RU _ (by assumption))) ?_)
        refine Za rfl (Za rfl (Zn ?_))
        exact⟨⟨Gk b,Gk b'⟩,⟨(if_pos hk2).symm,(if_pos hk2).symm⟩,QQ (.cons rfl lr (.cons rfl lr (.cons rfl lr (.cons rfl lr (.cons rfl lr .nil))))) (Reown.refl _) (fun _ h=>by first|exact h|simp[h])⟩
      have hk2:k≠2:=by simpa using c2
      refine Zk ?_
      exact⟨⟨b,b'⟩,⟨(if_neg hk2).symm,(if_neg hk2).symm⟩,QQ (.cons rfl lr (.cons rfl lr (.cons rfl lr (.cons rfl lr (.cons rfl lr .nil))))) (Reown.refl _) (fun _ h=>by first|exact h|simp[h])⟩
    · intro⟨n1,n2⟩ ⟨hn1,hn2⟩
      refine J.conv (by(try simp only[nl,Qj,QA,QC,Qy,QZ,AV.cellsOf,Qc,Qd,Nat.reduceAdd]);rfl) ?_
      refine J.seq (QV mixed (Zf 0 [] rfl (fun _=>QW.move (.r rfl)) (Zf 1 [] rfl (fun _=>QW.move (.r rfl)) (Zf 2 [27,28] rfl (fun _=>QW.call S0 (.cons (.r rfl) (.cons (.r rfl) .nil)) (cmpU_ok _ _)) (Zf 3 [] rfl (fun _=>Qf Xf (.r rfl) rfl) (Zo 4 1 [30] rfl (fun _ ho_=>Qb 1 UO (.r rfl) ho_ rfl) (Zf 5 [] rfl (fun _=>Qf Xf (.r rfl) rfl) (Zo 6 0 [32] rfl (fun _ ho_=>Qb 0 UO (.r rfl) ho_ rfl) (Zf 7 [31,33] rfl (fun _=>QW.call B7 (.cons (.r rfl) (.cons (.r rfl) .nil)) (Nm _ _)) ?_)))))))))
      refine Zf 8 [] rfl (fun _=>Qf YQ (.r rfl) rfl) (Zo 9 1 [35] rfl (fun _ ho_=>Qb 1 Ge (.r rfl) ho_ rfl) (Zf 10 [] rfl (fun _=>Qf YQ (.r rfl) rfl) (Zo 11 0 [37] rfl (fun _ ho_=>Qb 0 Ge (.r rfl) ho_ rfl) (Zf 12 [36,38] rfl (fun _=>QW.call SZ (.cons (.r rfl) (.cons (.r rfl) .nil)) (DK ks ks' h3 h4)) (Zf 13 [] rfl (fun _=>Qf Uv (.r rfl) rfl) (Zo 14 1 [40] rfl (fun _ ho_=>Qb 1 WP (.r rfl) ho_ rfl) (Zf 15 [] rfl (fun _=>Qf Uv (.r rfl) rfl) (Zo 16 0 [42] rfl (fun _ ho_=>Qb 0 WP (.r rfl) ho_ rfl) (Zf 17 [41,43] rfl (fun _=>QW.call SY (.cons (.r rfl) (.cons (.r rfl) (.cons .func .nil))) (DI is is' h1 h2 (fun x hx y hy=>(by obtain⟨i,hi,rfl⟩:=List.getElem_of_mem hx;exact ih Vc.self Vc.self (hwi _ hx) (hwi' _ hy) (V.sz_get hn hi))))) ?_)))))))))
      refine Zf 18 [29,34,39,44] rfl (fun _=>QW.buildSlice (idx:=[0,1,2,3]) (xs:=[[.c (.int .i64 (HE (n1:Int) (n2:Int)))],[.c (.int .i64 (XP t t'))],[.c (.int .i64 (K0 ks ks'))],[.c (.int .i64 (Ww is is'))]]) Ks Fs z3 rfl (.cons (.r rfl) (.cons (.r rfl) (.cons (.r rfl) (.cons (.r rfl) .nil)))) rfl rfl rfl rfl rfl rfl rfl rfl rfl) (Zf 19 [45] rfl (fun _=>QW.call S1 (.cons (.r rfl) .nil) (or_ok [(HE (n1:Int) (n2:Int)),(XP t t'),(K0 ks ks'),(Ww is is')] (by simp))) ?_)
      refine Zf 20 [46] rfl (fun _=>QW.assign (.r rfl)) (JX.fin (by kernel_rfl) (by kernel_rfl) fun bs_=>?_)
      refine QX.conv (by(try simp only[Ug,Uo,Q8,Q0,Flt.val,Flt.bx,nx,nl,Qj,QA,QC,Qy,QZ,AV.cellsOf,Qc,Qd,Nat.reduceAdd]);rfl) ?_
      exact thenQ.n (J.ret (Zr [.k,.k] (RetEv.one rfl (REv.tmp rfl lr)) rfl ⟨by simp only[V.ord];rw[hz,Ep,← hn1,← hn2];simp only[FQ];rw[show Er (Ww is is') 0=Ww is is' from SD _],rfl⟩))
theorem Cx{v u:V}{ys zs:List AV}{fr fr2:Bool}(hv:Vc fr v ys)(hu:Vc fr2 u zs)(hw:v.wf)(hw2:u.wf):Fn Tryz.prog 276 [.agg ys,.agg zs] (.c (.int .i64 (v.ord u))):=F0 _ hv hu hw hw2 (Nat.le_refl _)

end
section
/- Walks: values compared; ValueOrders, ValueOrder. -/
set_option maxRecDepth 10000
set_option maxHeartbeats 4000000
def PC(v u:V):AV:=.tup [.c (.int .i64 (v.cmp u).1),.c (.int .i64 (v.cmp u).2)]
theorem L7{v u:V}{c e:Int}(h:v.cmp u=(c,e)):PC v u=.tup [.c (.int .i64 c),.c (.int .i64 e)]:=by rw[PC,h]
theorem Ed{fr fr2:Bool}{v u:V}{ys zs:List AV}(hv:Vc fr v ys)(hu:Vc fr2 u zs)(hw:v.wf)(hw2:u.wf):Fn Tryz.prog 262 [.agg ys,.agg zs] (PC v u):=by
  subst hv hu
  refine AC.of_J Tryz.func262 rfl Tryz.ntmps262 rfl fun w0 A0=>?_
  refine Zs (Qs (.r rfl) rfl fun b2=>Qs (.r rfl) rfl fun b3=>Zq rfl (QW.assign .const) (Zq rfl (QW.assign .const) (Zn (J.seq (Zs (Zq rfl (Qe 1 Ql (.r rfl) rfl (Qo vl rfl) vl) (Zq rfl (QW.call X5 (.cons (.r rfl) .nil) (Yl Vc.self hw)) ?_)))))))
  refine Za rfl (Zn (Zs (Zm rfl (Zq rfl (QW.neq (.r rfl) .const) (Zn ?_)))))
  refine J.cond (.r rfl) (fun c1=>?_) (fun c1=>?_)
  · skip
    simp at c1
    exact Zs (Zm rfl (Zq rfl (QW.assign .const) (Za rfl (Zn (J.ret (thenQ.r (Zr [.k,.k] (Qt rfl (REv.tmp rfl lr) (REv.tmp rfl lr)) rfl ⟨congrArg Wl.ret (L7 (c:=0) (e:=v.err) (by rw[V.cmp,if_pos c1])).symm,rfl⟩)))))))
  simp at c1
  have hf:=V.fine_of c1
  refine Zk (J.seq (Zs (Zq rfl (Qe 0 Ql (.r rfl) rfl (Qo vl rfl) vl) (Zq rfl (QW.call X5 (.cons (.r rfl) .nil) (Yl Vc.self hw2)) (Za rfl (Zn (Zs (Zm rfl (Zq rfl (QW.neq (.r rfl) .const) ?_)))))))))
  refine Zn ?_
  refine J.cond (.r rfl) (fun c2=>?_) (fun c2=>?_)
  · skip
    simp at c2
    exact Zs (Zm rfl (Zq rfl (QW.assign .const) (Za rfl (Zn (J.ret (thenQ.r (Zr [.k,.k] (Qt rfl (REv.tmp rfl lr) (REv.tmp rfl lr)) rfl ⟨congrArg Wl.ret (L7 (c:=0) (e:=u.err) (by rw[V.cmp,if_neg (by simp[c1]),if_pos c2])).symm,rfl⟩)))))))
  simp at c2
  have hg:=V.fine_of c2
  exact Zk (Zs (Zq rfl (Qe 1 Ql (.r rfl) rfl (Qo vl rfl) vl) (Zq rfl (Qe 0 Ql (.r rfl) rfl (Qo vl rfl) vl) (Zq rfl (QW.call EM (.cons (.r rfl) (.cons (.r rfl) .nil)) (Cx Vc.self Vc.self hw hw2)) (Za rfl (Zq rfl (QW.assign .const) (Zn (J.ret (Zr [.k,.k] (Qt rfl (REv.tmp rfl lr) (REv.tmp rfl lr)) rfl ⟨congrArg Wl.ret (L7 (c:=v.ord u) (e:=0) (by rw[V.cmp,if_neg (by simp[c1]),if_neg (by simp[c2])])).symm,rfl⟩)))))))))
theorem P8{fr fr2:Bool}{v u:V}{ys zs:List AV}(hv:Vc fr v ys)(hu:Vc fr2 u zs)(hw:v.wf)(hw2:u.wf):Fn Tryz.prog 261 [.agg ys,.agg zs] (.c (.bool (v.one u))):=by
  subst hv hu
  refine AC.of_J Tryz.func261 rfl Tryz.ntmps261 rfl fun w0 A0=>?_
  refine Zs (Qs (.r rfl) rfl fun b2=>Qs (.r rfl) rfl fun b3=>Zq rfl (QW.assign .const) (Zn (Zs (Zq rfl (Qe 1 Ql (.r rfl) rfl (Qo vl rfl) vl) (Zq rfl (Qe 0 Ql (.r rfl) rfl (Qo vl rfl) vl) (Zq rfl (QW.call EO (.cons (.r rfl) (.cons (.r rfl) .nil)) (Ed Vc.self Vc.self hw hw2)) (Zm rfl ?_)))))))
  refine Zx rfl (Zx rfl (Za rfl (Za rfl (Zn (Zs (Zm rfl (Zq rfl (QW.eql (.r rfl) .const) (Zm rfl (Zg rfl (fun hg=>(QW.move (.r rfl))) ?_)))))))))
  exact Zg rfl (fun hg=>(QW.eql (.when rfl hg) .const)) (Zq rfl (QW.pick_and (.r rfl) (.r rfl)) (Za rfl (Zn (J.ret (Zr [.k,.k] (RetEv.one rfl (REv.tmp rfl lr)) rfl ⟨by unfold V.one;rfl,rfl⟩)))))

end
section
/- Walks: operations whose parts are all reckoned. -/
set_option maxRecDepth 10000
set_option maxHeartbeats 4000000
theorem RS{o:Int}(ho:o=11∨o=12∨o=13∨o=14)(t:QN)(a b:V):UI o t [a,b]=if a.kind≠2∨b.kind≠2 then .error 81 else .ok (.nu (DO o a.bits b.bits)):=by
  rcases ho with rfl|rfl|rfl|rfl<;>rfl
theorem pe15(t:QN)(a:V):UI 15 t [a]=if a.kind=2 then .ok (.nu (Ka a.bits))else .error 81:=rfl
theorem pe16(t:QN)(a b:V):UI 16 t [a,b]=.ok (.tr (a.ord b==0)):=rfl
theorem pe17(t:QN)(a b:V):UI 17 t [a,b]=if b.kind=a.kind then .ok (.tr (decide (a.ord b<0)))else .error 81:=rfl
theorem pe20(t:QN)(a:V):UI 20 t [a]=if a.kind=1 then .ok (.tr (a.bits==0))else .error 81:=rfl
theorem pe22(t:QN)(a b:V):UI 22 t [a,b]=if a.kind≠3∨b.kind≠3 then .error 81 else if 128<a.text.length+b.text.length then .error 84 else .ok (.tx (a.text++b.text)):=rfl
theorem pe26(t:QN)(a:V):UI 26 t [a]=if a.kind≠2 then .error 81 else if YG a.bits≠0 then .error 7 else .ok (.tx (Ht (YP a.bits))):=rfl
theorem Bt{fr:Bool}{o:Int}{bb:Nat}{t:QN}{args:List EX}{l:List V}{ys:List AV}(he:Xc fr (.mk o bb t args) ys)(ht:t.length≤Qr)(hl:∀x∈l,x.good)(hn:l.length≤8∧(o=23∨((o=8∨o=10∨o=15∨o=20∨o=26)∧l.length=1)∨((o=9∨o=11∨o=12∨o=13∨o=14∨o=16∨o=17∨o=22∨o=24∨o=25)∧l.length=2))):
    AC Tryz.prog 236 [] [.agg ys,.sl false false eV (V.css false l)] (PlR (UI o t l)):=by
  subst he
  obtain⟨hn8,hn⟩:=hn
  refine AC.of_J Tryz.func236 rfl Tryz.ntmps236 rfl fun w0 A0=>?_
  refine Zs (Qs (.r rfl) rfl fun b2=>JL.alloc Yd rfl rfl fun b4=>Zn (J.seq (Zs (Zd Yk rfl (Zl 1 UA rfl (Zn (J.block ?_)))))))
  refine J.seq (Zs (Zq rfl (QW.eql (.r rfl) .const) (Za rfl (Zn ?_))))
  refine J.cond (.r rfl) (fun c1=>?_) (fun c1=>?_)
  · skip
    have ho:o=11∨o=12∨o=13∨o=14:=by(simp at c1;omega)
    obtain⟨a,b,rfl⟩:=XB (l:=l) (by omega)
    have ha:=hl a (by simp)
    have hb:=hl b (by simp)
    refine Zk ?_
    refine J.cond (.r rfl) (fun c2=>?_) (fun c2=>absurd c2 (by rw[c1];decide))
    refine Zs (Zm rfl (Zq rfl (QW.buildSlice (idx:=[0,1]) (xs:=Wt [2,2]) Ks Fs z3 rfl (.cons .const (.cons .const .nil)) rfl rfl rfl rfl rfl rfl rfl rfl rfl) ?_))
    refine Qn [] WZ rfl Lent.nil (fun _=>(.cons (.r rfl) (.cons (.r rfl) .nil))) (Wo _ [2,2] (by simp) (by simp)) (.inl rfl) (fun k18 x18 o18 h18=>?_) (fun k18=>?_)
    rotate_left
    · skip
      refine thenQ.p (blkQ.p (thenQ.p ?_))
      exact⟨_,QI [.k,.k] _,_,rfl,rfl,Qk [.k,.k] _,PlR.er (c:=81) ((RS ho t a b).trans (if_pos (by simp[Uj]at k18;omega))) (by decide)⟩
    obtain⟨rfl,rfl⟩:=h18
    refine Zn (J.seq (QV mixed (Zf 0 [] rfl (fun _=>Qf Yk (.r rfl) rfl) (Zo 1 1 [19] rfl (fun _ ho_=>Qb 1 UA (.r rfl) ho_ rfl) (Zf 2 [] rfl (fun _=>QW.move (.r rfl)) (Zf 3 [21] rfl (fun _=>Qi QU Ql rfl (.r rfl) .const rfl rfl) (Zf 4 [22] rfl (fun _=>QL UE (.r rfl) rfl) (Zf 5 [23] rfl (fun _=>Qv WQ (.r rfl) (YT _ _)) (Zf 6 [] rfl (fun _=>QW.move (.r rfl)) ?_)))))))))
    refine Zf 7 [25] rfl (fun _=>Qi QU Ql rfl (.r rfl) .const rfl rfl) (Zf 8 [26] rfl (fun _=>QL UE (.r rfl) rfl) (Zf 9 [27] rfl (fun _=>Qv WQ (.r rfl) (YT _ _)) (Zf 10 [20,24,28] rfl (fun _=>QW.call Lh (.cons (.r rfl) (.cons (.r rfl) (.cons (.r rfl) .nil))) (G3 _ _ _)) (JX.one 11 [true,true,true,true,true,true,true,true,true,true,true] rfl (by kernel_rfl) (by kernel_rfl) rfl rfl (by kernel_rfl) rfl fun bs11_ pe_ ex_=>?_))))
    refine JL.conv (by(try simp only[Ug,Uo,Q8,Q0,Flt.val,Flt.bx,nx,nl,Qj,QA,QC,Qy,QZ,AV.cellsOf,Qc,Qd,Nat.reduceAdd]);rfl) ?_
    refine Qa 0 Ql (.r rfl) rfl (.r rfl) rfl rfl rfl rfl (JL.nil ?_)
    refine thenQ.n ⟨[],_,rfl,rfl,rfl,rfl,rfl,QM 2 rfl,trivial,trivial,?_⟩
    refine JX.conv (S':=[11,10,9,8,7,6,5,4,3,2,1,0]) rfl (by(try simp only[Q0]);rfl) (by(try simp only[Ug,Uo,Q8,Q0,Flt.val,Flt.bx,nx,nl,Qj,QA,QC,Qy,QZ,AV.cellsOf,Qc,Qd,Nat.reduceAdd]);rfl) ?_
    refine JX.fin (by kernel_rfl) (by kernel_rfl) fun bs_=>?_
    refine QX.conv (by(try simp only[Ug,Uo,Q8,Q0,Flt.val,Flt.bx,nx,nl,Qj,QA,QC,Qy,QZ,AV.cellsOf,Qc,Qd,Nat.reduceAdd]);rfl) ?_
    exact thenQ.n (J.ret (blkQ.r (thenQ.r (Zr [.k,.k] (RetEv.one rfl (REv.cell 0 Ql rfl rfl rfl rfl lr)) rfl (PlR.ok ((RS ho t a b).trans (if_neg (by simp[Uj]at k18;omega))))))))
  have n11:¬o=11:=by simpa using c1
  refine Zs (Zq rfl (QW.eql (.r rfl) .const) (Za rfl (Zn ?_)))
  refine J.cond (.r rfl) (fun c2=>?_) (fun c2=>?_)
  · skip
    have ho:o=11∨o=12∨o=13∨o=14:=by(simp at c2;omega)
    obtain⟨a,b,rfl⟩:=XB (l:=l) (by omega)
    have ha:=hl a (by simp)
    have hb:=hl b (by simp)
    refine Zk ?_
    refine J.cond (.r rfl) (fun c3=>?_) (fun c3=>absurd c3 (by rw[c2];decide))
    refine Zs (Zm rfl (Zq rfl (QW.buildSlice (idx:=[0,1]) (xs:=Wt [2,2]) Ks Fs z3 rfl (.cons .const (.cons .const .nil)) rfl rfl rfl rfl rfl rfl rfl rfl rfl) ?_))
    refine Qn [] WZ rfl Lent.nil (fun _=>(.cons (.r rfl) (.cons (.r rfl) .nil))) (Wo _ [2,2] (by simp) (by simp)) (.inl rfl) (fun k18 x18 o18 h18=>?_) (fun k18=>?_)
    rotate_left
    · skip
      refine thenQ.p (blkQ.p (thenQ.p ?_))
      exact⟨_,QI [.k,.k] _,_,rfl,rfl,Qk [.k,.k] _,PlR.er (c:=81) ((RS ho t a b).trans (if_pos (by simp[Uj]at k18;omega))) (by decide)⟩
    obtain⟨rfl,rfl⟩:=h18
    refine Zn (J.seq (QV mixed (Zf 0 [] rfl (fun _=>Qf Yk (.r rfl) rfl) (Zo 1 1 [19] rfl (fun _ ho_=>Qb 1 UA (.r rfl) ho_ rfl) (Zf 2 [] rfl (fun _=>QW.move (.r rfl)) (Zf 3 [21] rfl (fun _=>Qi QU Ql rfl (.r rfl) .const rfl rfl) (Zf 4 [22] rfl (fun _=>QL UE (.r rfl) rfl) (Zf 5 [23] rfl (fun _=>Qv WQ (.r rfl) (YT _ _)) (Zf 6 [] rfl (fun _=>QW.move (.r rfl)) ?_)))))))))
    refine Zf 7 [25] rfl (fun _=>Qi QU Ql rfl (.r rfl) .const rfl rfl) (Zf 8 [26] rfl (fun _=>QL UE (.r rfl) rfl) (Zf 9 [27] rfl (fun _=>Qv WQ (.r rfl) (YT _ _)) (Zf 10 [20,24,28] rfl (fun _=>QW.call Lh (.cons (.r rfl) (.cons (.r rfl) (.cons (.r rfl) .nil))) (G3 _ _ _)) (JX.one 11 [true,true,true,true,true,true,true,true,true,true,true] rfl (by kernel_rfl) (by kernel_rfl) rfl rfl (by kernel_rfl) rfl fun bs11_ pe_ ex_=>?_))))
    refine JL.conv (by(try simp only[Ug,Uo,Q8,Q0,Flt.val,Flt.bx,nx,nl,Qj,QA,QC,Qy,QZ,AV.cellsOf,Qc,Qd,Nat.reduceAdd]);rfl) ?_
    refine Qa 0 Ql (.r rfl) rfl (.r rfl) rfl rfl rfl rfl (JL.nil ?_)
    refine thenQ.n ⟨[],_,rfl,rfl,rfl,rfl,rfl,QM 2 rfl,trivial,trivial,?_⟩
    refine JX.conv (S':=[11,10,9,8,7,6,5,4,3,2,1,0]) rfl (by(try simp only[Q0]);rfl) (by(try simp only[Ug,Uo,Q8,Q0,Flt.val,Flt.bx,nx,nl,Qj,QA,QC,Qy,QZ,AV.cellsOf,Qc,Qd,Nat.reduceAdd]);rfl) ?_
    refine JX.fin (by kernel_rfl) (by kernel_rfl) fun bs_=>?_
    refine QX.conv (by(try simp only[Ug,Uo,Q8,Q0,Flt.val,Flt.bx,nx,nl,Qj,QA,QC,Qy,QZ,AV.cellsOf,Qc,Qd,Nat.reduceAdd]);rfl) ?_
    exact thenQ.n (J.ret (blkQ.r (thenQ.r (Zr [.k,.k] (RetEv.one rfl (REv.cell 0 Ql rfl rfl rfl rfl lr)) rfl (PlR.ok ((RS ho t a b).trans (if_neg (by simp[Uj]at k18;omega))))))))
  have n12:¬o=12:=by simpa using c2
  refine Zs (Zq rfl (QW.eql (.r rfl) .const) (Za rfl (Zn ?_)))
  refine J.cond (.r rfl) (fun c3=>?_) (fun c3=>?_)
  · skip
    have ho:o=11∨o=12∨o=13∨o=14:=by(simp at c3;omega)
    obtain⟨a,b,rfl⟩:=XB (l:=l) (by omega)
    have ha:=hl a (by simp)
    have hb:=hl b (by simp)
    refine Zk ?_
    refine J.cond (.r rfl) (fun c4=>?_) (fun c4=>absurd c4 (by rw[c3];decide))
    refine Zs (Zm rfl (Zq rfl (QW.buildSlice (idx:=[0,1]) (xs:=Wt [2,2]) Ks Fs z3 rfl (.cons .const (.cons .const .nil)) rfl rfl rfl rfl rfl rfl rfl rfl rfl) ?_))
    refine Qn [] WZ rfl Lent.nil (fun _=>(.cons (.r rfl) (.cons (.r rfl) .nil))) (Wo _ [2,2] (by simp) (by simp)) (.inl rfl) (fun k18 x18 o18 h18=>?_) (fun k18=>?_)
    rotate_left
    · skip
      refine thenQ.p (blkQ.p (thenQ.p ?_))
      exact⟨_,QI [.k,.k] _,_,rfl,rfl,Qk [.k,.k] _,PlR.er (c:=81) ((RS ho t a b).trans (if_pos (by simp[Uj]at k18;omega))) (by decide)⟩
    obtain⟨rfl,rfl⟩:=h18
    refine Zn (J.seq (QV mixed (Zf 0 [] rfl (fun _=>Qf Yk (.r rfl) rfl) (Zo 1 1 [19] rfl (fun _ ho_=>Qb 1 UA (.r rfl) ho_ rfl) (Zf 2 [] rfl (fun _=>QW.move (.r rfl)) (Zf 3 [21] rfl (fun _=>Qi QU Ql rfl (.r rfl) .const rfl rfl) (Zf 4 [22] rfl (fun _=>QL UE (.r rfl) rfl) (Zf 5 [23] rfl (fun _=>Qv WQ (.r rfl) (YT _ _)) (Zf 6 [] rfl (fun _=>QW.move (.r rfl)) ?_)))))))))
    refine Zf 7 [25] rfl (fun _=>Qi QU Ql rfl (.r rfl) .const rfl rfl) (Zf 8 [26] rfl (fun _=>QL UE (.r rfl) rfl) (Zf 9 [27] rfl (fun _=>Qv WQ (.r rfl) (YT _ _)) (Zf 10 [20,24,28] rfl (fun _=>QW.call Lh (.cons (.r rfl) (.cons (.r rfl) (.cons (.r rfl) .nil))) (G3 _ _ _)) (JX.one 11 [true,true,true,true,true,true,true,true,true,true,true] rfl (by kernel_rfl) (by kernel_rfl) rfl rfl (by kernel_rfl) rfl fun bs11_ pe_ ex_=>?_))))
    refine JL.conv (by(try simp only[Ug,Uo,Q8,Q0,Flt.val,Flt.bx,nx,nl,Qj,QA,QC,Qy,QZ,AV.cellsOf,Qc,Qd,Nat.reduceAdd]);rfl) ?_
    refine Qa 0 Ql (.r rfl) rfl (.r rfl) rfl rfl rfl rfl (JL.nil ?_)
    refine thenQ.n ⟨[],_,rfl,rfl,rfl,rfl,rfl,QM 2 rfl,trivial,trivial,?_⟩
    refine JX.conv (S':=[11,10,9,8,7,6,5,4,3,2,1,0]) rfl (by(try simp only[Q0]);rfl) (by(try simp only[Ug,Uo,Q8,Q0,Flt.val,Flt.bx,nx,nl,Qj,QA,QC,Qy,QZ,AV.cellsOf,Qc,Qd,Nat.reduceAdd]);rfl) ?_
    refine JX.fin (by kernel_rfl) (by kernel_rfl) fun bs_=>?_
    refine QX.conv (by(try simp only[Ug,Uo,Q8,Q0,Flt.val,Flt.bx,nx,nl,Qj,QA,QC,Qy,QZ,AV.cellsOf,Qc,Qd,Nat.reduceAdd]);rfl) ?_
    exact thenQ.n (J.ret (blkQ.r (thenQ.r (Zr [.k,.k] (RetEv.one rfl (REv.cell 0 Ql rfl rfl rfl rfl lr)) rfl (PlR.ok ((RS ho t a b).trans (if_neg (by simp[Uj]at k18;omega))))))))
  have n13:¬o=13:=by simpa using c3
  refine Qg (Zq rfl (QW.eql (.r rfl) .const) (Za rfl (Zn ?_)))
  refine J.cond (.r rfl) (fun c4=>?_) (fun c4=>?_)
  · skip
    have ho:o=11∨o=12∨o=13∨o=14:=by(simp at c4;omega)
    obtain⟨a,b,rfl⟩:=XB (l:=l) (by omega)
    have ha:=hl a (by simp)
    have hb:=hl b (by simp)
    refine Zs (Zm rfl (Zq rfl (QW.buildSlice (idx:=[0,1]) (xs:=Wt [2,2]) Ks Fs z3 rfl (.cons .const (.cons .const .nil)) rfl rfl rfl rfl rfl rfl rfl rfl rfl) ?_))
    refine Qn [] WZ rfl Lent.nil (fun _=>(.cons (.r rfl) (.cons (.r rfl) .nil))) (Wo _ [2,2] (by simp) (by simp)) (.inl rfl) (fun k18 x18 o18 h18=>?_) (fun k18=>?_)
    rotate_left
    · skip
      refine thenQ.p (blkQ.p (thenQ.p ?_))
      exact⟨_,QI [.k,.k] _,_,rfl,rfl,Qk [.k,.k] _,PlR.er (c:=81) ((RS ho t a b).trans (if_pos (by simp[Uj]at k18;omega))) (by decide)⟩
    obtain⟨rfl,rfl⟩:=h18
    refine Zn (J.seq (QV mixed (Zf 0 [] rfl (fun _=>Qf Yk (.r rfl) rfl) (Zo 1 1 [19] rfl (fun _ ho_=>Qb 1 UA (.r rfl) ho_ rfl) (Zf 2 [] rfl (fun _=>QW.move (.r rfl)) (Zf 3 [21] rfl (fun _=>Qi QU Ql rfl (.r rfl) .const rfl rfl) (Zf 4 [22] rfl (fun _=>QL UE (.r rfl) rfl) (Zf 5 [23] rfl (fun _=>Qv WQ (.r rfl) (YT _ _)) (Zf 6 [] rfl (fun _=>QW.move (.r rfl)) ?_)))))))))
    refine Zf 7 [25] rfl (fun _=>Qi QU Ql rfl (.r rfl) .const rfl rfl) (Zf 8 [26] rfl (fun _=>QL UE (.r rfl) rfl) (Zf 9 [27] rfl (fun _=>Qv WQ (.r rfl) (YT _ _)) (Zf 10 [20,24,28] rfl (fun _=>QW.call Lh (.cons (.r rfl) (.cons (.r rfl) (.cons (.r rfl) .nil))) (G3 _ _ _)) (JX.one 11 [true,true,true,true,true,true,true,true,true,true,true] rfl (by kernel_rfl) (by kernel_rfl) rfl rfl (by kernel_rfl) rfl fun bs11_ pe_ ex_=>?_))))
    refine JL.conv (by(try simp only[Ug,Uo,Q8,Q0,Flt.val,Flt.bx,nx,nl,Qj,QA,QC,Qy,QZ,AV.cellsOf,Qc,Qd,Nat.reduceAdd]);rfl) ?_
    refine Qa 0 Ql (.r rfl) rfl (.r rfl) rfl rfl rfl rfl (JL.nil ?_)
    refine thenQ.n ⟨[],_,rfl,rfl,rfl,rfl,rfl,QM 2 rfl,trivial,trivial,?_⟩
    refine JX.conv (S':=[11,10,9,8,7,6,5,4,3,2,1,0]) rfl (by(try simp only[Q0]);rfl) (by(try simp only[Ug,Uo,Q8,Q0,Flt.val,Flt.bx,nx,nl,Qj,QA,QC,Qy,QZ,AV.cellsOf,Qc,Qd,Nat.reduceAdd]);rfl) ?_
    refine JX.fin (by kernel_rfl) (by kernel_rfl) fun bs_=>?_
    refine QX.conv (by(try simp only[Ug,Uo,Q8,Q0,Flt.val,Flt.bx,nx,nl,Qj,QA,QC,Qy,QZ,AV.cellsOf,Qc,Qd,Nat.reduceAdd]);rfl) ?_
    exact thenQ.n (J.ret (blkQ.r (thenQ.r (Zr [.k,.k] (RetEv.one rfl (REv.cell 0 Ql rfl rfl rfl rfl lr)) rfl (PlR.ok ((RS ho t a b).trans (if_neg (by simp[Uj]at k18;omega))))))))
  have n14:¬o=14:=by simpa using c4
  refine Zs (Zq rfl (QW.eql (.r rfl) .const) (Za rfl (Zn ?_)))
  refine J.cond (.r rfl) (fun c5=>?_) (fun c5=>?_)
  · skip
    obtain rfl:o=15:=by simpa using c5
    obtain⟨a,rfl⟩:=LO (l:=l) (by omega)
    have ha:=hl a (by simp)
    refine Zs (Zm rfl (Zq rfl (QW.buildSlice (idx:=[0]) (xs:=Wt [2]) Ks Fs z3 rfl (.cons .const .nil) rfl rfl rfl rfl rfl rfl rfl rfl rfl) ?_))
    refine Qn [] WZ rfl Lent.nil (fun _=>(.cons (.r rfl) (.cons (.r rfl) .nil))) (Wo _ [2] (by simp) (by simp)) (.inl rfl) (fun k34 x34 o34 h34=>?_) (fun k34=>?_)
    rotate_left
    · skip
      refine thenQ.p (blkQ.p (thenQ.p ?_))
      exact⟨_,QI [.k,.k] _,_,rfl,rfl,Qk [.k,.k] _,PlR.er (c:=81) ((pe15 t a).trans (if_neg (by simpa[Uj]using k34))) (by decide)⟩
    obtain⟨rfl,rfl⟩:=h34
    refine Zn (Zs (Zm rfl (Zq rfl (Qi QU Ql rfl (.r rfl) .const rfl rfl) (Ze UE rfl (Zq rfl (Qv WQ (.r rfl) (YT _ _)) (Zq rfl (QW.call Qai (.cons (.r rfl) .nil) (Pk _)) (Zq rfl (QW.call X7 (.cons (.r rfl) .nil) (Gl _)) (Qa 0 Ql (.r rfl) rfl (.r rfl) rfl rfl rfl rfl (Zn ?_)))))))))
    exact J.ret (blkQ.r (thenQ.r (Zr [.k,.k] (RetEv.one rfl (REv.cell 0 Ql rfl rfl rfl rfl lr)) rfl (PlR.ok ((pe15 t a).trans (if_pos (by simpa[Uj]using k34)))))))
  have n15:¬o=15:=by simpa using c5
  refine Zs (Zq rfl (QW.eql (.r rfl) .const) (Za rfl (Zn ?_)))
  refine J.cond (.r rfl) (fun c6=>?_) (fun c6=>?_)
  · skip
    obtain rfl:o=16:=by simpa using c6
    obtain⟨a,b,rfl⟩:=XB (l:=l) (by omega)
    have ha:=hl a (by simp)
    have hb:=hl b (by simp)
    refine J.seq (QV mixed (Zf 0 [] rfl (fun _=>QW.move (.r rfl)) (Zf 1 [43] rfl (fun _=>Qi QU Ql rfl (.r rfl) .const rfl rfl) (Zf 2 [44] rfl (fun _=>Qm Ql (.r rfl) (QF vl rfl) vl) (Zf 3 [] rfl (fun _=>QW.move (.r rfl)) (Zf 4 [46] rfl (fun _=>Qi QU Ql rfl (.r rfl) .const rfl rfl) (Zf 5 [47] rfl (fun _=>Qm Ql (.r rfl) (QF vl rfl) vl) (Zf 6 [45,48] rfl (fun _=>QW.call Qah (.cons (.r rfl) (.cons (.r rfl) .nil)) (P8 Vc.self Vc.self ha.wf hb.wf)) (Zf 7 [49] rfl (fun _=>QW.call YY (.cons (.r rfl) .nil) (Wi _)) ?_)))))))))
    refine JX.one 8 [true,true,true,true,true,true,true,true] rfl (by kernel_rfl) (by kernel_rfl) rfl rfl (by kernel_rfl) rfl fun bs8_ pe_ ex_=>?_
    refine JL.conv (by(try simp only[Ug,Uo,Q8,Q0,Flt.val,Flt.bx,nx,nl,Qj,QA,QC,Qy,QZ,AV.cellsOf,Qc,Qd,Nat.reduceAdd]);rfl) ?_
    refine Qa 0 Ql (.r rfl) rfl (.r rfl) rfl rfl rfl rfl (JL.nil ?_)
    refine thenQ.n ⟨[],_,rfl,rfl,rfl,rfl,rfl,QM 2 rfl,trivial,trivial,?_⟩
    refine JX.conv (S':=[8,7,6,5,4,3,2,1,0]) rfl (by(try simp only[Q0]);rfl) (by(try simp only[Ug,Uo,Q8,Q0,Flt.val,Flt.bx,nx,nl,Qj,QA,QC,Qy,QZ,AV.cellsOf,Qc,Qd,Nat.reduceAdd]);rfl) ?_
    refine JX.fin (by kernel_rfl) (by kernel_rfl) fun bs_=>?_
    refine QX.conv (by(try simp only[Ug,Uo,Q8,Q0,Flt.val,Flt.bx,nx,nl,Qj,QA,QC,Qy,QZ,AV.cellsOf,Qc,Qd,Nat.reduceAdd]);rfl) ?_
    exact thenQ.n (J.ret (blkQ.r (thenQ.r (Zr [.k,.k] (RetEv.one rfl (REv.cell 0 Ql rfl rfl (Qo vl rfl) vl lr)) rfl (PlR.ok ((pe16 t a b).trans (by rw[V.one,V.cmp,if_neg (by simp[ha.err]),if_neg (by simp[hb.err])];simp)))))))
  have n16:¬o=16:=by simpa using c6
  refine Zs (Zq rfl (QW.eql (.r rfl) .const) (Za rfl (Zn ?_)))
  refine J.cond (.r rfl) (fun c7=>?_) (fun c7=>?_)
  · skip
    obtain rfl:o=17:=by simpa using c7
    obtain⟨a,b,rfl⟩:=XB (l:=l) (by omega)
    have ha:=hl a (by simp)
    have hb:=hl b (by simp)
    refine J.seq (QV mixed (Zf 0 [] rfl (fun _=>QW.move (.r rfl)) (Zf 1 [53] rfl (fun _=>DV (l:=1) QU Ql rfl (.r rfl) .const rfl (by rw[V.css_length];simp)) ?_)))
    refine Zf 2 [] rfl (fun _=>QW.move (.r rfl)) (Zf 3 [55] rfl (fun _=>Qi QU Ql rfl (.r rfl) .const rfl rfl) (Zf 4 [56] rfl (fun _=>QL UZ (.r rfl) rfl) (Zf 5 [57] rfl (fun _=>Qv UA (.r rfl) (DT _ _)) (Zf 6 [58] rfl (fun _=>QW.buildSlice (idx:=[0]) (xs:=Wt [a.kind]) Ks Fs z3 rfl (.cons (.r rfl) .nil) rfl rfl rfl rfl rfl rfl rfl rfl rfl) (JX.one 7 [true,true,true,true,true,true,true] rfl (by kernel_rfl) (by kernel_rfl) rfl rfl (by kernel_rfl) rfl fun bs7_ pe_ ex_=>?_)))))
    refine JL.conv (by(try simp only[Ug,Uo,Q8,Q0,Flt.val,Flt.bx,nx,nl,Qj,QA,QC,Qy,QZ,AV.cellsOf,Qc,Qd,Nat.reduceAdd]);rfl) ?_
    refine Qn [] WZ rfl Lent.nil (fun _=>(.cons (.r rfl) (.cons (.r rfl) .nil))) (Wo [b] [a.kind] (by simp) (by simp)) (.inl rfl) (fun k60 x60 o60 h60=>?_) (fun k60=>?_)
    rotate_left
    · skip
      refine thenQ.p (thenQ.p (blkQ.p (thenQ.p ?_)))
      exact⟨_,QI [.k,.k] _,_,rfl,rfl,Qk [.k,.k] _,PlR.er (c:=81) ((pe17 t a b).trans (if_neg (by simpa[Uj]using k60))) (by decide)⟩
    obtain⟨rfl,rfl⟩:=h60
    refine JL.nil ?_
    refine thenQ.n ⟨[_],_,rfl,rfl,rfl,rfl,rfl,U5 2 rfl rfl,⟨rfl,rfl⟩,trivial,?_⟩
    refine JX.conv (S':=[7,6,5,4,3,2,1,0]) rfl (by(try simp only[Q0]);rfl) (by(try simp only[Ug,Uo,Q8,Q0,Flt.val,Flt.bx,nx,nl,Qj,QA,QC,Qy,QZ,AV.cellsOf,Qc,Qd,Nat.reduceAdd]);rfl) ?_
    refine JX.fin (by kernel_rfl) (by kernel_rfl) fun bs_=>?_
    refine QX.conv (by(try simp only[Ug,Uo,Q8,Q0,Flt.val,Flt.bx,nx,nl,Qj,QA,QC,Qy,QZ,AV.cellsOf,Qc,Qd,Nat.reduceAdd]);rfl) ?_
    refine thenQ.n (J.seq (QV mixed (Zf 0 [] rfl (fun _=>QW.move (.r rfl)) (Zf 1 [62] rfl (fun _=>Qi QU Ql rfl (.r rfl) .const rfl rfl) (Zf 2 [63] rfl (fun _=>Qm Ql (.r rfl) (QF vl rfl) vl) (Zf 3 [] rfl (fun _=>QW.move (.r rfl)) (Zf 4 [65] rfl (fun _=>Qi QU Ql rfl (.r rfl) .const rfl rfl) (Zf 5 [66] rfl (fun _=>Qm Ql (.r rfl) (QF vl rfl) vl) (Zf 6 [64,67] rfl (fun _=>QW.call EO (.cons (.r rfl) (.cons (.r rfl) .nil)) (Ed Vc.self Vc.self ha.wf hb.wf)) ?_)))))))))
    refine Zf 7 [68] rfl (fun _=>QW.move (.r rfl)) (Zf 8 [61] rfl (fun _=>QW.extract (.r rfl) rfl) (Zf 9 [61] rfl (fun _=>QW.extract (.r rfl) rfl) (Zf 10 [69] rfl (fun _=>QW.assign (.r rfl)) (Zf 11 [70] rfl (fun _=>QW.assign (.r rfl)) (JX.fin (by kernel_rfl) (by kernel_rfl) fun bs_=>?_)))))
    refine QX.conv (by(try simp only[Ug,Uo,Q8,Q0,Flt.val,Flt.bx,nx,nl,Qj,QA,QC,Qy,QZ,AV.cellsOf,Qc,Qd,Nat.reduceAdd]);rfl) ?_
    exact thenQ.n (Zs (Zm rfl (Zq rfl (QW.lss (.r rfl) .const) (Zq rfl (QW.call YY (.cons (.r rfl) .nil) (Wi _)) (Qa 0 Ql (.r rfl) rfl (.r rfl) rfl rfl rfl rfl (Zn (J.ret (blkQ.r (thenQ.r (Zr [.k,.k] (RetEv.one rfl (REv.cell 0 Ql rfl rfl (Qo vl rfl) vl lr)) rfl (PlR.ok ((pe17 t a b).trans (by rw[if_pos (by simpa[Uj]using k60),V.cmp,if_neg (by simp[ha.err]),if_neg (by simp[hb.err])])))))))))))))
  have n17:¬o=17:=by simpa using c7
  refine Zs (Zq rfl (QW.eql (.r rfl) .const) (Za rfl (Zn ?_)))
  refine J.cond (.r rfl) (fun c8=>?_) (fun c8=>?_)
  · skip
    obtain rfl:o=20:=by simpa using c8
    obtain⟨a,rfl⟩:=LO (l:=l) (by omega)
    have ha:=hl a (by simp)
    refine Zs (Zm rfl (Zq rfl (QW.buildSlice (idx:=[0]) (xs:=Wt [1]) Ks Fs z3 rfl (.cons .const .nil) rfl rfl rfl rfl rfl rfl rfl rfl rfl) ?_))
    refine Qn [] WZ rfl Lent.nil (fun _=>(.cons (.r rfl) (.cons (.r rfl) .nil))) (Wo _ [1] (by simp) (by simp)) (.inl rfl) (fun k78 x78 o78 h78=>?_) (fun k78=>?_)
    rotate_left
    · skip
      refine thenQ.p (blkQ.p (thenQ.p ?_))
      exact⟨_,QI [.k,.k] _,_,rfl,rfl,Qk [.k,.k] _,PlR.er (c:=81) ((pe20 t a).trans (if_neg (by simpa[Uj]using k78))) (by decide)⟩
    obtain⟨rfl,rfl⟩:=h78
    refine Zn (Zs (Zm rfl (Zq rfl (Qi QU Ql rfl (.r rfl) .const rfl rfl) (Ze UE rfl (Zq rfl (Qv WQ (.r rfl) (YT _ _)) (Zq rfl ((QW.eql (.r rfl) .const).conv (show _=AV.c (.bool (a.bits==0)) by rw[show((a.bits:Int)==0)=(a.bits==0) by rw[Bool.eq_iff_iff];simp])) ?_))))))
    exact Zq rfl (QW.call YY (.cons (.r rfl) .nil) (Wi _)) (Qa 0 Ql (.r rfl) rfl (.r rfl) rfl rfl rfl rfl (Zn (J.ret (blkQ.r (thenQ.r (Zr [.k,.k] (RetEv.one rfl (REv.cell 0 Ql rfl rfl rfl rfl lr)) rfl (PlR.ok ((pe20 t a).trans (if_pos (by simpa[Uj]using k78))))))))))
  have n20:¬o=20:=by simpa using c8
  refine Zs (Zq rfl (QW.eql (.r rfl) .const) (Za rfl (Zn ?_)))
  refine J.cond (.r rfl) (fun c9=>?_) (fun c9=>?_)
  · skip
    obtain rfl:o=22:=by simpa using c9
    obtain⟨a,b,rfl⟩:=XB (l:=l) (by omega)
    have ha:=hl a (by simp)
    have hb:=hl b (by simp)
    have h1:=Gj ha.fine.part
    have h2:=Gj hb.fine.part
    refine Zs (Zm rfl (Zq rfl (QW.buildSlice (idx:=[0,1]) (xs:=Wt [3,3]) Ks Fs z3 rfl (.cons .const (.cons .const .nil)) rfl rfl rfl rfl rfl rfl rfl rfl rfl) ?_))
    refine Qn [] WZ rfl Lent.nil (fun _=>(.cons (.r rfl) (.cons (.r rfl) .nil))) (Wo _ [3,3] (by simp) (by simp)) (.inl rfl) (fun k89 x89 o89 h89=>?_) (fun k89=>?_)
    rotate_left
    · skip
      refine thenQ.p (blkQ.p (thenQ.p ?_))
      exact⟨_,QI [.k,.k] _,_,rfl,rfl,Qk [.k,.k] _,PlR.er (c:=81) ((pe22 t a b).trans (if_pos (by simp[Uj]at k89;omega))) (by decide)⟩
    obtain⟨rfl,rfl⟩:=h89
    refine Zn (J.seq (QV mixed (Zf 0 [] rfl (fun _=>QW.move (.r rfl)) (Zf 1 [90] rfl (fun _=>Qi QU Ql rfl (.r rfl) .const rfl rfl) (Zf 2 [91] rfl (fun _=>QL Xf (.r rfl) rfl) (Zf 3 [92] rfl (fun _=>Qv UO (.r rfl) (Mj _ _)) (Zf 4 [93] rfl (fun _=>U3 Mx (.r rfl)) (Zf 5 [] rfl (fun _=>QW.move (.r rfl)) (Zf 6 [95] rfl (fun _=>Qi QU Ql rfl (.r rfl) .const rfl rfl) ?_)))))))))
    refine Zf 7 [96] rfl (fun _=>QL Xf (.r rfl) rfl) (Zf 8 [97] rfl (fun _=>Qv UO (.r rfl) (Mj _ _)) (Zf 9 [98] rfl (fun _=>U3 Mx (.r rfl)) (Zf 10 [94,99] rfl (fun _=>QW.add (.r rfl) (.r rfl) (Yy (by omega))) (Zf 11 [100] rfl (fun _=>QW.leq (.r rfl) .const) (JX.one 12 [true,true,true,true,true,true,true,true,true,true,true,true] rfl (by kernel_rfl) (by kernel_rfl) rfl rfl (by kernel_rfl) rfl fun bs12_ pe_ ex_=>?_)))))
    refine JL.conv (by(try simp only[Ug,Uo,Q8,Q0,Flt.val,Flt.bx,nx,nl,Qj,QA,QC,Qy,QZ,AV.cellsOf,Qc,Qd,Nat.reduceAdd]);rfl) ?_
    refine Qn [] WL rfl Lent.nil (fun _=>(.cons (.r rfl) (.cons .const .nil))) (XL _ _) (.inl rfl) (fun k102 x102 o102 h102=>?_) (fun k102=>?_)
    rotate_left
    · skip
      refine thenQ.p (thenQ.p (blkQ.p (thenQ.p ?_)))
      exact⟨_,QI [.k,.k] _,_,rfl,rfl,Qk [.k,.k] _,PlR.er (c:=84) (by rw[pe22,if_neg (by simp[Uj]at k89;omega),if_pos (by simp at k102;omega)]) (by decide)⟩
    obtain⟨rfl,rfl⟩:=h102
    refine JL.nil ?_
    refine thenQ.n ⟨[_],_,rfl,rfl,rfl,rfl,rfl,U5 2 rfl rfl,⟨rfl,rfl⟩,trivial,?_⟩
    refine JX.conv (S':=[12,11,10,9,8,7,6,5,4,3,2,1,0]) rfl (by(try simp only[Q0]);rfl) (by(try simp only[Ug,Uo,Q8,Q0,Flt.val,Flt.bx,nx,nl,Qj,QA,QC,Qy,QZ,AV.cellsOf,Qc,Qd,Nat.reduceAdd]);rfl) ?_
    refine JX.fin (by kernel_rfl) (by kernel_rfl) fun bs_=>?_
    refine QX.conv (by(try simp only[Ug,Uo,Q8,Q0,Flt.val,Flt.bx,nx,nl,Qj,QA,QC,Qy,QZ,AV.cellsOf,Qc,Qd,Nat.reduceAdd]);rfl) ?_
    refine thenQ.n (J.seq (QV mixed (Zf 0 [] rfl (fun _=>QW.move (.r rfl)) (Zf 1 [103] rfl (fun _=>Qi QU Ql rfl (.r rfl) .const rfl rfl) (Zf 2 [104] rfl (fun _=>QL Xf (.r rfl) rfl) (Zf 3 [105] rfl (fun _=>Qv UO (.r rfl) (Mj _ _)) (Zf 4 [] rfl (fun _=>QW.move (.r rfl)) (Zf 5 [107] rfl (fun _=>Qi QU Ql rfl (.r rfl) .const rfl rfl) (Zf 6 [108] rfl (fun _=>QL Xf (.r rfl) rfl) ?_)))))))))
    refine Zf 7 [109] rfl (fun _=>Qv UO (.r rfl) (Mj _ _)) (Zf 8 [106,110] rfl (fun _=>PU (.r rfl) (.r rfl) (by omega)) (Zf 9 [111] rfl (fun _=>QW.build (idx:=[0,2]) Kj Yd rfl (.cons .const (.cons (.r rfl) .nil)) rfl rfl rfl rfl) (JX.one 10 [true,true,true,true,true,true,true,true,true,true] rfl (by kernel_rfl) (by kernel_rfl) rfl rfl (by kernel_rfl) rfl fun bs10_ pe_ ex_=>?_)))
    refine JL.conv (by(try simp only[Ug,Uo,Q8,Q0,Flt.val,Flt.bx,nx,nl,Qj,QA,QC,Qy,QZ,AV.cellsOf,Qc,Qd,Nat.reduceAdd]);rfl) ?_
    refine Qa 0 Ql (.r rfl) rfl (.r rfl) rfl rfl rfl rfl (JL.nil ?_)
    refine thenQ.n ⟨[],_,rfl,rfl,rfl,rfl,rfl,QM 2 rfl,trivial,trivial,?_⟩
    refine JX.conv (S':=[10,9,8,7,6,5,4,3,2,1,0]) rfl (by(try simp only[Q0]);rfl) (by(try simp only[Ug,Uo,Q8,Q0,Flt.val,Flt.bx,nx,nl,Qj,QA,QC,Qy,QZ,AV.cellsOf,Qc,Qd,Nat.reduceAdd]);rfl) ?_
    refine JX.fin (by kernel_rfl) (by kernel_rfl) fun bs_=>?_
    refine QX.conv (by(try simp only[Ug,Uo,Q8,Q0,Flt.val,Flt.bx,nx,nl,Qj,QA,QC,Qy,QZ,AV.cellsOf,Qc,Qd,Nat.reduceAdd]);rfl) ?_
    exact thenQ.n (J.ret (blkQ.r (thenQ.r (Zr [.k,.k] (RetEv.one rfl (REv.cell 0 Ql rfl rfl rfl rfl (.aggL (.cons lr (.cons lr (.cons lr (.cons (.nil false false _) (.cons (.nil false false _) .nil)))))))) rfl (PlR.ok (v:=.tx (a.text++b.text)) (by rw[pe22,if_neg (by simp[Uj]at k89;omega),if_neg (by simp at k102;omega)]))))))
  have n22:¬o=22:=by simpa using c9
  refine Zs (Zq rfl (QW.eql (.r rfl) .const) (Za rfl (Zn ?_)))
  refine J.cond (.r rfl) (fun c10=>?_) (fun c10=>?_)
  · skip
    obtain rfl:o=26:=by simpa using c10
    obtain⟨a,rfl⟩:=LO (l:=l) (by omega)
    have ha:=hl a (by simp)
    refine Zs (Zm rfl (Zq rfl (QW.buildSlice (idx:=[0]) (xs:=Wt [2]) Ks Fs z3 rfl (.cons .const .nil) rfl rfl rfl rfl rfl rfl rfl rfl rfl) ?_))
    refine Qn [] WZ rfl Lent.nil (fun _=>(.cons (.r rfl) (.cons (.r rfl) .nil))) (Wo _ [2] (by simp) (by simp)) (.inl rfl) (fun k117 x117 o117 h117=>?_) (fun k117=>?_)
    rotate_left
    · skip
      refine thenQ.p (blkQ.p (thenQ.p ?_))
      exact⟨_,QI [.k,.k] _,_,rfl,rfl,Qk [.k,.k] _,PlR.er (c:=81) ((pe26 t a).trans (if_pos (by simpa[Uj]using k117))) (by decide)⟩
    obtain⟨rfl,rfl⟩:=h117
    refine Zn (Zs (Zm rfl (Zq rfl (Qi QU Ql rfl (.r rfl) .const rfl rfl) (Ze UE rfl (Zq rfl (Qv WQ (.r rfl) (YT _ _)) (Zq rfl (QW.call Pa (.cons (.r rfl) .nil) (Nk _ ha.bits)) (Zm rfl (Zx rfl (Zx rfl ?_)))))))))
    refine Za rfl (Za rfl (Zn (Zs (Zm rfl (Zq rfl (QW.eql (.r rfl) .const) (Zm rfl ?_))))))
    refine Qn [] WL rfl Lent.nil (fun _=>(.cons (.r rfl) (.cons (.r rfl) .nil))) (XL _ _) (.inl rfl) (fun k129 x129 o129 h129=>?_) (fun k129=>?_)
    rotate_left
    · skip
      refine thenQ.p (blkQ.p (thenQ.p ?_))
      have h7:¬YG a.bits=0:=fun h=>k129 (by simp[h])
      exact⟨_,QI [.k,.k] _,_,rfl,rfl,Qk [.k,.k] _,PlR.er (c:=if YG a.bits=0 then 0 else 7) (by rw[pe26,if_neg (by simpa[Uj]using k117),if_pos h7,if_neg h7]) (by rw[if_neg h7];decide)⟩
    obtain⟨rfl,rfl⟩:=h129
    refine Zn (Zs (Zm rfl (Zq rfl (QW.build (idx:=[0,2]) Kj Yd rfl (.cons .const (.cons (.r rfl) .nil)) rfl rfl rfl rfl) (Qa 0 Ql (.r rfl) rfl (.r rfl) rfl rfl rfl rfl (Zn (J.ret (blkQ.r (thenQ.r ?_))))))))
    have h7:YG a.bits=0:=Decidable.byContradiction fun h=>by simp[h]at k129
    exact Zr [.k,.k] (RetEv.one rfl (REv.cell 0 Ql rfl rfl rfl rfl (.aggL (.cons lr (.cons lr (.cons lr (.cons (.nil false false _) (.cons (.nil false false _) .nil)))))))) rfl (PlR.ok (v:=.tx (if YG a.bits=0 then Ht (YP a.bits)else [])) (by rw[pe26,if_neg (by simpa[Uj]using k117),if_neg (by simp[h7]),if_pos h7]))
  have n26:¬o=26:=by simpa using c10
  refine J.skip (blkQ.n (thenQ.n (Zs (Zq rfl (Qe 1 Ub (.r rfl) rfl rfl rfl) (Zm rfl ?_)))))
  refine Qn [] Qag rfl Lent.nil (fun _=>(.cons (.r rfl) (.cons (.r rfl) .nil))) (BS Xc.mk ht hl ⟨hn8,by omega⟩) (.inl rfl) (fun k134 x134 o134 h134=>?_) (fun k134=>?_)
  rotate_left
  · skip
    refine thenQ.p ?_
    exact⟨_,QI [.k,.k] _,_,rfl,rfl,Qk [.k,.k] _,PanR.pan k134⟩
  obtain⟨v134,hv134,rfl,rfl⟩:=h134
  exact Qa 0 Ql (.r rfl) rfl (.r rfl) rfl vl rfl rfl (Zn (J.ret (Zr [.k,.k] (RetEv.one rfl (REv.cell 0 Ql rfl rfl (Qo vl rfl) vl lr)) rfl (PlR.ok hv134))))

end
section
/- Two loud operations that no order binds. -/
def blk2B(l:List Oper)(S Φ:List Nat)(i1 i2:Nat):Bool:=(List.range l.length).all fun j=>memB j S||memB j Φ||(Nat.beq j i1||Nat.beq j i2)||(match l[j]? with
  |some o=>o.after.toList.any fun e=>Region.binds .any e&&!memB e.on S&&!memB e.on Φ
  |none=>true)
section
variable {P:Program} {E:Wy} {Q:Exit→St→Prop} {n:Nat} {env:List (Nat×AV)} {own:List Own} {F:List (Value×AV)} {D:List Deferred} {ops:Array Oper}
theorem Ev.constA{st:St}{vs:List Value}(h:vs.all (·.oneCell')=true):Ev E st (.const (.agg vs.toArray)) (.agg (vs.map .c)):=fun A a w _=>
  .agg _ _ (fun k=>vs.getD k undef) (by simp) (fun k y hk=>by
    rw[List.getElem?_map]at hk
    obtain⟨z,hz,rfl⟩:=Option.map_eq_some_iff.1 hk
    have:=(List.all_eq_true.1 h) z (List.mem_of_getElem? hz)
    exact⟨by simp[hz,List.getD],by simpa[hz,List.getD]using this⟩) (fun k y hk=>by
    rw[List.getElem?_map]at hk
    obtain⟨z,hz,rfl⟩:=Option.map_eq_some_iff.1 hk
    rw[show vs.getD k undef=z by simp[hz,List.getD]];exact .c z)
def CandX(P:Program)(E:Wy)(Q:Exit→St→Prop)(n:Nat)(env:List (Nat×AV))(own:List Own)(F:List (Value×AV))(D:List Deferred)(ops:Array Oper)(S:List Nat)(Φ:List Flt)(i:Nat):Prop:=
  ∃(ms:List Bool) (o:Oper),ops[i]? =some o∧memB i S=false∧memB i (Φ.map (·.i))=false∧R5 ops.toList o [] ((Q8 ms Φ).map (·.i))=true∧(Q0 ms Φ).all (·.fre)=true∧
    ∀bs pe ex,JL P E ops [o] ⟨n,Ug bs (Q8 ms Φ)++(env++pe),own++(Uo bs (Q8 ms Φ)++ex),F,D⟩ (thenQ (fun s=>∃ev env' own',s.n=n∧s.env=env'++pe∧s.facts=F∧s.dfs=D∧env'=ev++(Ug bs (Q8 ms Φ)++env)∧ev.all (fun p=>o.dst==some p.1)=true∧Reown s.own (own'++ex)∧
      (match o.dst with|some d=>(Φ.all fun φ=>!Nat.beq φ.d d)=true∧lk env d=none|none=>True)∧okO own' (Q0 ms Φ)∧JX P E ops (i::((Q8 ms Φ).map (·.i)++S)) (Q0 ms Φ) ⟨n,env',own',F,D⟩ Q) Q)
theorem CandX.mk{S:List Nat}{Φ:List Flt}(i:Nat)(ms:List Bool){o:Oper}(ho:ops[i]? =some o)(hS:memB i S=false)(hΦ:memB i (Φ.map (·.i))=false)
    (hlnd:R5 ops.toList o [] ((Q8 ms Φ).map (·.i))=true) (hfre:(Q0 ms Φ).all (·.fre)=true)
    (h:∀bs pe ex,JL P E ops [o] ⟨n,Ug bs (Q8 ms Φ)++(env++pe),own++(Uo bs (Q8 ms Φ)++ex),F,D⟩ (thenQ (fun s=>∃ev own',s.n=n∧s.env=ev++(Ug bs (Q8 ms Φ)++(env++pe))∧s.facts=F∧s.dfs=D∧ev.all (fun p=>o.dst==some p.1)=true∧Reown s.own (own'++ex)∧
      (match o.dst with|some d=>(Φ.all fun φ=>!Nat.beq φ.d d)=true∧lk env d=none|none=>True)∧okO own' (Q0 ms Φ)∧JX P E ops (i::((Q8 ms Φ).map (·.i)++S)) (Q0 ms Φ) ⟨n,ev++(Ug bs (Q8 ms Φ)++env),own',F,D⟩ Q) Q)):CandX P E Q n env own F D ops S Φ i:=
  ⟨ms,o,ho,hS,hΦ,hlnd,hfre,fun bs pe ex a w hs=>by
    have:=h bs pe ex a w hs
    refine Kl this fun a' w' ⟨s,⟨ev,own',h1,h2,h3,h4,h5,h6,h7,h8,h9⟩,hs'⟩=>⟨s,⟨ev,_,own',h1,by rw[h2];simp,h3,h4,rfl,h5,h6,h7,h8,h9⟩,hs'⟩⟩
theorem BX{S:List Nat}{Φ:List Flt}(i1 i2:Nat)(hbk:Xi 0 ops.toList=true)(hblk:blk2B ops.toList S (Φ.map (·.i)) i1 i2=true)(h1:CandX P E Q n env own F D ops S Φ i1)(h2:CandX P E Q n env own F D ops S Φ i2):
    JX P E ops S Φ ⟨n,env,own,F,D⟩ Q:=fun hw hF=>by
  have hall:∀i,i=i1∨i=i2→CandX P E Q n env own F D ops S Φ i:=fun i h=>h.elim (fun e=>e▸h1) (fun e=>e▸h2)
  obtain⟨ms0,o0,ho0,hS0,hΦ0,-,-,-⟩:=h1
  have hlt0:i1<ops.size:=(Array.getElem?_eq_some_iff.1 ho0).1
  intro fuel
  induction fuel with
  |zero=>
    intro L bs A a w hc hcf
    exfalso
    have hi:L.getD i1 true=false:=by
      rw[Uh (by rw[hcf.size];exact hlt0)]
      exact hcf.no i1 (fun h=>by rw[Q5.2 h]at hS0;cases hS0) fun φ hφ he=>by rw[Q5.2 (List.mem_map.2 ⟨φ,hφ,he⟩)]at hΦ0;cases hΦ0
    have:=List.countP_eq_zero.1 (Nat.le_zero.1 hc) i1 (by simpa using hlt0)
    simp[hi]at this
  |succ fuel ih=>
    intro L bs A a w hc hcf
    have hundone:L.getD i1 false=false:=hcf.no i1 (fun h=>by rw[Q5.2 h]at hS0;cases hS0) fun φ hφ he=>by rw[Q5.2 (List.mem_map.2 ⟨φ,hφ,he⟩)]at hΦ0;cases hΦ0
    refine⟨fun hr=>?_,fun j hj=>?_⟩
    · exfalso
      have key:∀j,j<ops.size→L.getD j false=true:=by
        intro j
        induction j using Nat.strongRecOn with
        |_ j ihj=>
          intro hjl
          cases hL:L.getD j false with
          |true=>rfl
          |false=>
            exfalso
            obtain⟨oj,hoj⟩:∃oj,ops[j]? =some oj:=⟨_,Array.getElem?_eq_getElem hjl⟩
            have:j∈Region.ready .any ops L:=Yr hcf.size hoj (by rw[Uh (by rw[hcf.size];exact hjl)];exact hL) fun e he hb=>by
              have hon:=Ym hbk (i:=j) (o:=oj) (by simpa using hoj) e he hb
              exact ihj e.on (by omega) (by omega)
            rw[hr]at this
            cases this
      rw[key i1 hlt0]at hundone;cases hundone
    · obtain⟨hjl,oj,hoj,hunj,hdeps⟩:=Wb hj
      have hunj':L.getD j false=false:=by rw[← Uh (by rw[hcf.size];exact hjl)];exact hunj
      by_cases hjΦ:∃φ∈Φ,φ.i=j
      · obtain⟨φ,hφ,rfl⟩:=hjΦ
        exact hcf.run hw hF hφ hunj' hjl (fun o' ho'=>by rw[hoj]at ho';cases ho';exact hdeps) fun bs' A' a' w' hcf'=>ih _ bs' A' a' w' (KW hcf.size hjl hunj hc) hcf'
      · have hji:j=i1∨j=i2:=by
          by_cases he:j=i1∨j=i2
          · exact he
          · exfalso
            have h1:=List.all_eq_true.1 hblk j (by simpa using hjl)
            have h2:memB j S=false:=by
              cases hb:memB j S with
              |false=>rfl
              |true=>rw[hcf.yes j (Q5.1 hb)]at hunj';cases hunj'
            have h3:memB j (Φ.map (·.i))=false:=by
              cases hb:memB j (Φ.map (·.i))with
              |false=>rfl
              |true=>
                obtain⟨φ,hφ,hφi⟩:=List.mem_map.1 (Q5.1 hb)
                exact absurd ⟨φ,hφ,hφi⟩ hjΦ
            have h4:(Nat.beq j i1||Nat.beq j i2)=false:=by
              cases hb:(Nat.beq j i1||Nat.beq j i2)with
              |false=>rfl
              |true=>exact absurd ((Bool.or_eq_true _ _▸hb).imp Nat.eq_of_beq_eq_true Nat.eq_of_beq_eq_true) he
            have h5:ops.toList[j]? =some oj:=by simpa using hoj
            rw[h2,h3,h4,h5]at h1
            simp only[Bool.false_or]at h1
            obtain⟨e,he,hb⟩:=List.any_eq_true.1 h1
            simp only[Bool.and_eq_true,Bool.not_eq_true']at hb
            have h6:=hdeps e (by simpa using he) hb.1.1
            rw[hcf.no e.on (fun h=>by rw[Q5.2 h]at hb;simp at hb) fun φ hφ hφi=>by
              have:=hb.2
              rw[Q5.2 (List.mem_map.2 ⟨φ,hφ,hφi⟩)]at this;cases this]at h6
            cases h6
        obtain⟨ms,o,ho,hS,hΦ,hlnd,hfre,h⟩:=hall j hji
        have hp:=Lc ms Φ
        have hlt:=hjl
        have hoo:o=oj:=by rw[ho]at hoj;cases hoj;rfl
        rw[← hoo]at hdeps
        clear hoj
        -- what it waits for has been done
        have hland:∀φ∈Q8 ms Φ,L.getD φ.i false=true:=fun φ hφ=>KQ hcf.clo hdeps _ _ (fun o' h=>by cases h) hlnd φ.i (List.mem_map.2 ⟨φ,hφ,rfl⟩)
        have hmem:∀φ,φ∈Φ↔φ∈Q8 ms Φ∨φ∈Q0 ms Φ:=fun φ=>by rw[hp.mem_iff,List.mem_append]
        obtain⟨pe,hpe⟩:∃pe,pe=Ug bs ((Q0 ms Φ).filter fun φ=>L.getD φ.i false):=⟨_,rfl⟩
        have hndd:((Q8 ms Φ++Q0 ms Φ).map (·.d)).Nodup:=(hp.map _).nodup_iff.1 hw.ndd
        rw[List.map_append,List.nodup_append]at hndd
        have hnd:((Q8 ms Φ++Q0 ms Φ).map (·.i)).Nodup:=(hp.map _).nodup_iff.1 hw.nd
        rw[List.map_append,List.nodup_append]at hnd
        have hsat0:SatA E A ⟨n,Ug bs (Q8 ms Φ)++(env++pe),own++(Uo bs (Q8 ms Φ)++XT L bs (Q0 ms Φ)),F,D⟩ a w:=by
          have h1:=hcf.sat.perm (List.Perm.append_left own ((Tj (L:=L) (bs:=bs) hp).trans (by rw[L4,KG hland])))
          refine⟨h1.size,h1.defers,h1.keep,h1.hp,fun s x hl=>?_,h1.facts⟩
          rcases Gp hl with ⟨φ,hφ,rfl,rfl⟩|hl
          · exact hcf.val φ ((hmem φ).2 (.inl hφ)) (hland φ hφ)
          · rw[Ut]at hl
            rcases hl with hl|⟨_,hl⟩
            · exact hcf.sat.env s x hl
            · rw[hpe]at hl
              rcases Gp (env:=[]) (by rw[List.append_nil];exact hl)with ⟨φ,hφ,rfl,rfl⟩|hl
              · rw[List.mem_filter]at hφ
                exact hcf.val φ ((hmem φ).2 (.inr hφ.1)) hφ.2
              · simp[lk]at hl
        have hl:=h bs pe (XT L bs (Q0 ms Φ)) a w ⟨A,hsat0⟩
        have hK:∀a' w',wpListIn (XG E.rd) 0 P ops (Wh E (thenQ (fun s=>∃ev env' own',s.n=n∧s.env=env'++pe∧s.facts=F∧s.dfs=D∧env'=ev++(Ug bs (Q8 ms Φ)++env)∧ev.all (fun p=>o.dst==some p.1)=true∧Reown s.own (own'++XT L bs (Q0 ms Φ))∧
            (match o.dst with|some d=>(Φ.all fun φ=>!Nat.beq φ.d d)=true∧lk env d=none|none=>True)∧okO own' (Q0 ms Φ)∧JX P E ops (j::((Q8 ms Φ).map (·.i)++S)) (Q0 ms Φ) ⟨n,env',own',F,D⟩ Q) Q)) [] a' w'→wpAnyIn (XG E.rd) 0 P .any ops (Wh E Q) fuel (L.setIfInBounds j true) a' w':=by
          rintro a' w' ⟨⟨n',env2,own2,F',D'⟩,⟨ev,env',own',rfl,rfl,rfl,rfl,rfl,hev,hre,hdd,hoO,hX⟩,A',hsA⟩
          have hevd:∀s x,lk ev s=some x→o.dst=some s:=fun s x hl'=>by
            have:=List.all_eq_true.1 hev _ (X2 _ _ _ hl')
            simpa using this
          have hlts:j<L.size:=by rw[hcf.size];exact hlt
          have hset:∀z,(L.setIfInBounds j true).getD z false=if z=j then true else L.getD z false:=fun z=>Uk _ _ _ hlts _
          have hnot:∀φ∈Φ,φ.i≠j:=fun φ hφ he=>by rw[Q5.2 (List.mem_map.2 ⟨φ,hφ,he⟩)]at hΦ;cases hΦ
          have hevΦ:∀φ∈Φ,lk ev φ.d=none:=fun φ hφ=>by
            cases hle:lk ev φ.d with
            |none=>rfl
            |some x=>
              have hd':=hevd _ _ hle
              rw[hd']at hdd
              have:=List.all_eq_true.1 hdd.1 φ hφ
              simp at this
          have hold:∀s y,lk env s=some y→lk (ev++(Ug bs (Q8 ms Φ)++env)) s=some y:=fun s y hl'=>by
            rw[Ut]
            have h1:lk ev s=none:=by
              cases hle:lk ev s with
              |none=>rfl
              |some x=>
                have hd':=hevd _ _ hle
                rw[hd']at hdd
                simp only at hdd
                rw[hdd.2]at hl';cases hl'
            refine .inr ⟨h1,?_⟩
            rw[WD fun φ hφ he=>?_]
            · exact hl'
            · rw[← he,hw.ne φ ((hmem φ).2 (.inl hφ))]at hl';cases hl'
          have hexs:XT (L.setIfInBounds j true) bs (Q0 ms Φ)=XT L bs (Q0 ms Φ):=XO fun φ hφ=>⟨by rw[hset,if_neg (hnot φ ((hmem φ).2 (.inr hφ)))],rfl⟩
          refine hX ⟨hnd.2.1,hndd.2.1,fun φ hφ hm=>?_,fun φ hφ=>?_⟩ (fun φ hφ=>?_) fuel _ bs A' a' w' (KW hcf.size hlt hunj hc) ⟨by simpa using hcf.size,fun z hz=>?_,fun z hz1 hz2=>?_,fun z oz hoz hLz e he hb=>?_,?_,fun φ hφ hLφ=>?_⟩
          · rcases List.mem_cons.1 hm with hm|hm
            · exact hnot φ ((hmem φ).2 (.inr hφ)) hm
            · rcases List.mem_append.1 hm with hm|hm
              · exact hnd.2.2 _ hm _ (List.mem_map.2 ⟨φ,hφ,rfl⟩) rfl
              · exact hw.ns φ ((hmem φ).2 (.inr hφ)) hm
          · have hφΦ:=(hmem φ).2 (.inr hφ)
            show lk (ev++(Ug bs (Q8 ms Φ)++env)) φ.d=none
            cases hle:lk (ev++(Ug bs (Q8 ms Φ)++env)) φ.d with
            |none=>rfl
            |some y=>
              rw[Ut]at hle
              rcases hle with hle|⟨_,hle⟩
              · rw[hevΦ φ hφΦ]at hle;cases hle
              · rw[WD fun ψ hψ he=>hndd.2.2 _ (List.mem_map.2 ⟨ψ,hψ,rfl⟩) _ (List.mem_map.2 ⟨φ,hφ,rfl⟩) he]at hle
                rw[hw.ne φ hφΦ]at hle;cases hle
          · obtain⟨o',ho',hd',hdn',hm'⟩:=hF φ ((hmem φ).2 (.inr hφ))
            refine⟨o',ho',hd',hdn',?_⟩
            split at hm'
            · exact hm'
            · obtain⟨e,he,_,hs⟩:=hm'
              refine⟨e,fun s y hl'=>?_,NM hoO φ hφ,fun own2 _ hO2=>hs own2 (fun hf=>?_) hO2⟩
              · rcases he s y hl' with h1|⟨ψ,hψ,rfl,hψv,hψd⟩
                · exact .inl (hold s y h1)
                · rcases(hmem ψ).1 hψ with hψ'|hψ'
                  · left
                    rw[Ut]
                    refine .inr ⟨hevΦ ψ hψ,?_⟩
                    rw[Xd hndd.1 hψ']
                    unfold Flt.val
                    rw[hψv]
                  · exact .inr ⟨ψ,hψ',rfl,hψv,hψd⟩
              · have:=List.all_eq_true.1 hfre φ hφ
                rw[hf]at this;cases this
          · rw[hset]
            split
            · rfl
            · rename_i hne
              rcases List.mem_cons.1 hz with hz|hz
              · exact absurd hz hne
              · rcases List.mem_append.1 hz with hz|hz
                · obtain⟨φ,hφ,rfl⟩:=List.mem_map.1 hz
                  exact hland φ hφ
                · exact hcf.yes z hz
          · rw[hset,if_neg (fun h=>hz1 (by simp[h]))]
            refine hcf.no z (fun h=>hz1 (by simp[h])) fun φ hφ he=>?_
            rcases(hmem φ).1 hφ with h'|h'
            · exact hz1 (by rw[← he];exact List.mem_cons_of_mem _ (List.mem_append_left _ (List.mem_map.2 ⟨φ,h',rfl⟩)))
            · exact hz2 φ h' he
          · rw[hset]at hLz⊢
            split
            · rfl
            · by_cases hzj:z=j
              · subst hzj;rw[ho]at hoz;cases hoz;exact hdeps e he hb
              · rw[if_neg hzj]at hLz;exact hcf.clo z oz hoz hLz e he hb
          · rw[hexs]
            exact⟨hsA.size,hsA.defers,hsA.keep,hsA.hp.reown hre,fun s y hl'=>hsA.env s y (by rw[Ut];exact .inl hl'),hsA.facts⟩
          · rw[hset,if_neg (hnot φ ((hmem φ).2 (.inr hφ)))]at hLφ
            refine hsA.env φ.d (φ.val bs) ?_
            have hφΦ:=(hmem φ).2 (.inr hφ)
            rw[Ut]
            refine .inr ⟨?_,?_⟩
            · show lk (ev++(Ug bs (Q8 ms Φ)++env)) φ.d=none
              cases hle:lk (ev++(Ug bs (Q8 ms Φ)++env)) φ.d with
              |none=>rfl
              |some y=>
                rw[Ut]at hle
                rcases hle with hle|⟨_,hle⟩
                · rw[hevΦ φ hφΦ]at hle;cases hle
                · rw[WD fun ψ hψ he=>hndd.2.2 _ (List.mem_map.2 ⟨ψ,hψ,rfl⟩) _ (List.mem_map.2 ⟨φ,hφ,rfl⟩) he]at hle
                  rw[hw.ne φ hφΦ]at hle;cases hle
            · rw[hpe]
              have:=Xd (bs:=bs) (env:=[]) (Φ:=(Q0 ms Φ).filter fun φ=>L.getD φ.i false) (φ:=φ) ((List.filter_sublist.map _).nodup hndd.2.1) (List.mem_filter.2 ⟨hφ,hLφ⟩)
              rwa [List.append_nil]at this
        unfold wpOpIn
        simp only[ho]
        unfold wpListIn at hl
        split
        · rename_i hw'
          rw[if_pos hw']at hl
          exact W1 (fun ch a w h=>Hq (by intro h;cases h) h) (fun h=>by first|exact fun a w=>Hq (by intro h;cases h) (h a w)|exact h) (Oper.wpIn_mono hK hl)
        · rename_i hw'
          rw[if_neg hw']at hl
          exact⟨hl.1,hK _ _ hl.2⟩
end

end
section
/- Walks: the machine: what an expression tells, items of a list. -/
set_option maxRecDepth 10000
set_option maxHeartbeats 4000000
def mb(b:Nat)(s:ScT)(f:Int):Own:=.box b (s.st.cs false++s.ev.cs false++s.it.cs false++[.c (.int .i64 f)])
theorem R0{s:ScT}{f:Int}(k:Nat)(h:k≤2:=by decide):((s.st.cs false++s.ev.cs false++s.it.cs false++[AV.c (.int .i64 f)]).drop (5*k)).take 5=(match k with|0=>s.st|1=>s.ev|_=>s.it).cs false:=by
  obtain⟨⟨k1,b1,t1,ks1,is1⟩,⟨k2,b2,t2,ks2,is2⟩,⟨k3,b3,t3,ks3,is3⟩⟩:=s
  match k,h with
  |0,_=>rfl
  |1,_=>rfl
  |2,_=>rfl
theorem NQ{s:ScT}{f:Int}:(s.st.cs false++s.ev.cs false++s.it.cs false++[AV.c (.int .i64 f)])[15]? =some (.c (.int .i64 f)):=by
  obtain⟨⟨k1,b1,t1,ks1,is1⟩,⟨k2,b2,t2,ks2,is2⟩,⟨k3,b3,t3,ks3,is3⟩⟩:=s;rfl
theorem Gn{s:ScT}{f:Int}:(s.st.cs false++s.ev.cs false++s.it.cs false++[AV.c (.int .i64 f)]).length=16:=by
  simp[V.cs_length]
theorem Ey{s:ScT}{f g:Int}:Q1 (s.st.cs false++s.ev.cs false++s.it.cs false++[AV.c (.int .i64 f)]) 15 [.c (.int .i64 g)]=s.st.cs false++s.ev.cs false++s.it.cs false++[AV.c (.int .i64 g)]:=by
  obtain⟨⟨k1,b1,t1,ks1,is1⟩,⟨k2,b2,t2,ks2,is2⟩,⟨k3,b3,t3,ks3,is3⟩⟩:=s;rfl
theorem KA{s:ScT}{f:Int}{x:V}:Q1 (s.st.cs false++s.ev.cs false++s.it.cs false++[AV.c (.int .i64 f)]) 10 (x.cs false)=s.st.cs false++s.ev.cs false++x.cs false++[AV.c (.int .i64 f)]:=by
  obtain⟨⟨k1,b1,t1,ks1,is1⟩,⟨k2,b2,t2,ks2,is2⟩,⟨k3,b3,t3,ks3,is3⟩⟩:=s
  obtain⟨k4,b4,t4,ks4,is4⟩:=x;rfl
def pb(b:Nat):AV:=.c (.pointer (some ⟨b,0,none⟩))
def He(f:Int):Prop:=0≤f∧f≤4611686018427387904
def EvR(r:ER V)(b:Nat)(s:ScT):Wl→List Own→Prop:=PanR (Xk r=0) (WT (Xk r)) fun x o=>∃v f',r=.ok (v,f')∧x=.agg (v.cs false)∧o=[mb b s f']
def TrR(r:ER Bool)(b:Nat)(s:ScT):Wl→List Own→Prop:=PanR (Xk r=0) (WT (Xk r)) fun x o=>∃t f',r=.ok (t,f')∧x=.c (.bool t)∧o=[mb b s f']
theorem EvR.ok{r:ER V}{b:Nat}{s:ScT}{v:V}{f':Int}(h:r=.ok (v,f')):EvR r b s (.ret (.agg (v.cs false))) [mb b s f']:=.inl ⟨by rw[h];rfl,_,rfl,v,f',h,rfl,rfl⟩
theorem EvR.er{r:ER V}{b:Nat}{s:ScT}{c:Int}(h:r=.error c)(hc:¬c=0):EvR r b s (.pan (.iface 47 (.int .i64 c))) []:=.inr ⟨by rw[h];exact hc,by rw[h];rfl,rfl⟩
theorem TrR.ok{r:ER Bool}{b:Nat}{s:ScT}{t:Bool}{f':Int}(h:r=.ok (t,f')):TrR r b s (.ret (.c (.bool t))) [mb b s f']:=.inl ⟨by rw[h];rfl,_,rfl,t,f',h,rfl,rfl⟩
theorem TrR.er{r:ER Bool}{b:Nat}{s:ScT}{c:Int}(h:r=.error c)(hc:¬c=0):TrR r b s (.pan (.iface 47 (.int .i64 c))) []:=.inr ⟨by rw[h];exact hc,by rw[h];rfl,rfl⟩
theorem UN{α:Type}{r:Except Int α}(h:¬Xk r=0):r=.error (Xk r):=by
  cases r with
  |ok _=>exact absurd rfl h
  |error c=>rfl
def D8(n:Nat):Prop:=∀(e:EX) (s:ScT) (f:Int) (b:Nat) (fr:Bool),e.wf→e.Fine→s.good→He f→e.sz≤n→AC Tryz.prog 210 [mb b s f] [pb b,.agg (e.cs fr)] (EvR (e.ev s f) b s)
theorem Sd{r:ER V}{c:Int}(h:r=.error c):Wa r=.error c:=by rw[h];rfl
theorem Sb{r:ER V}{v:V}{f:Int}(h:r=.ok (v,f))(hk:¬v.kind=1):Wa r=.error 81:=by rw[h];exact if_neg hk
theorem F5{r:ER V}{v:V}{f:Int}(h:r=.ok (v,f))(hk:v.kind=1):Wa r=.ok (v.bits==1,f):=by rw[h];exact if_pos hk
def MF{β:Type}(stp:β→V→Int→Except Int (Bool×β×Int)):List V→β→Int→Except Int (β×Int)
  |[],σ,f=>.ok (σ,f)
  |x::r,σ,f=>match stp σ x f with
    |.error e=>.error e
    |.ok (k,σ',f')=>if k then MF stp r σ' f' else .ok (σ',f')
def Xe{β:Type}(stp:β→V→Int→Except Int (Bool×β×Int))(σ:β)(r:ER V):Except Int (β×Int):=match r with
  |.error e=>.error e
  |.ok (v,f)=>if v.kind≠4 then .error 81 else MF stp v.items σ f
theorem Ta{β:Type}{stp:β→V→Int→Except Int (Bool×β×Int)}{l:List V}{j:Nat}(h:j<l.length)(σ:β)(f:Int):MF stp (l.drop j) σ f=match stp σ l[j] f with
    |.error e=>.error e
    |.ok (k,σ',f')=>if k then MF stp (l.drop (j+1)) σ' f' else .ok (σ',f'):=by
  rw[List.drop_eq_getElem_cons h,MF]
theorem SU{β:Type}{stp:β→V→Int→Except Int (Bool×β×Int)}{l:List V}{j:Nat}{σ:β}{f c:Int}(h:j<l.length)(hc:stp σ l[j] f=.error c):MF stp (l.drop j) σ f=.error c:=by rw[Ta h,hc]
theorem itE_ok{β:Type}{stp:β→V→Int→Except Int (Bool×β×Int)}{l:List V}{j:Nat}{σ σ':β}{f f':Int}{k:Bool}(h:j<l.length)(hc:stp σ l[j] f=.ok (k,σ',f')):MF stp (l.drop j) σ f=if k then MF stp (l.drop (j+1)) σ' f' else .ok (σ',f'):=by rw[Ta h,hc]
theorem Yt{n:Nat}(ih:D8 n){e:EX}{s:ScT}{f:Int}{b:Nat}{fr:Bool}{ys:List AV}(he:Xc fr e ys)(hw:e.wf)(hf:e.Fine)(hs:s.good)(h0:He f)(hn:e.sz≤n):
    AC Tryz.prog 234 [mb b s f] [pb b,.agg ys] (TrR (Wa (e.ev s f)) b s):=by
  subst he
  refine AC.of_J Tryz.func234 rfl Tryz.ntmps234 rfl fun w0 A0=>?_
  refine Zs (Qs (.r rfl) rfl fun b3=>Zq rfl (QW.assign .const) (Zn (Zs (Zm rfl (Zq rfl (Qe 0 Ub (.r rfl) rfl (Qo xl rfl) xl) ?_)))))
  refine Qn [.k,.p] X8 rfl Lent.nil (fun _=>(.cons (.r rfl) (.cons (.r rfl) .nil))) (ih e s f b fr hw hf hs h0 hn) (.inl rfl) (fun k8 x8 o8 h8=>?_) (fun k8=>?_)
  rotate_left
  · skip
    refine thenQ.p ?_
    exact⟨_,QI [.k] _,_,rfl,rfl,Qk [.k] _,TrR.er (Sd (UN k8)) k8⟩
  obtain⟨v8,f8,hv8,rfl,rfl⟩:=h8
  refine JL.alloc Yd rfl rfl fun b5=>Qa 0 Ql (.r rfl) rfl (.r rfl) rfl vl rfl rfl (Zn (Zs ?_))
  obtain⟨vk,vb,vt,vks,vis⟩:=v8
  refine Zd UZ rfl (Zl 0 UA rfl (Zq rfl (QW.eql (.r rfl) .const) ?_))
  refine Qn [] WL rfl Lent.nil (fun _=>(.cons (.r rfl) (.cons .const .nil))) (XL _ _) (.inl rfl) (fun k12 x12 o12 h12=>?_) (fun k12=>?_)
  rotate_left
  · skip
    refine thenQ.p ?_
    exact⟨_,QI [.k,.k,.k] _,_,rfl,rfl,Qk [.k,.k,.k] _,TrR.er (c:=81) (Sb hv8 (by show ¬vk=1;simpa using k12)) (by decide)⟩
  obtain⟨rfl,rfl⟩:=h12
  exact Zn (Zs (Zd UE rfl (Zl 0 WQ rfl (Zq rfl (QW.eql (.r rfl) .const) (Za rfl (Zn (J.ret (Zr [.k,.k,.p] (RetEv.one rfl (REv.tmp rfl lr)) rfl (TrR.ok ((F5 hv8 (by show vk=1;simpa using k12)).trans (by rw[V.bits,show(((vb:Nat):Int)==1)=(vb==1) by rw[Bool.eq_iff_iff];simp;omega])))))))))))
def BodyC{β:Type}(n:Nat)(g:FuncId)(ca:List Value)(W:Nat→β→Own→Prop)(stp:β→V→Int→Except Int (Bool×β×Int))(b:Nat)(s:ScT):Prop:=
  ∀(j:Nat) (σ:β) (x:V) (f:Int) (o0:Own),j<32→W j σ o0→x.good→He f→AC Tryz.prog g [mb b {s with it:=x} f,o0] (.agg (x.cs false)::ca.map AV.c)
    (PanR (Xk (stp σ x f)=0) (WT (Xk (stp σ x f))) fun y o=>∃k σ' f' o1,stp σ x f=.ok (k,σ',f')∧He f'∧W (j+1) σ' o1∧y=.c (.bool k)∧o=[mb b {s with it:=x} f',o1])
def ItR{β:Type}(W:Nat→β→Own→Prop)(r:Except Int (β×Int))(b:Nat)(s:ScT):Wl→List Own→Prop:=PanR (Xk r=0) (WT (Xk r)) fun x o=>∃σ f' j o1,r=.ok (σ,f')∧j≤32∧W j σ o1∧He f'∧x=.tup []∧o=[mb b s f',o1]
theorem ItR.er{β:Type}{W:Nat→β→Own→Prop}{r:Except Int (β×Int)}{b:Nat}{s:ScT}{c:Int}(h:r=.error c)(hc:¬c=0):ItR W r b s (.pan (.iface 47 (.int .i64 c))) []:=.inr ⟨by rw[h];exact hc,by rw[h];rfl,rfl⟩
theorem ItR.ok{β:Type}{W:Nat→β→Own→Prop}{r:Except Int (β×Int)}{b:Nat}{s:ScT}{σ:β}{f':Int}{j:Nat}{o1:Own}(h:r=.ok (σ,f'))(hj:j≤32)(hI:W j σ o1)(hf:He f'):ItR W r b s (.ret (.tup [])) [mb b s f',o1]:=.inl ⟨by rw[h];rfl,_,rfl,σ,f',j,o1,h,hj,hI,hf,rfl,rfl⟩
theorem Fd{β:Type}{stp:β→V→Int→Except Int (Bool×β×Int)}{σ:β}{r:ER V}{c:Int}(h:r=.error c):Xe stp σ r=.error c:=by rw[h];rfl
theorem Fc{β:Type}{stp:β→V→Int→Except Int (Bool×β×Int)}{σ:β}{r:ER V}{v:V}{f:Int}(h:r=.ok (v,f))(hk:¬v.kind=4):Xe stp σ r=.error 81:=by rw[h];exact if_pos hk
theorem Gq{β:Type}{stp:β→V→Int→Except Int (Bool×β×Int)}{σ:β}{r:ER V}{v:V}{f:Int}(h:r=.ok (v,f))(hk:v.kind=4):Xe stp σ r=MF stp v.items σ f:=by rw[h];exact if_neg (fun h=>h hk)
theorem HC{e:EX}{s:ScT}{f f':Int}{v:V}(hw:e.wf)(hf:e.Fine)(hs:s.good)(h0:He f)(h:e.ev s f=.ok (v,f')):v.good∧He f':=by
  obtain⟨a1,a2,a3⟩:=UL e s f hf hw hs v f' h
  exact⟨a1,a3,by have:=h0.2;omega⟩
theorem Hl{β:Type}{n:Nat}{g:FuncId}{ca:List Value}{W:Nat→β→Own→Prop}{stp:β→V→Int→Except Int (Bool×β×Int)}(ih:D8 n)(hgo:QJ Tryz.prog g=true){e:EX}{s:ScT}{f:Int}{b:Nat}{fr:Bool}{ys:List AV}(hg:BodyC n g ca W stp b s)(he:Xc fr e ys)(hw:e.wf)(hf:e.Fine)(hs:s.good)(h0:He f)(hn:e.sz≤n){σ0:β}{o0:Own}(hI:W 0 σ0 o0):
    AC Tryz.prog 253 [mb b s f,o0] [pb b,.agg ys,.c (.func (.func g) #[] ca.toArray)] (ItR W (Xe stp σ0 (e.ev s f)) b s):=by
  subst he
  refine AC.of_J Tryz.func253 rfl Tryz.ntmps253 rfl fun w0 A0=>?_
  refine Zs (Qs (.r rfl) rfl fun b4=>Zn (Zs (Zm rfl (Zq rfl (Qe 0 Ub (.r rfl) rfl (Qo xl rfl) xl) ?_))))
  refine Qn [.k,.p] X8 rfl Lent.nil (fun _=>(.cons (.r rfl) (.cons (.r rfl) .nil))) (ih e s f b fr hw hf hs h0 hn) (.inl rfl) (fun k12 x12 o12 h12=>?_) (fun k12=>?_)
  rotate_left
  · skip
    refine thenQ.p ?_
    exact⟨_,QI [.k,.k] _,_,rfl,rfl,Qk [.k,.k] _,ItR.er (Fd (UN k12)) k12⟩
  obtain⟨v12,f12,hv12,rfl,rfl⟩:=h12
  obtain⟨hgv,hfv⟩:=HC hw hf hs h0 hv12
  obtain⟨vk,vb,vt,vks,vis⟩:=v12
  have hlen:vis.length≤32:=hgv.len
  refine JL.alloc Yd rfl rfl fun b6=>Qa 0 Ql (.r rfl) rfl (.r rfl) rfl rfl rfl rfl (Zn (Zs (Zd UZ rfl (Zl 0 UA rfl (Zq rfl (QW.eql (.r rfl) .const) ?_)))))
  refine Qn [] WL rfl Lent.nil (fun _=>(.cons (.r rfl) (.cons .const .nil))) (XL _ _) (.inl rfl) (fun k16 x16 o16 h16=>?_) (fun k16=>?_)
  rotate_left
  · skip
    refine thenQ.p ?_
    exact⟨_,QI [.k,.k,.k,.k] _,_,rfl,rfl,Qk [.k,.k,.k,.k] _,ItR.er (c:=81) (Fc hv12 (by show ¬vk=4;simpa using k16)) (by decide)⟩
  obtain⟨rfl,rfl⟩:=h16
  refine Zn (Zs (Zm rfl (Zu rfl (Zd X9 rfl (Zd Xw rfl (Zq rfl (Qe 2 Ql (.r rfl) rfl (R0 2) vl) (JL.alloc Yd rfl rfl fun b7=>Qa 0 Ql (.r rfl) rfl (.r rfl) rfl vl rfl rfl (Zn ?_))))))))
  refine J.seq (Zs (Zd Uv rfl (Zl 1 WP rfl (Zq rfl (Qh QU (.r rfl) wl) (Zq rfl (QW.move .const) (Zn (J.block (Ua (ι:=Nat×β×Int×V×Own) [0,2,7,23,24] (fun⟨j,σ,g1,it,o⟩=>[(25,.c (.int .i64 (j:Int)))]) (fun⟨j,σ,g1,it,o⟩ oo=>List.set (List.set oo 3 (mb b {s with it:=it} g1)) 4 (o)) (fun⟨j,σ,g1,it,o⟩=>j≤vis.length∧MF stp vis σ0 f12=MF stp (vis.drop j) σ g1∧W j σ o∧He g1) (fun⟨j,σ,g1,it,o⟩=>vis.length-j) ⟨0,σ0,f12,s.it,o0⟩ (⟨Nat.zero_le _,rfl,hI,hfv⟩) (QQ (.cons rfl lr (.cons rfl lr (.cons rfl lr (.cons rfl lr (.cons rfl lr (.cons rfl lr .nil)))))) (Reown.refl _) (fun _ h=>by first|exact h|simp[h])) ?_))))))))
  intro⟨j,σ,f,it,o⟩ ⟨hj,hit,hIj,hfj⟩
  refine J.conv (by(try simp only[nl,Qj,QA,QC,Qy,QZ,AV.cellsOf,Qc,Qd,Nat.reduceAdd]);rfl) ?_
  refine Zs (Zq rfl (QW.lss (.r rfl) (.r rfl)) (Zn (J.seq ?_)))
  refine J.cond (.r rfl) (fun c1=>?_) (fun c1=>?_)
  · skip
    have hlt:j<vis.length:=by simpa[V.css_length]using c1
    have hj32:j<32:=by omega
    have hgx:vis[j].good:=hgv.kid (List.getElem_mem hlt)
    refine Zk (J.seq (J.block (Zs (Zq rfl (Qi QU Ql rfl (.r rfl) (.r rfl) rfl (by exact V.css_getE _ hlt)) ?_))))
    refine Zq rfl (Qm Ql (.r rfl) (QF vl rfl) vl) (JL.alloc Yd rfl rfl fun b9=>Qa 0 Ql (.r rfl) rfl (.r rfl) rfl vl rfl rfl (Zn (Zs (Zm rfl (Zq rfl (Qe 0 Ql (.r rfl) rfl (Qo vl rfl) vl) (Zu rfl (Zd X9 rfl (Zd Xw rfl ?_))))))))
    refine JL.store_box 4 Ql (.r rfl) rfl (.r rfl) rfl vl (by rw[Gn];rfl) KA rfl ?_
    refine Zn (Zs (Zm rfl (Zq rfl (Qe 0 Ql (.r rfl) rfl (Qo vl rfl) vl) ?_)))
    refine FM [.k,.k,.k,.k,.p,.p] hgo rfl (.r rfl) Lent.nil (fun _=>(.cons (.r rfl) .nil)) rfl (hg j σ vis[j] f o hj32 hIj hgx hfj) (.inl rfl) (fun k36 x36 o36 h36=>?_) (fun k36=>?_)
    rotate_left
    · skip
      refine thenQ.p (blkQ.p (thenQ.p (thenQ.p (blkQ.p (thenQ.p ?_)))))
      exact⟨_,QI [.k,.k,.k,.k] _,_,rfl,rfl,Qk [.k,.k,.k,.k] _,ItR.er ((Gq hv12 (by show vk=4;simpa using k16)).trans (hit.trans (SU hlt (UN k36)))) k36⟩
    obtain⟨q36,σ36,f36,o1_,hs36,hf36,hI36,rfl,rfl⟩:=h36
    rw[itE_ok hlt hs36]at hit
    refine Zq rfl (QW.not (.r rfl)) (Zn ?_)
    refine J.cond (.r rfl) (fun c2=>?_) (fun c2=>?_)
    · skip
      obtain rfl:q36=false:=by simpa using c2
      rw[if_neg (by decide)]at hit
      refine J.exit (FA rfl (Qz (Qz (QY (thenQ.n (Qg (Zm rfl (Zq rfl (Qe 1 Ql (.r rfl) rfl (Qo vl rfl) vl) (Zu rfl ?_)))))))))
      refine Zd X9 rfl (Zd Xw rfl (JL.store_box 4 Ql (.r rfl) rfl (.r rfl) rfl vl (by rw[Gn];rfl) KA rfl ?_))
      exact JL.nil (Zr [.k,.k,.k,.k,.p,.p] (RetEv.none rfl) rfl (ItR.ok ((Gq hv12 (by show vk=4;simpa using k16)).trans hit) (Nat.le_trans hlt hlen) hI36 hf36))
    obtain rfl:q36=true:=by simpa using c2
    rw[if_pos rfl]at hit
    refine J.skip (blkQ.n (thenQ.n (Qg (Zq rfl (QW.add (.r rfl) .const (Yy (by omega))) (Zm rfl (Zn ?_))))))
    exact⟨⟨j+1,σ36,f36,vis[j],o1_⟩,⟨hlt,hit,hI36,hf36⟩,by show vis.length-(j+1)<vis.length-j;omega,QQ (.cons rfl lr (.cons rfl lr (.cons rfl lr (.cons rfl lr (.cons rfl lr (.cons rfl lr .nil)))))) (Q3 1 _ rfl) (fun _ h=>by first|exact h|simp[h])⟩
  have hge:vis.length≤j:=by simpa[V.css_length]using c1
  rw[List.drop_of_length_le hge,MF]at hit
  refine J.exit (Qz (Qz (QY (thenQ.n (Qg (Zm rfl (Zq rfl (Qe 0 Ql (.r rfl) rfl (Qo vl rfl) vl) (Zu rfl (Zd X9 rfl ?_)))))))))
  refine Zd Xw rfl (JL.store_box 3 Ql (.r rfl) rfl (.r rfl) rfl vl (by rw[Gn];rfl) KA rfl ?_)
  exact JL.nil (Zr [.k,.k,.k,.p,.p] (RetEv.none rfl) rfl (ItR.ok ((Gq hv12 (by show vk=4;simpa using k16)).trans hit) (Nat.le_trans hj hlen) hIj hfj))

end
section
/- Walks: what the machine does with each item. -/
set_option maxRecDepth 10000
set_option maxHeartbeats 4000000
def outC(v:Value):List AV:=[.c (.int .i64 4),.c (.int .u64 0),.c (Q4 []),.c (.slice none 0 0),.c v]
def MX(b:Nat):Value:=.pointer (some ⟨b,0,none⟩)
def Cu(b5 b2 b6 b:Nat)(ye:List AV)(j:Nat)(ys:List V)(o:Own):Prop:=∃v,o=.grp [.box b5 (outC v),.arr v eV (V.css false ys),.box b2 [pb b],.box b6 ye]∧ys.length≤j∧∀x∈ys,x.good
def GB(y:EX)(s:ScT)(ys:List V)(x:V)(f:Int):Except Int (Bool×List V×Int):=match y.ev {s with it:=x} f with
  |.error e=>.error e
  |.ok (v,f')=>.ok (true,ys++[v],f')
def GC(y:EX)(s:ScT)(ys:List V)(x:V)(f:Int):Except Int (Bool×List V×Int):=match Wa (y.ev {s with it:=x} f)with
  |.error e=>.error e
  |.ok (t,f')=>.ok (true,if t then ys++[x]else ys,f')
theorem Bb{y:EX}{s:ScT}{ys:List V}{x:V}{f c:Int}(h:y.ev {s with it:=x} f=.error c):GB y s ys x f=.error c:=by unfold GB;rw[h]
theorem RJ{y:EX}{s:ScT}{ys:List V}{x v:V}{f f':Int}(h:y.ev {s with it:=x} f=.ok (v,f')):GB y s ys x f=.ok (true,ys++[v],f'):=by unfold GB;rw[h]
theorem Bd{y:EX}{s:ScT}{ys:List V}{x:V}{f c:Int}(h:Wa (y.ev {s with it:=x} f)=.error c):GC y s ys x f=.error c:=by unfold GC;rw[h]
theorem LD{y:EX}{s:ScT}{ys:List V}{x:V}{f f':Int}{t:Bool}(h:Wa (y.ev {s with it:=x} f)=.ok (t,f')):GC y s ys x f=.ok (true,if t then ys++[x]else ys,f'):=by unfold GC;rw[h]
theorem Lu(ys:List V)(v:V)(z:List AV):(V.css false ys++[z]).set ys.length (v.cs false)=V.css false (ys++[v]):=by
  have h:∀(l:List V),V.css false (l++[v])=V.css false l++[v.cs false]:=fun l=>by
    induction l with
    |nil=>rfl
    |cons x r ih=>rw[List.cons_append,V.css,V.css,ih];rfl
  rw[h,← V.css_length false ys,List.set_append_right _ _ (Nat.le_refl _),Nat.sub_self];rfl
theorem GZ(ys:List V)(z:List AV):(V.css false ys++[z])[ys.length]? =some z:=by
  rw[← V.css_length false ys,List.getElem?_append_right (Nat.le_refl _),Nat.sub_self];rfl
def BodR{β:Type}(W:Nat→β→Own→Prop)(r:Except Int (Bool×β×Int))(j b:Nat)(s:ScT):Wl→List Own→Prop:=PanR (Xk r=0) (WT (Xk r)) fun y o=>∃k σ' f' o1,r=.ok (k,σ',f')∧He f'∧W (j+1) σ' o1∧y=.c (.bool k)∧o=[mb b s f',o1]
theorem BodR.er{β:Type}{W:Nat→β→Own→Prop}{r:Except Int (Bool×β×Int)}{j b:Nat}{s:ScT}{c:Int}(h:r=.error c)(hc:¬c=0):BodR W r j b s (.pan (.iface 47 (.int .i64 c))) []:=.inr ⟨by rw[h];exact hc,by rw[h];rfl,rfl⟩
theorem BodR.ok{β:Type}{W:Nat→β→Own→Prop}{r:Except Int (Bool×β×Int)}{j b:Nat}{s:ScT}{k:Bool}{σ:β}{f':Int}{o1:Own}(h:r=.ok (k,σ,f'))(hf:He f')(hW:W (j+1) σ o1):BodR W r j b s (.ret (.c (.bool k))) [mb b s f',o1]:=.inl ⟨by rw[h];rfl,_,rfl,k,σ,f',o1,h,hf,hW,rfl,rfl⟩
theorem BA{n:Nat}(ih:D8 n){y:EX}{s:ScT}{fr:Bool}(hw:y.wf)(hf:y.Fine)(hs:s.good)(hn:y.sz≤n)(b b5 b2 b6:Nat){j:Nat}{ys:List V}{x:V}{f:Int}{o0:Own}(hj:j<32)(hW:Cu b5 b2 b6 b (y.cs fr) j ys o0)(hx:x.good)(h0:He f):
    AC Tryz.prog 254 [mb b {s with it:=x} f,o0] [.agg (x.cs false),.c (MX b5),.c (MX b2),.c (MX b6)] (BodR (Cu b5 b2 b6 b (y.cs fr)) (GB y s ys x f) j b {s with it:=x}):=by
  obtain⟨v,rfl,hl,hgd⟩:=hW
  refine AC.of_J Tryz.func254 rfl Tryz.ntmps254 rfl fun w0 A0=>?_
  refine J.seq (J.reown (Reown.cons (WI _ _)) (Qg (Qs (.r rfl) rfl fun b4=>Zq rfl (QW.assign .const) (Zn (J.seq (QV mixed (Zf 0 [] rfl (fun _=>Qf Uv (.r rfl) rfl) (Zo 1 2 [6] rfl (fun _ ho_=>Qb 2 WP (.r rfl) ho_ rfl) ?_))))))))
  refine Zo 2 4 [] rfl (fun _ ho_=>Qb 4 MT (.r rfl) ho_ rfl) (Zo 3 5 [] rfl (fun _ ho_=>Qe 5 Ub (.r rfl) ho_ (Qo xl rfl) xl) (Zo 5 3 [7] rfl (fun _ ho_=>W7 3 QU (.r rfl) ho_) (Zf 6 [] rfl (fun _=>QW.buildSlice (idx:=[0]) (xs:=[[.c (.int .i64 0),.c (.int .u64 0),.c (Q4 []),.c (.slice none 0 0),.c (.slice none 0 0)]]) QU GX Yd rfl (.cons (.constA rfl) .nil) rfl rfl rfl rfl rfl rfl rfl rfl rfl) (JX.one 4 [false,false,true,true,false,false] rfl (by kernel_rfl) (by kernel_rfl) rfl rfl (by kernel_rfl) rfl fun bs4_ pe_ ex_=>?_))))
  refine JL.conv (by(try simp only[Ug,Uo,Q8,Q0,Flt.val,Flt.bx,nx,nl,Qj,QA,QC,Qy,QZ,AV.cellsOf,Qc,Qd,Nat.reduceAdd]);rfl) ?_
  refine Qn [.k,.p] X8 rfl Lent.nil (fun _=>(.cons (.r rfl) (.cons (.r rfl) .nil))) (ih y {s with it:=x} f b fr hw hf ⟨hs.st,hs.ev,hx⟩ h0 hn) (.inl rfl) (fun k10 x10 o10 h10=>?_) (fun k10=>?_)
  rotate_left
  · skip
    refine thenQ.p (thenQ.p ?_)
    exact⟨_,QI [.k,.k,.k,.k,.k] _,_,rfl,rfl,Qk [.k,.k,.k,.k,.k] _,BodR.er (Bb (UN k10)) k10⟩
  obtain⟨v10,f10,hv10,rfl,rfl⟩:=h10
  refine JL.nil ?_
  refine thenQ.n ⟨[_],_,rfl,rfl,rfl,rfl,rfl,U5 6 rfl rfl,⟨rfl,rfl⟩,⟨trivial,⟨rfl,⟨rfl,⟨trivial,trivial⟩⟩⟩⟩,?_⟩
  refine JX.conv (S':=[4,3,2]) rfl (by(try simp only[Q0]);rfl) (by(try simp only[Ug,Uo,Q8,Q0,Flt.val,Flt.bx,nx,nl,Qj,QA,QC,Qy,QZ,AV.cellsOf,Qc,Qd,Nat.reduceAdd]);rfl) ?_
  refine JX.one 7 [true,true,true,true] rfl (by kernel_rfl) (by kernel_rfl) rfl rfl (by kernel_rfl) rfl fun bs7_ pe_ ex_=>?_
  refine JL.conv (by(try simp only[Ug,Uo,Q8,Q0,Flt.val,Flt.bx,nx,nl,Qj,QA,QC,Qy,QZ,AV.cellsOf,Qc,Qd,Nat.reduceAdd]);rfl) ?_
  obtain⟨hgv,hfv⟩:=HC (s:={s with it:=x}) hw hf ⟨hs.st,hs.ev,hx⟩ h0 hv10
  refine JL.append 3 QU GX rfl (.r rfl) rfl (U8 QU (.r rfl)) (by rw[V.css_length];show(_+1)*80≤_;unfold Qr;omega) rfl fun v13=>?_
  refine JL.nil ?_
  refine thenQ.n ⟨[_],_,rfl,rfl,rfl,rfl,rfl,QM 6 rfl,⟨rfl,rfl⟩,trivial,?_⟩
  refine JX.conv (S':=[7,6,5,1,0,4,3,2]) rfl (by(try simp only[Q0]);rfl) (by(try simp only[Ug,Uo,Q8,Q0,Flt.val,Flt.bx,nx,nl,Qj,QA,QC,Qy,QZ,AV.cellsOf,Qc,Qd,Nat.reduceAdd]);rfl) ?_
  refine Zo 8 3 [13,11] rfl (fun _ ho_=>Y0 3 QU Ql rfl (.r rfl) ho_ (.r rfl) rfl (by rw[List.length_append,V.css_length];simp) rfl) ?_
  refine Zf 10 [] rfl (fun _=>Qf Uv (.r rfl) rfl) ?_
  refine BX 9 11 (by kernel_rfl) (by kernel_rfl) ?_ ?_
  · skip
    refine CandX.mk 9 [false,true] rfl rfl rfl (by kernel_rfl) rfl fun bs9_ pe_ ex_=>?_
    refine JL.conv (by(try simp only[Ug,Uo,Q8,Q0,Flt.val,Flt.bx,nx,nl,Qj,QA,QC,Qy,QZ,AV.cellsOf,Qc,Qd,Nat.reduceAdd]);rfl) ?_
    refine YK (o:=0) 3 Ql (.r rfl) rfl (GZ _ _) (by rw[V.css_length];rfl) (.r rfl) rfl vl rfl ((congrArg (List.set _ _) (U4 (by exact vl))).trans (Lu _ _ _)) rfl ?_
    refine JL.nil ?_
    refine thenQ.n ⟨[],_,rfl,rfl,rfl,rfl,rfl,QM 6 rfl,trivial,⟨trivial,trivial⟩,?_⟩
    refine JX.conv (S':=[9,8,7,6,5,1,0,4,3,2]) rfl (by(try simp only[Q0]);rfl) (by(try simp only[Ug,Uo,Q8,Q0,Flt.val,Flt.bx,nx,nl,Qj,QA,QC,Qy,QZ,AV.cellsOf,Qc,Qd,Nat.reduceAdd]);rfl) ?_
    refine JX.one 11 [true] rfl (by kernel_rfl) (by kernel_rfl) rfl rfl (by kernel_rfl) rfl fun bs11_ pe_ ex_=>?_
    refine JL.conv (by(try simp only[Ug,Uo,Q8,Q0,Flt.val,Flt.bx,nx,nl,Qj,QA,QC,Qy,QZ,AV.cellsOf,Qc,Qd,Nat.reduceAdd]);rfl) ?_
    refine JL.isSlice 3 rfl fun hs1=>JL.store_box 2 WP (.r rfl) rfl (.r rfl) (by assumption) rfl rfl rfl rfl ?_
    refine JL.nil ?_
    refine thenQ.n ⟨[],_,rfl,rfl,rfl,rfl,rfl,QM 6 rfl,trivial,trivial,?_⟩
    refine JX.conv (S':=[11,10,9,8,7,6,5,1,0,4,3,2]) rfl (by(try simp only[Q0]);rfl) (by(try simp only[Ug,Uo,Q8,Q0,Flt.val,Flt.bx,nx,nl,Qj,QA,QC,Qy,QZ,AV.cellsOf,Qc,Qd,Nat.reduceAdd]);rfl) ?_
    refine JX.fin (by kernel_rfl) (by kernel_rfl) fun bs_=>?_
    refine QX.conv (by(try simp only[Ug,Uo,Q8,Q0,Flt.val,Flt.bx,nx,nl,Qj,QA,QC,Qy,QZ,AV.cellsOf,Qc,Qd,Nat.reduceAdd]);rfl) ?_
    exact thenQ.n (J.seq (J.reown (Reown.cons (Reown.cons (W4 [_,_,_,_] []))) (Qg (Zq rfl (QW.assign .const) (Zn (J.ret (Zr [.k,.p,.p] (RetEv.one rfl (REv.tmp rfl lr)) rfl (BodR.ok (RJ hv10) hfv ⟨_,rfl,by simp;omega,fun z hz=>(List.mem_append.1 hz).elim (hgd z) (fun h=>by rw[List.mem_singleton.1 h];exact hgv)⟩))))))))
  · skip
    refine CandX.mk 11 [true,false] rfl rfl rfl (by kernel_rfl) rfl fun bs11_ pe_ ex_=>?_
    refine JL.conv (by(try simp only[Ug,Uo,Q8,Q0,Flt.val,Flt.bx,nx,nl,Qj,QA,QC,Qy,QZ,AV.cellsOf,Qc,Qd,Nat.reduceAdd]);rfl) ?_
    refine JL.isSlice 3 rfl fun hs1=>JL.store_box 2 WP (.r rfl) rfl (.r rfl) (by assumption) rfl rfl rfl rfl ?_
    refine JL.nil ?_
    refine thenQ.n ⟨[],_,rfl,rfl,rfl,rfl,rfl,QM 6 rfl,trivial,⟨rfl,trivial⟩,?_⟩
    refine JX.conv (S':=[11,10,7,6,5,1,0,4,3,2]) rfl (by(try simp only[Q0]);rfl) (by(try simp only[Ug,Uo,Q8,Q0,Flt.val,Flt.bx,nx,nl,Qj,QA,QC,Qy,QZ,AV.cellsOf,Qc,Qd,Nat.reduceAdd]);rfl) ?_
    refine JX.one 9 [true] rfl (by kernel_rfl) (by kernel_rfl) rfl rfl (by kernel_rfl) rfl fun bs9_ pe_ ex_=>?_
    refine JL.conv (by(try simp only[Ug,Uo,Q8,Q0,Flt.val,Flt.bx,nx,nl,Qj,QA,QC,Qy,QZ,AV.cellsOf,Qc,Qd,Nat.reduceAdd]);rfl) ?_
    refine YK (o:=0) 3 Ql (.r rfl) rfl (GZ _ _) (by rw[V.css_length];rfl) (.r rfl) rfl vl rfl ((congrArg (List.set _ _) (U4 (by exact vl))).trans (Lu _ _ _)) rfl ?_
    refine JL.nil ?_
    refine thenQ.n ⟨[],_,rfl,rfl,rfl,rfl,rfl,QM 6 rfl,trivial,trivial,?_⟩
    refine JX.conv (S':=[9,8,11,10,7,6,5,1,0,4,3,2]) rfl (by(try simp only[Q0]);rfl) (by(try simp only[Ug,Uo,Q8,Q0,Flt.val,Flt.bx,nx,nl,Qj,QA,QC,Qy,QZ,AV.cellsOf,Qc,Qd,Nat.reduceAdd]);rfl) ?_
    refine JX.fin (by kernel_rfl) (by kernel_rfl) fun bs_=>?_
    refine QX.conv (by(try simp only[Ug,Uo,Q8,Q0,Flt.val,Flt.bx,nx,nl,Qj,QA,QC,Qy,QZ,AV.cellsOf,Qc,Qd,Nat.reduceAdd]);rfl) ?_
    exact thenQ.n (J.seq (J.reown (Reown.cons (Reown.cons (W4 [_,_,_,_] []))) (Qg (Zq rfl (QW.assign .const) (Zn (J.ret (Zr [.k,.p,.p] (RetEv.one rfl (REv.tmp rfl lr)) rfl (BodR.ok (RJ hv10) hfv ⟨_,rfl,by simp;omega,fun z hz=>(List.mem_append.1 hz).elim (hgd z) (fun h=>by rw[List.mem_singleton.1 h];exact hgv)⟩))))))))
theorem Kp{e:EX}{s:ScT}{f f':Int}{t:Bool}(hw:e.wf)(hf:e.Fine)(hs:s.good)(h0:He f)(h:Wa (e.ev s f)=.ok (t,f')):He f':=by
  obtain⟨v,h1,_,_⟩:=KN h
  exact(HC hw hf hs h0 h1).2
def wFnd(b7 b5 b2 b6 b:Nat)(ye:List AV)(j:Nat)(p:Bool×V)(o:Own):Prop:=∃zs,o=.grp [.box b7 [.c (.bool p.1)],.box b5 zs,.box b2 [pb b],.box b6 ye]∧zs.length=5∧(p.1=true→zs=p.2.cs false∧p.2.good)
def Kf(y:EX)(s:ScT)(p:Bool×V)(x:V)(f:Int):Except Int (Bool×(Bool×V)×Int):=match Wa (y.ev {s with it:=x} f)with
  |.error e=>.error e
  |.ok (t,f')=>.ok (!t,(t,if t then x else p.2),f')
theorem Bc{y:EX}{s:ScT}{p:Bool×V}{x:V}{f c:Int}(h:Wa (y.ev {s with it:=x} f)=.error c):Kf y s p x f=.error c:=by unfold Kf;rw[h]
theorem RK{y:EX}{s:ScT}{p:Bool×V}{x:V}{f f':Int}{t:Bool}(h:Wa (y.ev {s with it:=x} f)=.ok (t,f')):Kf y s p x f=.ok (!t,(t,if t then x else p.2),f'):=by unfold Kf;rw[h]
theorem Bz{n:Nat}(ih:D8 n){y:EX}{s:ScT}{fr:Bool}(hw:y.wf)(hf:y.Fine)(hs:s.good)(hn:y.sz≤n)(b b5 b2 b6:Nat){j:Nat}{ys:List V}{x:V}{f:Int}{o0:Own}(hj:j<32)(hW:Cu b5 b2 b6 b (y.cs fr) j ys o0)(hx:x.good)(h0:He f):
    AC Tryz.prog 255 [mb b {s with it:=x} f,o0] [.agg (x.cs false),.c (MX b2),.c (MX b6),.c (MX b5)] (BodR (Cu b5 b2 b6 b (y.cs fr)) (GC y s ys x f) j b {s with it:=x}):=by
  obtain⟨v,rfl,hl,hgd⟩:=hW
  refine AC.of_J Tryz.func255 rfl Tryz.ntmps255 rfl fun w0 A0=>?_
  refine J.seq (J.reown (Reown.cons (WI _ _)) (Qg (Qs (.r rfl) rfl fun b4=>Zq rfl (QW.assign .const) (Zn (J.seq (Zs (Zl 4 MT rfl (Zq rfl (Qe 5 Ub (.r rfl) rfl (Qo xl rfl) xl) ?_))))))))
  refine Qn [.k,.p] X6 rfl Lent.nil (fun _=>(.cons (.r rfl) (.cons (.r rfl) .nil))) (Yt (s:={s with it:=x}) ih Xc.self hw hf ⟨hs.st,hs.ev,hx⟩ h0 hn) (.inl rfl) (fun k8 x8 o8 h8=>?_) (fun k8=>?_)
  rotate_left
  · skip
    refine thenQ.p (thenQ.p ?_)
    exact⟨_,QI [.k,.k,.k,.k,.k] _,_,rfl,rfl,Qk [.k,.k,.k,.k,.k] _,BodR.er (Bd (UN k8)) k8⟩
  obtain⟨q8,f8,hq8,rfl,rfl⟩:=h8
  refine Zn ?_
  refine J.cond (.r rfl) (fun c1=>?_) (fun c1=>?_)
  · skip
    obtain rfl:q8=true:=c1
    have hfv:=Kp (s:={s with it:=x}) hw hf ⟨hs.st,hs.ev,hx⟩ h0 hq8
    refine QV mixed (Zf 0 [] rfl (fun _=>Qf Uv (.r rfl) rfl) (Zo 1 2 [9] rfl (fun _ ho_=>Qb 2 WP (.r rfl) ho_ rfl) (Zo 2 0 [] rfl (fun _ ho_=>Qe 0 Ql (.r rfl) ho_ (Qo vl rfl) vl) (Zo 3 3 [10] rfl (fun _ ho_=>W7 3 QU (.r rfl) ho_) (Zf 4 [] rfl (fun _=>QW.buildSlice (idx:=[0]) (xs:=[[.c (.int .i64 0),.c (.int .u64 0),.c (Q4 []),.c (.slice none 0 0),.c (.slice none 0 0)]]) QU GX Yd rfl (.cons (.constA rfl) .nil) rfl rfl rfl rfl rfl rfl rfl rfl rfl) (JX.one 5 [true,true,true,true,true] rfl (by kernel_rfl) (by kernel_rfl) rfl rfl (by kernel_rfl) rfl fun bs5_ pe_ ex_=>?_))))))
    refine JL.conv (by(try simp only[Ug,Uo,Q8,Q0,Flt.val,Flt.bx,nx,nl,Qj,QA,QC,Qy,QZ,AV.cellsOf,Qc,Qd,Nat.reduceAdd]);rfl) ?_
    refine JL.append 3 QU GX rfl (.r rfl) rfl (U8 QU (.r rfl)) (by rw[V.css_length];show(_+1)*80≤_;unfold Qr;omega) rfl fun v14=>?_
    refine JL.nil ?_
    refine thenQ.n ⟨[_],_,rfl,rfl,rfl,rfl,rfl,QM 6 rfl,⟨rfl,rfl⟩,trivial,?_⟩
    refine JX.conv (S':=[5,4,3,2,1,0]) rfl (by(try simp only[Q0]);rfl) (by(try simp only[Ug,Uo,Q8,Q0,Flt.val,Flt.bx,nx,nl,Qj,QA,QC,Qy,QZ,AV.cellsOf,Qc,Qd,Nat.reduceAdd]);rfl) ?_
    refine Zo 6 3 [14,12] rfl (fun _ ho_=>Y0 3 QU Ql rfl (.r rfl) ho_ (.r rfl) rfl (by rw[List.length_append,V.css_length];simp) rfl) ?_
    refine Zf 8 [] rfl (fun _=>Qf Uv (.r rfl) rfl) ?_
    refine BX 7 9 (by kernel_rfl) (by kernel_rfl) ?_ ?_
    · skip
      refine CandX.mk 7 [false,true] rfl rfl rfl (by kernel_rfl) rfl fun bs7_ pe_ ex_=>?_
      refine JL.conv (by(try simp only[Ug,Uo,Q8,Q0,Flt.val,Flt.bx,nx,nl,Qj,QA,QC,Qy,QZ,AV.cellsOf,Qc,Qd,Nat.reduceAdd]);rfl) ?_
      refine YK (o:=0) 3 Ql (.r rfl) rfl (GZ _ _) (by rw[V.css_length];rfl) (.r rfl) rfl vl rfl ((congrArg (List.set _ _) (U4 (by exact vl))).trans (Lu _ _ _)) rfl ?_
      refine JL.nil ?_
      refine thenQ.n ⟨[],_,rfl,rfl,rfl,rfl,rfl,QM 6 rfl,trivial,⟨trivial,trivial⟩,?_⟩
      refine JX.conv (S':=[7,6,5,4,3,2,1,0]) rfl (by(try simp only[Q0]);rfl) (by(try simp only[Ug,Uo,Q8,Q0,Flt.val,Flt.bx,nx,nl,Qj,QA,QC,Qy,QZ,AV.cellsOf,Qc,Qd,Nat.reduceAdd]);rfl) ?_
      refine JX.one 9 [true] rfl (by kernel_rfl) (by kernel_rfl) rfl rfl (by kernel_rfl) rfl fun bs9_ pe_ ex_=>?_
      refine JL.conv (by(try simp only[Ug,Uo,Q8,Q0,Flt.val,Flt.bx,nx,nl,Qj,QA,QC,Qy,QZ,AV.cellsOf,Qc,Qd,Nat.reduceAdd]);rfl) ?_
      refine JL.isSlice 3 rfl fun hs1=>JL.store_box 2 WP (.r rfl) rfl (.r rfl) (by assumption) rfl rfl rfl rfl ?_
      refine JL.nil ?_
      refine thenQ.n ⟨[],_,rfl,rfl,rfl,rfl,rfl,QM 6 rfl,trivial,trivial,?_⟩
      refine JX.conv (S':=[9,8,7,6,5,4,3,2,1,0]) rfl (by(try simp only[Q0]);rfl) (by(try simp only[Ug,Uo,Q8,Q0,Flt.val,Flt.bx,nx,nl,Qj,QA,QC,Qy,QZ,AV.cellsOf,Qc,Qd,Nat.reduceAdd]);rfl) ?_
      refine JX.fin (by kernel_rfl) (by kernel_rfl) fun bs_=>?_
      refine QX.conv (by(try simp only[Ug,Uo,Q8,Q0,Flt.val,Flt.bx,nx,nl,Qj,QA,QC,Qy,QZ,AV.cellsOf,Qc,Qd,Nat.reduceAdd]);rfl) ?_
      exact thenQ.n (J.seq (J.reown (Reown.cons (Reown.cons (W4 [_,_,_,_] []))) (Qg (Zq rfl (QW.assign .const) (Zn (J.ret (Zr [.k,.p,.p] (RetEv.one rfl (REv.tmp rfl lr)) rfl (BodR.ok (σ:=ys++[x]) (LD hq8) hfv ⟨_,rfl,by simp;omega,fun z hz=>(List.mem_append.1 hz).elim (hgd z) (fun h=>by rw[List.mem_singleton.1 h];exact hx)⟩))))))))
    · skip
      refine CandX.mk 9 [true,false] rfl rfl rfl (by kernel_rfl) rfl fun bs9_ pe_ ex_=>?_
      refine JL.conv (by(try simp only[Ug,Uo,Q8,Q0,Flt.val,Flt.bx,nx,nl,Qj,QA,QC,Qy,QZ,AV.cellsOf,Qc,Qd,Nat.reduceAdd]);rfl) ?_
      refine JL.isSlice 3 rfl fun hs1=>JL.store_box 2 WP (.r rfl) rfl (.r rfl) (by assumption) rfl rfl rfl rfl ?_
      refine JL.nil ?_
      refine thenQ.n ⟨[],_,rfl,rfl,rfl,rfl,rfl,QM 6 rfl,trivial,⟨rfl,trivial⟩,?_⟩
      refine JX.conv (S':=[9,8,5,4,3,2,1,0]) rfl (by(try simp only[Q0]);rfl) (by(try simp only[Ug,Uo,Q8,Q0,Flt.val,Flt.bx,nx,nl,Qj,QA,QC,Qy,QZ,AV.cellsOf,Qc,Qd,Nat.reduceAdd]);rfl) ?_
      refine JX.one 7 [true] rfl (by kernel_rfl) (by kernel_rfl) rfl rfl (by kernel_rfl) rfl fun bs7_ pe_ ex_=>?_
      refine JL.conv (by(try simp only[Ug,Uo,Q8,Q0,Flt.val,Flt.bx,nx,nl,Qj,QA,QC,Qy,QZ,AV.cellsOf,Qc,Qd,Nat.reduceAdd]);rfl) ?_
      refine YK (o:=0) 3 Ql (.r rfl) rfl (GZ _ _) (by rw[V.css_length];rfl) (.r rfl) rfl vl rfl ((congrArg (List.set _ _) (U4 (by exact vl))).trans (Lu _ _ _)) rfl ?_
      refine JL.nil ?_
      refine thenQ.n ⟨[],_,rfl,rfl,rfl,rfl,rfl,QM 6 rfl,trivial,trivial,?_⟩
      refine JX.conv (S':=[7,6,9,8,5,4,3,2,1,0]) rfl (by(try simp only[Q0]);rfl) (by(try simp only[Ug,Uo,Q8,Q0,Flt.val,Flt.bx,nx,nl,Qj,QA,QC,Qy,QZ,AV.cellsOf,Qc,Qd,Nat.reduceAdd]);rfl) ?_
      refine JX.fin (by kernel_rfl) (by kernel_rfl) fun bs_=>?_
      refine QX.conv (by(try simp only[Ug,Uo,Q8,Q0,Flt.val,Flt.bx,nx,nl,Qj,QA,QC,Qy,QZ,AV.cellsOf,Qc,Qd,Nat.reduceAdd]);rfl) ?_
      exact thenQ.n (J.seq (J.reown (Reown.cons (Reown.cons (W4 [_,_,_,_] []))) (Qg (Zq rfl (QW.assign .const) (Zn (J.ret (Zr [.k,.p,.p] (RetEv.one rfl (REv.tmp rfl lr)) rfl (BodR.ok (σ:=ys++[x]) (LD hq8) hfv ⟨_,rfl,by simp;omega,fun z hz=>(List.mem_append.1 hz).elim (hgd z) (fun h=>by rw[List.mem_singleton.1 h];exact hx)⟩))))))))
  obtain rfl:q8=false:=c1
  have hfv:=Kp (s:={s with it:=x}) hw hf ⟨hs.st,hs.ev,hx⟩ h0 hq8
  exact Zk (J.seq (J.reown (Reown.cons (Reown.cons (W4 [_,_,_,_] []))) (Qg (Zq rfl (QW.assign .const) (Zn (J.ret (Zr [.k,.p,.p] (RetEv.one rfl (REv.tmp rfl lr)) rfl (BodR.ok (σ:=ys) (LD hq8) hfv ⟨_,rfl,by omega,hgd⟩))))))))
theorem By{n:Nat}(ih:D8 n){y:EX}{s:ScT}{fr:Bool}(hw:y.wf)(hf:y.Fine)(hs:s.good)(hn:y.sz≤n)(b b5 b2 b6 b7:Nat){j:Nat}{p:Bool×V}{x:V}{f:Int}{o0:Own}(hj:j<32)(hW:wFnd b7 b5 b2 b6 b (y.cs fr) j p o0)(hx:x.good)(h0:He f):
    AC Tryz.prog 256 [mb b {s with it:=x} f,o0] [.agg (x.cs false),.c (MX b2),.c (MX b6),.c (MX b7),.c (MX b5)] (BodR (wFnd b7 b5 b2 b6 b (y.cs fr)) (Kf y s p x f) j b {s with it:=x}):=by
  obtain⟨zs,rfl,hz5,hzs⟩:=hW
  refine AC.of_J Tryz.func256 rfl Tryz.ntmps256 rfl fun w0 A0=>?_
  refine J.seq (J.reown (Reown.cons (WI _ _)) (Qg (Qs (.r rfl) rfl fun b5=>Zq rfl (QW.assign .const) (Zn (J.seq (Zs (Zl 4 MT rfl (Zq rfl (Qe 5 Ub (.r rfl) rfl (Qo xl rfl) xl) ?_))))))))
  refine Qn [.k,.p] X6 rfl Lent.nil (fun _=>(.cons (.r rfl) (.cons (.r rfl) .nil))) (Yt (s:={s with it:=x}) ih Xc.self hw hf ⟨hs.st,hs.ev,hx⟩ h0 hn) (.inl rfl) (fun k9 x9 o9 h9=>?_) (fun k9=>?_)
  rotate_left
  · skip
    refine thenQ.p (thenQ.p ?_)
    exact⟨_,QI [.k,.k,.k,.k,.k] _,_,rfl,rfl,Qk [.k,.k,.k,.k,.k] _,BodR.er (Bc (UN k9)) k9⟩
  obtain⟨q9,f9,hq9,rfl,rfl⟩:=h9
  refine JL.store_box 2 P1 (.r rfl) rfl (.r rfl) rfl rfl rfl rfl rfl (Zn (Zs (Zl 2 P1 rfl (Zn ?_))))
  refine J.cond (.r rfl) (fun c1=>?_) (fun c1=>?_)
  · skip
    obtain rfl:q9=true:=c1
    have hfv:=Kp (s:={s with it:=x}) hw hf ⟨hs.st,hs.ev,hx⟩ h0 hq9
    refine Qg (Zq rfl (Qe 0 Ql (.r rfl) rfl (Qo vl rfl) vl) (JL.store_box 3 Ql (.r rfl) rfl (.r rfl) rfl vl (by rw[hz5];rfl) (U4 (by show(V.cs _ _).length=_;rw[V.cs_length,hz5])) rfl ?_))
    exact Zn (Zs (Zl 2 P1 rfl (Zq rfl (QW.not (.r rfl)) (JL.reown (Reown.cons (Reown.cons (W4 [_,_,_,_] []))) (Za rfl (Zn (J.ret (Zr [.k,.p,.p] (RetEv.one rfl (REv.tmp rfl lr)) rfl (BodR.ok (σ:=(true,x)) (RK hq9) hfv ⟨_,rfl,vl,fun _=>⟨rfl,hx⟩⟩)))))))))
  obtain rfl:q9=false:=c1
  have hfv:=Kp (s:={s with it:=x}) hw hf ⟨hs.st,hs.ev,hx⟩ h0 hq9
  exact Zk (Zs (Zl 2 P1 rfl (Zq rfl (QW.not (.r rfl)) (JL.reown (Reown.cons (Reown.cons (W4 [_,_,_,_] []))) (Za rfl (Zn (J.ret (Zr [.k,.p,.p] (RetEv.one rfl (REv.tmp rfl lr)) rfl (BodR.ok (σ:=(false,p.2)) (RK hq9) hfv ⟨_,rfl,hz5,fun h=>by cases h⟩)))))))))

end
section
/- Walks: Map, Filter, Find. -/
set_option maxRecDepth 10000
set_option maxHeartbeats 4000000
theorem EC{l:List V}(hl:∀x∈l,x.good)(hn:l.length≤32):(V.li l).wf:=.mk (by decide) (by decide) (by decide) (by decide) (by unfold Qr;omega) (fun _ h=>by cases h) (fun x hx=>(hl x hx).wf)
theorem Nt(b6 b5 b4 b3 b2 m:Own)(l:List Own):Reown (b6::b5::b4::b3::b2::m::l) (b4::b3::m::.grp [b5,.arr (.slice none 0 0) eV [],b2,b6]::l):=
  (G8 eV _).trans ⟨fun x=>by simp only[QT,UW,Gu,List.count_append,List.count_nil];omega,fun w A h=>by
    simp only[List.forall_mem_cons,Kw,List.not_mem_nil,false_implies,implies_true,and_true]at h⊢
    exact⟨h.2.2.2.1,h.2.2.2.2.1,h.2.2.2.2.2.2.1,⟨h.2.2.1,h.1,h.2.2.2.2.2.1,h.2.1⟩,h.2.2.2.2.2.2.2⟩⟩
theorem FJ(b7 b6 b5 b4 b3 b2 m:Own)(l:List Own):Reown (b7::b6::b5::b4::b3::b2::m::l) (b4::b3::m::.grp [b7,b5,b2,b6]::l):=
  ⟨fun x=>by simp only[QT,UW,Gu,List.count_append,List.count_nil];omega,fun w A h=>by
    simp only[List.forall_mem_cons,Kw,List.not_mem_nil,false_implies,implies_true,and_true]at h⊢
    exact⟨h.2.2.2.1,h.2.2.2.2.1,h.2.2.2.2.2.2.1,⟨h.1,h.2.2.1,h.2.2.2.2.2.1,h.2.1⟩,h.2.2.2.2.2.2.2⟩⟩
/-! what the loops come to -/
theorem BZ{y:EX}{s:ScT}:∀(l ys:List V) (f:Int),MF (GB y s) l ys f=match Hm (fun it f=>y.ev {s with it} f) l f with
    |.error e=>.error e
    |.ok (r,f')=>.ok (ys++r,f')
  |[],ys,f=>by simp[MF,Hm]
  |x::l,ys,f=>by
    rw[MF,Hm,GB]
    cases h:y.ev {s with it:=x} f with
    |error c=>rfl
    |ok p=>
      obtain⟨v,f1⟩:=p
      simp only[if_true]
      rw[BZ l (ys++[v]) f1]
      cases Hm (fun it f=>y.ev {s with it} f) l f1 with
      |error c=>rfl
      |ok q=>simp
theorem B1{y:EX}{s:ScT}:∀(l ys:List V) (f:Int),MF (GC y s) l ys f=match HB (fun it f=>Wa (y.ev {s with it} f)) l f with
    |.error e=>.error e
    |.ok (r,f')=>.ok (ys++r,f')
  |[],ys,f=>by simp[MF,HB]
  |x::l,ys,f=>by
    rw[MF,HB,GC]
    cases h:Wa (y.ev {s with it:=x} f)with
    |error c=>rfl
    |ok p=>
      obtain⟨t,f1⟩:=p
      simp only[if_true]
      rw[B1 l _ f1]
      cases HB (fun it f=>Wa (y.ev {s with it} f)) l f1 with
      |error c=>rfl
      |ok q=>cases t<;>simp
def fndX(x:Except Int ((Bool×V)×Int)):ER V:=match x with
    |.error e=>.error e
    |.ok ((t,x),f')=>if t then .ok (x,f')else .error 71
theorem B0{y:EX}{s:ScT}:∀(l:List V) (p:Bool×V) (f:Int),p.1=false→Rc (fun it f=>Wa (y.ev {s with it} f)) l f=fndX (MF (Kf y s) l p f)
  |[],⟨t,v⟩,f,h=>by cases h;rfl
  |x::l,p,f,h=>by
    rw[MF,Rc,Kf]
    cases h:Wa (y.ev {s with it:=x} f)with
    |error c=>rfl
    |ok q=>
      obtain⟨t,f1⟩:=q
      cases t with
      |true=>rfl
      |false=>exact B0 l (false,p.2) f1 rfl
def BC(y:EX)(s:ScT):V→Int→ER V:=fun it f=>y.ev {s with it} f
theorem GV(o:Int)(a y:EX)(s:ScT)(f:Int):Yp o [a,y] s f=XK o (BC y s) (a.ev s f):=by unfold Yp;rfl
theorem BB{y:EX}{s:ScT}{r:ER V}{x:Except Int (List V×Int)}(h:Xe (GB y s) [] r=x):XK 27 (BC y s) r=Xq x:=by
  subst h
  cases r with
  |error c=>rfl
  |ok p=>
    obtain⟨v,f⟩:=p
    unfold XK Xe
    by_cases hk:v.kind=4
    · simp only[hk];rw[BZ];show Xq (Hm (BC y s) v.items f)=_;unfold BC;cases Hm (fun it f=>y.ev {s with it} f) v.items f<;>rfl
    · simp only[ne_eq,hk,not_false_eq_true,if_true];rfl
theorem BE{y:EX}{s:ScT}{r:ER V}{x:Except Int (List V×Int)}(h:Xe (GC y s) [] r=x):XK 28 (BC y s) r=Xq x:=by
  subst h
  cases r with
  |error c=>rfl
  |ok p=>
    obtain⟨v,f⟩:=p
    unfold XK Xe
    by_cases hk:v.kind=4
    · simp only[hk];rw[B1];show Xq (HB (fun x f=>Wa (BC y s x f)) v.items f)=_;unfold BC;cases HB (fun it f=>Wa (y.ev {s with it} f)) v.items f<;>rfl
    · simp only[ne_eq,hk,not_false_eq_true,if_true];rfl
theorem BD{y:EX}{s:ScT}{r:ER V}{x:Except Int ((Bool×V)×Int)}(h:Xe (Kf y s) (false,.nil) r=x):XK 29 (BC y s) r=fndX x:=by
  subst h
  cases r with
  |error c=>rfl
  |ok p=>
    obtain⟨v,f⟩:=p
    by_cases hk:v.kind=4
    · rw[show Xe (Kf y s) (false,.nil) (.ok (v,f))=MF (Kf y s) v.items (false,.nil) f from if_neg (fun h=>h hk),show XK 29 (BC y s) (.ok (v,f))=Rc (fun x f=>Wa (BC y s x f)) v.items f from(if_neg (fun h=>h hk)).trans rfl]
      exact B0 v.items (false,.nil) f rfl
    · rw[show Xe (Kf y s) (false,.nil) (.ok (v,f))=.error 81 from if_pos hk,show XK 29 (BC y s) (.ok (v,f))=.error 81 from if_pos hk];rfl
theorem M4{l:List V}{f:Int}(h:(V.li l).err=0):Xq (.ok (l,f))=.ok (.li l,f):=by unfold Xq K5;simp only[h,if_true]
theorem R3{l:List V}{f:Int}(h:¬(V.li l).err=0):Xq (.ok (l,f))=.error 84:=by unfold Xq K5;simp only[h,if_false]
theorem LU{n:Nat}(ih:D8 n){o:Int}{bb:Nat}{t:QN}{a y:EX}{s:ScT}{f:Int}{b:Nat}{fr:Bool}{ys:List AV}(he:Xc fr (.mk o bb t [a,y]) ys)(ho:o=27∨o=28∨o=29)(hwa:a.wf)(hwy:y.wf)(hfa:a.Fine)(hfy:y.Fine)(hna:a.sz≤n)(hny:y.sz≤n)(hs:s.good)(h0:He f):
    AC Tryz.prog 235 [mb b s f] [pb b,.agg ys] (EvR (Yp o [a,y] s f) b s):=by
  subst he
  refine AC.of_J Tryz.func235 rfl Tryz.ntmps235 rfl fun w0 A0=>?_
  refine Zs (D4 (.r rfl) rfl rfl fun b2=>Qs (.r rfl) rfl fun b3=>JL.alloc Yd rfl rfl fun b4=>Zn (Zs (Zq rfl (QW.build (idx:=[0]) Kj Yd rfl (.cons .const .nil) rfl rfl rfl rfl) (JL.alloc Yd rfl rfl fun b5=>Qa 0 Ql (.r rfl) rfl (.r rfl) rfl rfl rfl rfl (Zn ?_)))))
  refine J.seq (Zs (Zd Wu rfl (Zl 2 Ki rfl (Zq rfl (Qi Yc Ub rfl (.r rfl) .const rfl (by rfl)) ?_))))
  refine Zq rfl (Qm Ub (.r rfl) (QF xl rfl) xl) (JL.alloc P0 rfl rfl fun b6=>Qa 0 Ub (.r rfl) rfl (.r rfl) rfl xl rfl rfl (Zn (Zs (Zd Yk rfl (Zl 3 UA rfl (Zn (J.block (Zs ?_))))))))
  refine Zq rfl (QW.eql (.r rfl) .const) (Za rfl (Zn ?_))
  refine J.cond (.r rfl) (fun c1=>?_) (fun c1=>?_)
  · skip
    obtain rfl:o=27:=by simpa using c1
    refine QV mixed (Zo 0 4 [] rfl (fun _ ho_=>Qb 4 MT (.r rfl) ho_ rfl) (Zf 1 [] rfl (fun _=>Qf Wu (.r rfl) rfl) (Zo 2 3 [28] rfl (fun _ ho_=>Qb 3 Ki (.r rfl) ho_ rfl) (Zf 3 [29] rfl (fun _=>Qi Yc Ub rfl (.r rfl) .const rfl (by rfl)) ?_))))
    refine Zf 4 [30] rfl (fun _=>Qm Ub (.r rfl) (QF xl rfl) xl) (Zf 5 [] rfl (fun _=>WN .nil (.cons (.r rfl) (.cons (.r rfl) (.cons (.r rfl) .nil)))) (JX.one 6 [true,true,true,true,true,true] rfl (by kernel_rfl) (by kernel_rfl) rfl rfl (by kernel_rfl) rfl fun bs6_ pe_ ex_=>?_))
    refine JL.conv (by(try simp only[Ug,Uo,Q8,Q0,Flt.val,Flt.bx,nx,nl,Qj,QA,QC,Qy,QZ,AV.cellsOf,Qc,Qd,Nat.reduceAdd]);rfl) ?_
    refine JL.reown (Nt _ _ _ _ _ _ _) ?_
    refine Qn [.k,.k,.p,.p] NY rfl Lent.nil (fun _=>(.cons (.r rfl) (.cons (.r rfl) (.cons (.r rfl) .nil)))) (Hl (W:=Cu b5 b2 b6 b (y.cs fr)) (stp:=GB y s) (ca:=[MX b5,MX b2,MX b6]) ih Qal (fun j σ x f o0 hj hW hx h0=>BA ih hwy hfy hs hny b b5 b2 b6 hj hW hx h0) Xc.self hwa hfa hs h0 hna (σ0:=[]) ⟨_,rfl,Nat.le_refl _,fun _ h=>by cases h⟩) (.inl rfl) (fun k33 x33 o33 h33=>?_) (fun k33=>?_)
    rotate_left
    · skip
      refine thenQ.p (blkQ.p (thenQ.p ?_))
      exact⟨_,QI [.k,.k] _,_,rfl,rfl,Qk [.k,.k] _,EvR.er ((GV 27 a y s f).trans (BB (UN k33))) k33⟩
    obtain⟨σ1,f1,j1,o1_,hi1,hj1,⟨v1,rfl,hl1,hgd1⟩,hf1,rfl,rfl⟩:=h33
    refine JL.nil ?_
    refine thenQ.n ⟨[_],_,rfl,rfl,rfl,rfl,rfl,U5 4 rfl rfl,⟨rfl,rfl⟩,trivial,?_⟩
    refine JX.conv (S':=[6,5,4,3,2,1,0]) rfl (by(try simp only[Q0]);rfl) (by(try simp only[Ug,Uo,Q8,Q0,Flt.val,Flt.bx,nx,nl,Qj,QA,QC,Qy,QZ,AV.cellsOf,Qc,Qd,Nat.reduceAdd]);rfl) ?_
    refine JX.fin (by kernel_rfl) (by kernel_rfl) fun bs_=>?_
    refine QX.conv (by(try simp only[Ug,Uo,Q8,Q0,Flt.val,Flt.bx,nx,nl,Qj,QA,QC,Qy,QZ,AV.cellsOf,Qc,Qd,Nat.reduceAdd]);rfl) ?_
    refine blkQ.n (thenQ.n (J.seq (J.reown (Reown.cons (Reown.cons (Reown.cons (WI _ [])))) (J.closeArr 4 rfl (by rw[V.css_length];show _*80≤_;unfold Qr;omega) rfl (fun z hz=>by simp only[mb,QT,UW,Own.fp,List.append_nil,List.mem_singleton]at hz;subst hz;simp[mb,QT,Own.fp]) ?_))))
    refine Qg (Zq rfl (Qe 3 Ql (.r rfl) rfl rfl rfl) ?_)
    refine Qn [] NX rfl Lent.nil (fun _=>(.cons (Ev.le (.r rfl) (.aggL (.cons lr (.cons lr (.cons lr (.cons (.nil false false _) (.cons (.fact (by simp) (.slL (fr:=true) (clip:=false) (fun h=>by cases h) rfl (V.css_sz false _) (.refl _))) .nil))))))) .nil)) (NR (fr:=false) (v:=.li σ1) Vc.self (EC hgd1 (by omega))) (.inl rfl) (fun k44 x44 o44 h44=>?_) (fun k44=>?_)
    rotate_left
    · skip
      refine thenQ.p ?_
      exact⟨_,QI [.k,.k,.k,.k,.k,.k] _,_,rfl,rfl,Qk [.k,.k,.k,.k,.k,.k] _,EvR.er (c:=84) ((GV 27 a y s f).trans ((BB hi1).trans (R3 k44))) (by decide)⟩
    obtain⟨rfl,rfl⟩:=h44
    exact Qa 0 Ql (.r rfl) rfl (.r rfl) rfl rfl rfl rfl (Zn (J.ret (Zr [.k,.k,.p,.k,.k,.k] (RetEv.one rfl (REv.cell 0 Ql rfl rfl rfl rfl lr)) rfl (EvR.ok ((GV 27 a y s f).trans ((BB hi1).trans (M4 k44)))))))
  have n27:¬o=27:=by simpa using c1
  refine Zs (Zq rfl (QW.eql (.r rfl) .const) (Za rfl (Zn ?_)))
  refine J.cond (.r rfl) (fun c2=>?_) (fun c2=>?_)
  · skip
    obtain rfl:o=28:=by simpa using c2
    refine QV mixed (Zo 0 4 [] rfl (fun _ ho_=>Qb 4 MT (.r rfl) ho_ rfl) (Zf 1 [] rfl (fun _=>Qf Wu (.r rfl) rfl) (Zo 2 3 [37] rfl (fun _ ho_=>Qb 3 Ki (.r rfl) ho_ rfl) (Zf 3 [38] rfl (fun _=>Qi Yc Ub rfl (.r rfl) .const rfl (by rfl)) ?_))))
    refine Zf 4 [39] rfl (fun _=>Qm Ub (.r rfl) (QF xl rfl) xl) (Zf 5 [] rfl (fun _=>WN .nil (.cons (.r rfl) (.cons (.r rfl) (.cons (.r rfl) .nil)))) (JX.one 6 [true,true,true,true,true,true] rfl (by kernel_rfl) (by kernel_rfl) rfl rfl (by kernel_rfl) rfl fun bs6_ pe_ ex_=>?_))
    refine JL.conv (by(try simp only[Ug,Uo,Q8,Q0,Flt.val,Flt.bx,nx,nl,Qj,QA,QC,Qy,QZ,AV.cellsOf,Qc,Qd,Nat.reduceAdd]);rfl) ?_
    refine JL.reown (Nt _ _ _ _ _ _ _) ?_
    refine Qn [.k,.k,.p,.p] NY rfl Lent.nil (fun _=>(.cons (.r rfl) (.cons (.r rfl) (.cons (.r rfl) .nil)))) (Hl (W:=Cu b5 b2 b6 b (y.cs fr)) (stp:=GC y s) (ca:=[MX b2,MX b6,MX b5]) ih Qak (fun j σ x f o0 hj hW hx h0=>Bz ih hwy hfy hs hny b b5 b2 b6 hj hW hx h0) Xc.self hwa hfa hs h0 hna (σ0:=[]) ⟨_,rfl,Nat.le_refl _,fun _ h=>by cases h⟩) (.inl rfl) (fun k42 x42 o42 h42=>?_) (fun k42=>?_)
    rotate_left
    · skip
      refine thenQ.p (blkQ.p (thenQ.p ?_))
      exact⟨_,QI [.k,.k] _,_,rfl,rfl,Qk [.k,.k] _,EvR.er ((GV 28 a y s f).trans (BE (UN k42))) k42⟩
    obtain⟨σ1,f1,j1,o1_,hi1,hj1,⟨v1,rfl,hl1,hgd1⟩,hf1,rfl,rfl⟩:=h42
    refine JL.nil ?_
    refine thenQ.n ⟨[_],_,rfl,rfl,rfl,rfl,rfl,U5 4 rfl rfl,⟨rfl,rfl⟩,trivial,?_⟩
    refine JX.conv (S':=[6,5,4,3,2,1,0]) rfl (by(try simp only[Q0]);rfl) (by(try simp only[Ug,Uo,Q8,Q0,Flt.val,Flt.bx,nx,nl,Qj,QA,QC,Qy,QZ,AV.cellsOf,Qc,Qd,Nat.reduceAdd]);rfl) ?_
    refine JX.fin (by kernel_rfl) (by kernel_rfl) fun bs_=>?_
    refine QX.conv (by(try simp only[Ug,Uo,Q8,Q0,Flt.val,Flt.bx,nx,nl,Qj,QA,QC,Qy,QZ,AV.cellsOf,Qc,Qd,Nat.reduceAdd]);rfl) ?_
    refine blkQ.n (thenQ.n (J.seq (J.reown (Reown.cons (Reown.cons (Reown.cons (WI _ [])))) (J.closeArr 4 rfl (by rw[V.css_length];show _*80≤_;unfold Qr;omega) rfl (fun z hz=>by simp only[mb,QT,UW,Own.fp,List.append_nil,List.mem_singleton]at hz;subst hz;simp[mb,QT,Own.fp]) ?_))))
    refine Qg (Zq rfl (Qe 3 Ql (.r rfl) rfl rfl rfl) ?_)
    refine Qn [] NX rfl Lent.nil (fun _=>(.cons (Ev.le (.r rfl) (.aggL (.cons lr (.cons lr (.cons lr (.cons (.nil false false _) (.cons (.fact (by simp) (.slL (fr:=true) (clip:=false) (fun h=>by cases h) rfl (V.css_sz false _) (.refl _))) .nil))))))) .nil)) (NR (fr:=false) (v:=.li σ1) Vc.self (EC hgd1 (by omega))) (.inl rfl) (fun k44 x44 o44 h44=>?_) (fun k44=>?_)
    rotate_left
    · skip
      refine thenQ.p ?_
      exact⟨_,QI [.k,.k,.k,.k,.k,.k] _,_,rfl,rfl,Qk [.k,.k,.k,.k,.k,.k] _,EvR.er (c:=84) ((GV 28 a y s f).trans ((BE hi1).trans (R3 k44))) (by decide)⟩
    obtain⟨rfl,rfl⟩:=h44
    exact Qa 0 Ql (.r rfl) rfl (.r rfl) rfl rfl rfl rfl (Zn (J.ret (Zr [.k,.k,.p,.k,.k,.k] (RetEv.one rfl (REv.cell 0 Ql rfl rfl rfl rfl lr)) rfl (EvR.ok ((GV 28 a y s f).trans ((BE hi1).trans (M4 k44)))))))
  have n28:¬o=28:=by simpa using c2
  obtain rfl:o=29:=by omega
  refine Zs (JL.alloc z4 rfl rfl fun b7=>JL.store_box 0 P1 (.r rfl) rfl .const rfl rfl rfl rfl rfl (Zn (J.seq (QV mixed (Zo 0 5 [] rfl (fun _ ho_=>Qb 5 MT (.r rfl) ho_ rfl) (Zf 1 [] rfl (fun _=>Qf Wu (.r rfl) rfl) (Zo 2 4 [16] rfl (fun _ ho_=>Qb 4 Ki (.r rfl) ho_ rfl) (Zf 3 [17] rfl (fun _=>Qi Yc Ub rfl (.r rfl) .const rfl (by rfl)) ?_))))))))
  refine Zf 4 [18] rfl (fun _=>Qm Ub (.r rfl) (QF xl rfl) xl) (Zf 5 [] rfl (fun _=>WN .nil (.cons (.r rfl) (.cons (.r rfl) (.cons (.r rfl) (.cons (.r rfl) .nil))))) (JX.one 6 [true,true,true,true,true,true] rfl (by kernel_rfl) (by kernel_rfl) rfl rfl (by kernel_rfl) rfl fun bs6_ pe_ ex_=>?_))
  refine JL.conv (by(try simp only[Ug,Uo,Q8,Q0,Flt.val,Flt.bx,nx,nl,Qj,QA,QC,Qy,QZ,AV.cellsOf,Qc,Qd,Nat.reduceAdd]);rfl) ?_
  refine JL.reown (FJ _ _ _ _ _ _ _ _) ?_
  refine Qn [.k,.k,.p,.p] NY rfl Lent.nil (fun _=>(.cons (.r rfl) (.cons (.r rfl) (.cons (.r rfl) .nil)))) (Hl (W:=wFnd b7 b5 b2 b6 b (y.cs fr)) (stp:=Kf y s) (ca:=[MX b2,MX b6,MX b7,MX b5]) ih Qaj (fun j σ x f o0 hj hW hx h0=>By ih hwy hfy hs hny b b5 b2 b6 b7 hj hW hx h0) Xc.self hwa hfa hs h0 hna (σ0:=(false,.nil)) ⟨_,rfl,rfl,fun h=>by cases h⟩) (.inl rfl) (fun k21 x21 o21 h21=>?_) (fun k21=>?_)
  rotate_left
  · skip
    refine thenQ.p (thenQ.p (blkQ.p (thenQ.p ?_)))
    exact⟨_,QI [.k,.k] _,_,rfl,rfl,Qk [.k,.k] _,EvR.er ((GV 29 a y s f).trans (BD (UN k21))) k21⟩
  obtain⟨⟨t1,x1⟩,f1,j1,o1_,hi1,hj1,⟨zs,rfl,hz5,hzs⟩,hf1,rfl,rfl⟩:=h21
  refine JL.nil ?_
  refine thenQ.n ⟨[_],_,rfl,rfl,rfl,rfl,rfl,U5 4 rfl rfl,⟨rfl,rfl⟩,trivial,?_⟩
  refine JX.conv (S':=[6,5,4,3,2,1,0]) rfl (by(try simp only[Q0]);rfl) (by(try simp only[Ug,Uo,Q8,Q0,Flt.val,Flt.bx,nx,nl,Qj,QA,QC,Qy,QZ,AV.cellsOf,Qc,Qd,Nat.reduceAdd]);rfl) ?_
  refine JX.fin (by kernel_rfl) (by kernel_rfl) fun bs_=>?_
  refine QX.conv (by(try simp only[Ug,Uo,Q8,Q0,Flt.val,Flt.bx,nx,nl,Qj,QA,QC,Qy,QZ,AV.cellsOf,Qc,Qd,Nat.reduceAdd]);rfl) ?_
  refine thenQ.n (J.seq (J.reown (Reown.cons (Reown.cons (Reown.cons (WI _ [])))) (Qg (Zl 3 P1 rfl ?_))))
  refine Qn [] WL rfl Lent.nil (fun _=>(.cons (.r rfl) (.cons .const .nil))) (XL _ _) (.inl rfl) (fun k23 x23 o23 h23=>?_) (fun k23=>?_)
  rotate_left
  · skip
    refine thenQ.p (blkQ.p (thenQ.p ?_))
    exact⟨_,QI [.k,.k,.k,.k,.k,.k,.k] _,_,rfl,rfl,Qk [.k,.k,.k,.k,.k,.k,.k] _,EvR.er (c:=71) ((GV 29 a y s f).trans ((BD hi1).trans (if_neg k23))) (by decide)⟩
  obtain⟨rfl,rfl⟩:=h23
  refine Zn (J.seq ?_)
  obtain⟨rfl,hgx⟩:=hzs k23
  exact Qg (Zq rfl (Qe 4 Ql (.r rfl) rfl (Qo vl rfl) vl) (Qa 0 Ql (.r rfl) rfl (.r rfl) rfl vl rfl rfl (Zn (J.ret (blkQ.r (thenQ.r (Zr [.k,.k,.p,.k,.k,.k,.k] (RetEv.one rfl (REv.cell 0 Ql rfl rfl (Qo vl rfl) vl lr)) rfl (EvR.ok ((GV 29 a y s f).trans ((BD hi1).trans (if_pos k23)))))))))))

end
section
/- What the machine's branches come to, plain. -/
theorem Mv{o:Int}{b:Nat}{t:QN}{l:List EX}(h:(EX.mk o b t l).ok=true):0≤o∧o<30∧l.length≤8∧(o=23∨o≤7∨((o=8∨o=10∨o=15∨o=20∨o=26)∧l.length=1)∨(o=21∧l.length=3)∨(8≤o∧o≠8∧o≠10∧o≠15∧o≠20∧o≠26∧o≠21∧o≠23∧l.length=2)):=by
  have hb:=Hb h
  simp only[EX.ok,Bool.and_eq_true,Bool.or_eq_true,decide_eq_true_eq,beq_iff_eq]at h
  obtain⟨⟨⟨⟨⟨-,h1⟩,-⟩,-⟩,-⟩,-⟩:=h
  simp only[EX.op,EX.args]at h1
  unfold Uw at h1
  refine⟨hb.1,hb.2.1,hb.2.2.2,?_⟩
  repeat' split at h1
  all_goals omega
theorem Ps{l:List EX}(h:l.length=2):∃a b,l=[a,b]:=by
  match l,h with
  |[a,b],_=>exact⟨a,b,rfl⟩
theorem ethree{l:List EX}(h:l.length=3):∃a b c,l=[a,b,c]:=by
  match l,h with
  |[a,b,c],_=>exact⟨a,b,c,rfl⟩
section
variable {o:Int} {b:Nat} {t:QN} {l:List EX} {s:ScT} {f:Int} {a y z:EX}
theorem ev_lo(h:f<1):(EX.mk o b t l).ev s f=.error 83:=by rw[EX.ev,if_pos h]
theorem ev_0(h:¬f<1):(EX.mk 0 b t l).ev s f=.ok (.nil,f-1):=by rw[EX.ev,if_neg h];rfl
theorem ev_1(h:¬f<1):(EX.mk 1 b t l).ev s f=.ok (.tr false,f-1):=by rw[EX.ev,if_neg h];rfl
theorem ev_2(h:¬f<1):(EX.mk 2 b t l).ev s f=.ok (.tr true,f-1):=by rw[EX.ev,if_neg h];rfl
theorem ev_3(h:¬f<1):(EX.mk 3 b t l).ev s f=.ok (.nu b,f-1):=by rw[EX.ev,if_neg h];rfl
theorem ev_4(h:¬f<1):(EX.mk 4 b t l).ev s f=.ok (.tx t,f-1):=by rw[EX.ev,if_neg h];rfl
theorem ev_5(h:¬f<1):(EX.mk 5 b t l).ev s f=.ok (s.st,f-1):=by rw[EX.ev,if_neg h];rfl
theorem ev_6(h:¬f<1):(EX.mk 6 b t l).ev s f=.ok (s.ev,f-1):=by rw[EX.ev,if_neg h];rfl
theorem ev_7(h:¬f<1):(EX.mk 7 b t l).ev s f=.ok (s.it,f-1):=by rw[EX.ev,if_neg h];rfl
theorem Ci(h:¬f<1):(EX.mk 18 b t l).ev s f=UX false l s (f-1):=by rw[EX.ev,if_neg h];rfl
theorem Ch(h:¬f<1):(EX.mk 19 b t l).ev s f=UX true l s (f-1):=by rw[EX.ev,if_neg h];rfl
theorem Tk(h:¬f<1):(EX.mk 21 b t l).ev s f=Wn l s (f-1):=by rw[EX.ev,if_neg h];rfl
theorem KV(ho:o=27∨o=28∨o=29)(h:¬f<1):(EX.mk o b t l).ev s f=Yp o l s (f-1):=by
  rcases ho with rfl|rfl|rfl<;>(rw[EX.ev,if_neg h];rfl)
def plE(o:Int)(t:QN)(r:ER (List V)):ER V:=match r with
  |.error e=>.error e
  |.ok (vs,f1)=>match UI o t vs with
    |.error e=>.error e
    |.ok v=>.ok (v,f1)
theorem Cg(h:¬f<1)(hn:o=23∨(8≤o∧o≠18∧o≠19∧o≠21∧o≠27∧o≠28∧o≠29)):(EX.mk o b t l).ev s f=plE o t (Uy l s (f-1)):=by
  rw[EX.ev,if_neg h,if_neg (by omega),if_neg (by omega),if_neg (by omega),if_neg (by omega),if_neg (by omega),if_neg (by omega),if_neg (by omega),if_neg (by omega),if_neg (by omega),if_neg (by omega),if_neg (by omega),if_neg (by omega)]
  rfl
theorem plE_ok{vs:List V}{v:V}{r:ER (List V)}{f1:Int}(h:r=.ok (vs,f1))(h2:UI o t vs=.ok v):plE o t r=.ok (v,f1):=by subst h;simp only[plE,h2]
theorem plE_er{vs:List V}{r:ER (List V)}{f1 c:Int}(h:r=.ok (vs,f1))(h2:UI o t vs=.error c):plE o t r=.error c:=by subst h;simp only[plE,h2]
theorem plE_no{r:ER (List V)}{c:Int}(h:r=.error c):plE o t r=.error c:=by subst h;rfl
theorem ao_er{k:Bool}{c:Int}(h:Wa (a.ev s f)=.error c):UX k [a,y] s f=.error c:=by unfold UX;rw[h]
theorem ao_1{k:Bool}{f1:Int}(h:Wa (a.ev s f)=.ok (k,f1)):UX k [a,y] s f=.ok (.tr k,f1):=by unfold UX;rw[h];simp
theorem ao_2{k:Bool}{f1 c:Int}(h:Wa (a.ev s f)=.ok (!k,f1))(h2:Wa (y.ev s f1)=.error c):UX k [a,y] s f=.error c:=by unfold UX;rw[h];cases k<;>simp[h2]
theorem ao_3{k b2:Bool}{f1 f2:Int}(h:Wa (a.ev s f)=.ok (!k,f1))(h2:Wa (y.ev s f1)=.ok (b2,f2)):UX k [a,y] s f=.ok (.tr b2,f2):=by unfold UX;rw[h];cases k<;>simp[h2]
theorem if_er{c:Int}(h:Wa (a.ev s f)=.error c):Wn [a,y,z] s f=.error c:=by unfold Wn;rw[h]
theorem if_t{f1:Int}(h:Wa (a.ev s f)=.ok (true,f1)):Wn [a,y,z] s f=y.ev s f1:=by unfold Wn;rw[h];rfl
theorem if_f{f1:Int}(h:Wa (a.ev s f)=.ok (false,f1)):Wn [a,y,z] s f=z.ev s f1:=by unfold Wn;rw[h];rfl
def HZ(vs:List V):ER (List V)→ER (List V)
  |.error e=>.error e
  |.ok (r,f)=>.ok (vs++r,f)
theorem C9(r:ER (List V)):r=HZ [] r:=by cases r<;>rfl
theorem QaZ{j:Nat}{vs:List V}{c:Int}(hj:j<l.length)(h:l[j].ev s f=.error c):HZ vs (Uy (l.drop j) s f)=.error c:=by
  rw[List.drop_eq_getElem_cons hj,Uy,h];rfl
theorem Pq{j:Nat}{vs:List V}{v:V}{f1:Int}(hj:j<l.length)(h:l[j].ev s f=.ok (v,f1)):HZ vs (Uy (l.drop j) s f)=HZ (vs++[v]) (Uy (l.drop (j+1)) s f1):=by
  rw[List.drop_eq_getElem_cons hj,Uy,h]
  simp only[]
  cases Uy (l.drop (j+1)) s f1 with
  |error c=>rfl
  |ok p=>simp[HZ]
theorem Pr{vs:List V}:HZ vs (Uy [] s f)=.ok (vs,f):=by rw[Uy];simp[HZ]
theorem Lr{e:U7}{base z:List AV}(hz:z.length=e.sz)(hb:base.length=e.sz:=by rfl):Xg (fun i=>some (i*e.sz,e.sz)) base [(0,z)]=some [z].flatten:=by
  have h1:Q1 base 0 z=z:=U4 (by rw[hz,hb])
  have h2:Nat.ble e.sz e.sz=true:=Nat.ble_eq_true_of_le (Nat.le_refl _)
  simp[Xg,hz,hb,h1,h2]
theorem Rj{e:U7}{z:List AV}(hz:z.length=e.sz):(([z]:List (List AV)).all fun x=>Nat.beq x.length e.sz)=true:=by simp[hz]
theorem PB(vs:List V)(v:V):V.css false vs++[v.cs false]=V.css false (vs++[v]):=by
  induction vs with
  |nil=>rfl
  |cons x r ih=>rw[List.cons_append,V.css,V.css,← ih];rfl
end

end
section
/- Walks: the machine reckons an expression. -/
set_option maxRecDepth 10000
set_option maxHeartbeats 4000000
theorem SL:∀(n:Nat),D8 n:=by
  intro n
  induction n with
  |zero=>intro e s f b fr hw hf hs h0 hn;exact absurd hn (by have:=EX.sz_pos e;omega)
  |succ n ih=>
    intro e s f b fr hw hf hs h0 hn
    obtain⟨o,bb,t,l⟩:=e
    obtain⟨ho0,ho30,hl8,hoa⟩:=Mv hf.part
    obtain⟨-,-,htr,hl56,hwl⟩:=hw.inv
    have hfl:∀x∈l,x.Fine:=fun x hx=>hf.kid hx
    have hsz:∀x∈l,x.sz≤n:=fun x hx=>by
      obtain⟨i,hi,rfl⟩:=List.getElem_of_mem hx
      exact EX.sz_get hn hi
    refine AC.of_J Tryz.func210 rfl Tryz.ntmps210 rfl fun w0 A0=>?_
    refine Zs (Qs (.r rfl) rfl fun b3=>JL.alloc Yd rfl rfl fun b4=>Zn (Zs (Zm rfl (Zu rfl (Zd Ll rfl (Zq rfl (Qb 2 UA (.r rfl) rfl NQ) (Zq rfl (QW.gtr (.r rfl) .const) ?_)))))))
    refine Qn [] WL rfl Lent.nil (fun _=>(.cons (.r rfl) (.cons .const .nil))) (XL _ _) (.inl rfl) (fun k13 x13 o13 h13=>?_) (fun k13=>?_)
    rotate_left
    · skip
      refine thenQ.p ?_
      exact⟨_,QI [.k,.k,.k] _,_,rfl,rfl,Qk [.k,.k,.k] _,EvR.er (c:=83) (ev_lo (by simp at k13;omega)) (by decide)⟩
    obtain⟨rfl,rfl⟩:=h13
    refine Zn (Zs ?_)
    have hlo:¬f<1:=by(simp at k13;omega)
    have h1:He (f-1):=⟨by omega,by have:=h0.2;omega⟩
    refine Zm rfl (Zu rfl (Zd Ll rfl (Zq rfl (Qb 2 UA (.r rfl) rfl NQ) (Zq rfl (QW.sub (.r rfl) .const (Yy (by have:=h0.2;omega))) ?_))))
    refine Zu rfl (Zd Ll rfl (JL.store_box 2 UA (.r rfl) rfl (.r rfl) rfl rfl (by rw[Gn];rfl) Ey rfl ?_))
    refine Zn (J.seq (Zs (Zd Yk rfl (Zl 1 UA rfl (Zn (J.block (Zs (Zq rfl (QW.eql (.r rfl) .const) (Za rfl ?_)))))))))
    refine Zn ?_
    refine J.cond (.r rfl) (fun c1=>?_) (fun c1=>?_)
    · skip
      obtain rfl:o=0:=by simpa using c1
      exact Zs (Zq rfl (QW.build (idx:=[]) Kj Yd rfl .nil rfl rfl rfl rfl) (Qa 0 Ql (.r rfl) rfl (.r rfl) rfl rfl rfl rfl (Zn (J.ret (blkQ.r (thenQ.r (Zr [.k,.k,.p] (RetEv.one rfl (REv.cell 0 Ql rfl rfl rfl rfl (.aggL (.cons lr (.cons lr (.cons lr (.cons (.nil false false _) (.cons (.nil false false _) .nil)))))))) rfl (EvR.ok (v:=.nil) (ev_0 hlo)))))))))
    have n0:¬o=0:=by simpa using c1
    refine J.seq (Zs (Zq rfl (QW.eql (.r rfl) .const) (Za rfl (Zn ?_))))
    refine J.cond (.r rfl) (fun c2=>?_) (fun c2=>?_)
    · skip
      obtain rfl:o=1:=by simpa using c2
      refine Zk ?_
      refine J.cond (.r rfl) (fun c3=>?_) (fun c3=>absurd c3 (by rw[c2];decide))
      exact Zs (Zd Yk rfl (Zl 1 UA rfl (Zq rfl (QW.eql (.r rfl) .const) (Zq rfl (QW.call YY (.cons (.r rfl) .nil) (Wi _)) (Qa 0 Ql (.r rfl) rfl (.r rfl) rfl rfl rfl rfl (Zn (J.ret (blkQ.r (thenQ.r (Zr [.k,.k,.p] (RetEv.one rfl (REv.cell 0 Ql rfl rfl rfl rfl lr)) rfl (EvR.ok (v:=.tr false) (ev_1 hlo))))))))))))
    have n1:¬o=1:=by simpa using c2
    refine Qg (Zq rfl (QW.eql (.r rfl) .const) (Za rfl (Zn ?_)))
    refine J.cond (.r rfl) (fun c3=>?_) (fun c3=>?_)
    · skip
      obtain rfl:o=2:=by simpa using c3
      exact Zs (Zd Yk rfl (Zl 1 UA rfl (Zq rfl (QW.eql (.r rfl) .const) (Zq rfl (QW.call YY (.cons (.r rfl) .nil) (Wi _)) (Qa 0 Ql (.r rfl) rfl (.r rfl) rfl rfl rfl rfl (Zn (J.ret (blkQ.r (thenQ.r (Zr [.k,.k,.p] (RetEv.one rfl (REv.cell 0 Ql rfl rfl rfl rfl lr)) rfl (EvR.ok (v:=.tr true) (ev_2 hlo))))))))))))
    have n2:¬o=2:=by simpa using c3
    refine Zs (Zq rfl (QW.eql (.r rfl) .const) (Za rfl (Zn ?_)))
    refine J.cond (.r rfl) (fun c4=>?_) (fun c4=>?_)
    · skip
      obtain rfl:o=3:=by simpa using c4
      exact Zs (Zd HA rfl (Zl 1 WQ rfl (Zq rfl (QW.call X7 (.cons (.r rfl) .nil) (Gl _)) (Qa 0 Ql (.r rfl) rfl (.r rfl) rfl rfl rfl rfl (Zn (J.ret (blkQ.r (thenQ.r (Zr [.k,.k,.p] (RetEv.one rfl (REv.cell 0 Ql rfl rfl rfl rfl lr)) rfl (EvR.ok (v:=.nu bb) (ev_3 hlo)))))))))))
    have n3:¬o=3:=by simpa using c4
    refine Zs (Zq rfl (QW.eql (.r rfl) .const) (Za rfl (Zn ?_)))
    refine J.cond (.r rfl) (fun c5=>?_) (fun c5=>?_)
    · skip
      obtain rfl:o=4:=by simpa using c5
      exact Zs (Zd Hz rfl (Zl 1 UO rfl (Zq rfl (QW.build (idx:=[0,2]) Kj Yd rfl (.cons .const (.cons (.r rfl) .nil)) rfl rfl rfl rfl) (Qa 0 Ql (.r rfl) rfl (.r rfl) rfl rfl rfl rfl (Zn (J.ret (blkQ.r (thenQ.r (Zr [.k,.k,.p] (RetEv.one rfl (REv.cell 0 Ql rfl rfl rfl rfl (.aggL (.cons lr (.cons lr (.cons lr (.cons (.nil false false _) (.cons (.nil false false _) .nil)))))))) rfl (EvR.ok (v:=.tx t) (ev_4 hlo)))))))))))
    have n4:¬o=4:=by simpa using c5
    refine Zs (Zq rfl (QW.eql (.r rfl) .const) (Za rfl (Zn ?_)))
    refine J.cond (.r rfl) (fun c6=>?_) (fun c6=>?_)
    · skip
      obtain rfl:o=5:=by simpa using c6
      refine Zs (Zm rfl (Zu rfl (Zd X9 rfl (Zd QaS rfl (Zq rfl (Qe 2 Ql (.r rfl) rfl (R0 0) vl) (Qa 0 Ql (.r rfl) rfl (.r rfl) rfl vl rfl rfl (Zn (J.ret (blkQ.r ?_)))))))))
      exact thenQ.r (Zr [.k,.k,.p] (RetEv.one rfl (REv.cell 0 Ql rfl rfl (Qo vl rfl) vl lr)) rfl (EvR.ok (v:=s.st) (ev_5 hlo)))
    have n5:¬o=5:=by simpa using c6
    refine Zs (Zq rfl (QW.eql (.r rfl) .const) (Za rfl (Zn ?_)))
    refine J.cond (.r rfl) (fun c7=>?_) (fun c7=>?_)
    · skip
      obtain rfl:o=6:=by simpa using c7
      refine Zs (Zm rfl (Zu rfl (Zd X9 rfl (Zd QaR rfl (Zq rfl (Qe 2 Ql (.r rfl) rfl (R0 1) vl) (Qa 0 Ql (.r rfl) rfl (.r rfl) rfl vl rfl rfl (Zn (J.ret (blkQ.r ?_)))))))))
      exact thenQ.r (Zr [.k,.k,.p] (RetEv.one rfl (REv.cell 0 Ql rfl rfl (Qo vl rfl) vl lr)) rfl (EvR.ok (v:=s.ev) (ev_6 hlo)))
    have n6:¬o=6:=by simpa using c7
    refine Zs (Zq rfl (QW.eql (.r rfl) .const) (Za rfl (Zn ?_)))
    refine J.cond (.r rfl) (fun c8=>?_) (fun c8=>?_)
    · skip
      obtain rfl:o=7:=by simpa using c8
      refine Zs (Zm rfl (Zu rfl (Zd X9 rfl (Zd Xw rfl (Zq rfl (Qe 2 Ql (.r rfl) rfl (R0 2) vl) (Qa 0 Ql (.r rfl) rfl (.r rfl) rfl vl rfl rfl (Zn (J.ret (blkQ.r ?_)))))))))
      exact thenQ.r (Zr [.k,.k,.p] (RetEv.one rfl (REv.cell 0 Ql rfl rfl (Qo vl rfl) vl lr)) rfl (EvR.ok (v:=s.it) (ev_7 hlo)))
    have n7:¬o=7:=by simpa using c8
    refine Zs (Zq rfl (QW.eql (.r rfl) .const) (Za rfl (Zn ?_)))
    refine J.cond (.r rfl) (fun c9=>?_) (fun c9=>?_)
    · skip
      obtain rfl:o=18:=by simpa using c9
      obtain⟨a,y,rfl⟩:=Ps (l:=l) (by omega)
      refine Zs (Zm rfl (Zd Wu rfl (Zl 1 Ki rfl (Zq rfl (Qi Yc Ub rfl (.r rfl) .const rfl (by rfl)) ?_))))
      refine Zq rfl (Qm Ub (.r rfl) (QF xl rfl) xl) ?_
      refine Qn [.k,.k,.p] X6 rfl Lent.nil (fun _=>(.cons (.r rfl) (.cons (.r rfl) .nil))) (Yt (e:=a) (f:=f-1) ih Xc.self (hwl _ (by simp)) (hfl _ (by simp)) hs h1 (hsz _ (by simp))) (.inl rfl) (fun k71 x71 o71 h71=>?_) (fun k71=>?_)
      rotate_left
      · skip
        refine thenQ.p (blkQ.p (thenQ.p ?_))
        exact⟨_,QI [.k,.k] _,_,rfl,rfl,Qk [.k,.k] _,EvR.er ((Ci hlo).trans (ao_er (UN k71))) k71⟩
      obtain⟨q71,f71,hq71,rfl,rfl⟩:=h71
      have h2:He f71:=Kp (hwl _ (by simp)) (hfl _ (by simp)) hs h1 hq71
      refine Zm rfl ?_
      by_cases hs_q71:q71=false
      · subst hs_q71
        refine Wq rfl rfl rfl rfl (Wq rfl rfl rfl rfl (Wq rfl rfl rfl rfl (Wq rfl rfl rfl rfl (Wq rfl rfl rfl rfl (Wq rfl rfl rfl rfl (Zq rfl (Rq (.r rfl)) (Zq rfl (QW.call YY (.cons (.r rfl) .nil) (Wi _)) (Qa 0 Ql (.r rfl) rfl (.r rfl) rfl rfl rfl rfl (Zn ?_)))))))))
        exact J.ret (blkQ.r (thenQ.r (Zr [.k,.k,.p] (RetEv.one rfl (REv.cell 0 Ql rfl rfl rfl rfl lr)) rfl (EvR.ok (v:=.tr false) ((Ci hlo).trans (ao_1 hq71))))))
      obtain rfl:q71=true:=by simpa using hs_q71
      refine W2 rfl rfl rfl (Zm rfl (W2 rfl rfl rfl (Zd Wu rfl (W2 rfl rfl rfl (Zl 1 Ki rfl (W2 rfl rfl rfl (Zq rfl (Qi Yc Ub rfl (.r rfl) .const rfl (by rfl)) ?_)))))))
      refine W2 rfl rfl rfl (Zq rfl (Qm Ub (.r rfl) (QF xl rfl) xl) (W2 rfl rfl rfl ?_))
      refine Qn [.k,.k,.p] X6 rfl Lent.nil (fun _=>(.cons (.r rfl) (.cons (.r rfl) .nil))) (Yt (e:=y) (f:=f71) ih Xc.self (hwl _ (by simp)) (hfl _ (by simp)) hs h2 (hsz _ (by simp))) (.inl rfl) (fun k78 x78 o78 h78=>?_) (fun k78=>?_)
      rotate_left
      · skip
        refine thenQ.p (blkQ.p (thenQ.p ?_))
        exact⟨_,QI [.k,.k] _,_,rfl,rfl,Qk [.k,.k] _,EvR.er ((Ci hlo).trans (ao_2 (k:=false) hq71 (UN k78))) k78⟩
      obtain⟨q78,f78,hq78,rfl,rfl⟩:=h78
      exact Zq rfl (Rp (.r rfl) (.r rfl)) (Zq rfl (QW.call YY (.cons (.r rfl) .nil) (Wi _)) (Qa 0 Ql (.r rfl) rfl (.r rfl) rfl rfl rfl rfl (Zn (J.ret (blkQ.r (thenQ.r (Zr [.k,.k,.p] (RetEv.one rfl (REv.cell 0 Ql rfl rfl rfl rfl lr)) rfl (EvR.ok (v:=.tr q78) ((Ci hlo).trans (ao_3 (k:=false) hq71 hq78))))))))))
    have n18:¬o=18:=by simpa using c9
    refine Zs (Zq rfl (QW.eql (.r rfl) .const) (Za rfl (Zn ?_)))
    refine J.cond (.r rfl) (fun c10=>?_) (fun c10=>?_)
    · skip
      obtain rfl:o=19:=by simpa using c10
      obtain⟨a,y,rfl⟩:=Ps (l:=l) (by omega)
      refine Zs (Zm rfl (Zd Wu rfl (Zl 1 Ki rfl (Zq rfl (Qi Yc Ub rfl (.r rfl) .const rfl (by rfl)) ?_))))
      refine Zq rfl (Qm Ub (.r rfl) (QF xl rfl) xl) ?_
      refine Qn [.k,.k,.p] X6 rfl Lent.nil (fun _=>(.cons (.r rfl) (.cons (.r rfl) .nil))) (Yt (e:=a) (f:=f-1) ih Xc.self (hwl _ (by simp)) (hfl _ (by simp)) hs h1 (hsz _ (by simp))) (.inl rfl) (fun k88 x88 o88 h88=>?_) (fun k88=>?_)
      rotate_left
      · skip
        refine thenQ.p (blkQ.p (thenQ.p ?_))
        exact⟨_,QI [.k,.k] _,_,rfl,rfl,Qk [.k,.k] _,EvR.er ((Ch hlo).trans (ao_er (UN k88))) k88⟩
      obtain⟨q88,f88,hq88,rfl,rfl⟩:=h88
      have h2:He f88:=Kp (hwl _ (by simp)) (hfl _ (by simp)) hs h1 hq88
      refine Zm rfl ?_
      by_cases hs_q88:q88=true
      · subst hs_q88
        refine Wq rfl rfl rfl rfl (Wq rfl rfl rfl rfl (Wq rfl rfl rfl rfl (Wq rfl rfl rfl rfl (Wq rfl rfl rfl rfl (Wq rfl rfl rfl rfl (Zq rfl (TK (.r rfl)) (Zq rfl (QW.call YY (.cons (.r rfl) .nil) (Wi _)) (Qa 0 Ql (.r rfl) rfl (.r rfl) rfl rfl rfl rfl (Zn ?_)))))))))
        exact J.ret (blkQ.r (thenQ.r (Zr [.k,.k,.p] (RetEv.one rfl (REv.cell 0 Ql rfl rfl rfl rfl lr)) rfl (EvR.ok (v:=.tr true) ((Ch hlo).trans (ao_1 hq88))))))
      obtain rfl:q88=false:=by simpa using hs_q88
      refine W2 rfl rfl rfl (Zm rfl (W2 rfl rfl rfl (Zd Wu rfl (W2 rfl rfl rfl (Zl 1 Ki rfl (W2 rfl rfl rfl (Zq rfl (Qi Yc Ub rfl (.r rfl) .const rfl (by rfl)) ?_)))))))
      refine W2 rfl rfl rfl (Zq rfl (Qm Ub (.r rfl) (QF xl rfl) xl) (W2 rfl rfl rfl ?_))
      refine Qn [.k,.k,.p] X6 rfl Lent.nil (fun _=>(.cons (.r rfl) (.cons (.r rfl) .nil))) (Yt (e:=y) (f:=f88) ih Xc.self (hwl _ (by simp)) (hfl _ (by simp)) hs h2 (hsz _ (by simp))) (.inl rfl) (fun k95 x95 o95 h95=>?_) (fun k95=>?_)
      rotate_left
      · skip
        refine thenQ.p (blkQ.p (thenQ.p ?_))
        exact⟨_,QI [.k,.k] _,_,rfl,rfl,Qk [.k,.k] _,EvR.er ((Ch hlo).trans (ao_2 (k:=true) hq88 (UN k95))) k95⟩
      obtain⟨q95,f95,hq95,rfl,rfl⟩:=h95
      exact Zq rfl (TL (.r rfl) (.r rfl)) (Zq rfl (QW.call YY (.cons (.r rfl) .nil) (Wi _)) (Qa 0 Ql (.r rfl) rfl (.r rfl) rfl rfl rfl rfl (Zn (J.ret (blkQ.r (thenQ.r (Zr [.k,.k,.p] (RetEv.one rfl (REv.cell 0 Ql rfl rfl rfl rfl lr)) rfl (EvR.ok (v:=.tr q95) ((Ch hlo).trans (ao_3 (k:=true) hq88 hq95))))))))))
    have n19:¬o=19:=by simpa using c10
    refine Zs (Zq rfl (QW.eql (.r rfl) .const) (Za rfl (Zn ?_)))
    refine J.cond (.r rfl) (fun c11=>?_) (fun c11=>?_)
    · skip
      obtain rfl:o=21:=by simpa using c11
      obtain⟨a,y,z,rfl⟩:=ethree (l:=l) (by omega)
      refine J.seq (Zs (Zm rfl (Zd Wu rfl (Zl 1 Ki rfl (Zq rfl (Qi Yc Ub rfl (.r rfl) .const rfl (by rfl)) ?_)))))
      refine Zq rfl (Qm Ub (.r rfl) (QF xl rfl) xl) ?_
      refine Qn [.k,.k,.p] X6 rfl Lent.nil (fun _=>(.cons (.r rfl) (.cons (.r rfl) .nil))) (Yt (e:=a) (f:=f-1) ih Xc.self (hwl _ (by simp)) (hfl _ (by simp)) hs h1 (hsz _ (by simp))) (.inl rfl) (fun k105 x105 o105 h105=>?_) (fun k105=>?_)
      rotate_left
      · skip
        refine thenQ.p (thenQ.p (blkQ.p (thenQ.p ?_)))
        exact⟨_,QI [.k,.k] _,_,rfl,rfl,Qk [.k,.k] _,EvR.er ((Tk hlo).trans (if_er (UN k105))) k105⟩
      obtain⟨q105,f105,hq105,rfl,rfl⟩:=h105
      refine Zn ?_
      refine J.cond (.r rfl) (fun c12=>?_) (fun c12=>?_)
      · skip
        obtain rfl:q105=true:=c12
        have h2:He f105:=Kp (hwl _ (by simp)) (hfl _ (by simp)) hs h1 hq105
        refine Zs (Zm rfl (Zd Wu rfl (Zl 1 Ki rfl (Zq rfl (Qi Yc Ub rfl (.r rfl) .const rfl (by rfl)) ?_))))
        refine Zq rfl (Qm Ub (.r rfl) (QF xl rfl) xl) ?_
        refine Qn [.k,.k,.p] X8 rfl Lent.nil (fun _=>(.cons (.r rfl) (.cons (.r rfl) .nil))) (ih y s f105 b fr (hwl _ (by simp)) (hfl _ (by simp)) hs h2 (hsz _ (by simp))) (.inl rfl) (fun k111 x111 o111 h111=>?_) (fun k111=>?_)
        rotate_left
        · skip
          refine thenQ.p (thenQ.p (blkQ.p (thenQ.p ?_)))
          exact⟨_,QI [.k,.k] _,_,rfl,rfl,Qk [.k,.k] _,EvR.er ((Tk hlo).trans ((if_t hq105).trans (UN k111))) k111⟩
        obtain⟨v111,f111,hv111,rfl,rfl⟩:=h111
        exact Qa 0 Ql (.r rfl) rfl (.r rfl) rfl vl rfl rfl (Zn (J.ret (thenQ.r (blkQ.r (thenQ.r (Zr [.k,.k,.p] (RetEv.one rfl (REv.cell 0 Ql rfl rfl (Qo vl rfl) vl lr)) rfl (EvR.ok ((Tk hlo).trans ((if_t hq105).trans hv111)))))))))
      obtain rfl:q105=false:=c12
      have h2:He f105:=Kp (hwl _ (by simp)) (hfl _ (by simp)) hs h1 hq105
      refine Zk (Zs (Zm rfl (Zd Wu rfl (Zl 1 Ki rfl (Zq rfl (Qi Yc Ub rfl (.r rfl) .const rfl (by rfl)) ?_)))))
      refine Zq rfl (Qm Ub (.r rfl) (QF xl rfl) xl) ?_
      refine Qn [.k,.k,.p] X8 rfl Lent.nil (fun _=>(.cons (.r rfl) (.cons (.r rfl) .nil))) (ih z s f105 b fr (hwl _ (by simp)) (hfl _ (by simp)) hs h2 (hsz _ (by simp))) (.inl rfl) (fun k117 x117 o117 h117=>?_) (fun k117=>?_)
      rotate_left
      · skip
        refine thenQ.p (blkQ.p (thenQ.p ?_))
        exact⟨_,QI [.k,.k] _,_,rfl,rfl,Qk [.k,.k] _,EvR.er ((Tk hlo).trans ((if_f hq105).trans (UN k117))) k117⟩
      obtain⟨v117,f117,hv117,rfl,rfl⟩:=h117
      exact Qa 0 Ql (.r rfl) rfl (.r rfl) rfl vl rfl rfl (Zn (J.ret (blkQ.r (thenQ.r (Zr [.k,.k,.p] (RetEv.one rfl (REv.cell 0 Ql rfl rfl (Qo vl rfl) vl lr)) rfl (EvR.ok ((Tk hlo).trans ((if_f hq105).trans hv117))))))))
    have n21:¬o=21:=by simpa using c11
    refine J.seq (Zs (Zq rfl (QW.eql (.r rfl) .const) (Za rfl (Zn ?_))))
    refine J.cond (.r rfl) (fun c12=>?_) (fun c12=>?_)
    · skip
      have ho:o=27∨o=28∨o=29:=by(have hh:=c12;simp at hh;omega)
      obtain⟨a,y,rfl⟩:=Ps (l:=l) (by omega)
      refine Zk ?_
      refine J.cond (.r rfl) (fun c13=>?_) (fun c13=>absurd c13 (by rw[c12];decide))
      refine Zs (Zm rfl (Zq rfl (Qe 1 Ub (.r rfl) rfl rfl rfl) ?_))
      refine Qn [.k,.k,.p] NZ rfl Lent.nil (fun _=>(.cons (.r rfl) (.cons (.r rfl) .nil))) (LU (f:=f-1) ih Xc.mk ho (hwl _ (by simp)) (hwl _ (by simp)) (hfl _ (by simp)) (hfl _ (by simp)) (hsz _ (by simp)) (hsz _ (by simp)) hs h1) (.inl rfl) (fun k124 x124 o124 h124=>?_) (fun k124=>?_)
      rotate_left
      · skip
        refine thenQ.p (blkQ.p (thenQ.p ?_))
        exact⟨_,QI [.k,.k] _,_,rfl,rfl,Qk [.k,.k] _,EvR.er ((KV ho hlo).trans (UN k124)) k124⟩
      obtain⟨v124,f124,hv124,rfl,rfl⟩:=h124
      exact Qa 0 Ql (.r rfl) rfl (.r rfl) rfl vl rfl rfl (Zn (J.ret (blkQ.r (thenQ.r (Zr [.k,.k,.p] (RetEv.one rfl (REv.cell 0 Ql rfl rfl (Qo vl rfl) vl lr)) rfl (EvR.ok ((KV ho hlo).trans hv124)))))))
    have n27:¬o=27:=by simpa using c12
    refine Zs (Zq rfl (QW.eql (.r rfl) .const) (Za rfl (Zn ?_)))
    refine J.cond (.r rfl) (fun c13=>?_) (fun c13=>?_)
    · skip
      have ho:o=27∨o=28∨o=29:=by(have hh:=c13;simp at hh;omega)
      obtain⟨a,y,rfl⟩:=Ps (l:=l) (by omega)
      refine Zk ?_
      refine J.cond (.r rfl) (fun c14=>?_) (fun c14=>absurd c14 (by rw[c13];decide))
      refine Zs (Zm rfl (Zq rfl (Qe 1 Ub (.r rfl) rfl rfl rfl) ?_))
      refine Qn [.k,.k,.p] NZ rfl Lent.nil (fun _=>(.cons (.r rfl) (.cons (.r rfl) .nil))) (LU (f:=f-1) ih Xc.mk ho (hwl _ (by simp)) (hwl _ (by simp)) (hfl _ (by simp)) (hfl _ (by simp)) (hsz _ (by simp)) (hsz _ (by simp)) hs h1) (.inl rfl) (fun k124 x124 o124 h124=>?_) (fun k124=>?_)
      rotate_left
      · skip
        refine thenQ.p (blkQ.p (thenQ.p ?_))
        exact⟨_,QI [.k,.k] _,_,rfl,rfl,Qk [.k,.k] _,EvR.er ((KV ho hlo).trans (UN k124)) k124⟩
      obtain⟨v124,f124,hv124,rfl,rfl⟩:=h124
      exact Qa 0 Ql (.r rfl) rfl (.r rfl) rfl vl rfl rfl (Zn (J.ret (blkQ.r (thenQ.r (Zr [.k,.k,.p] (RetEv.one rfl (REv.cell 0 Ql rfl rfl (Qo vl rfl) vl lr)) rfl (EvR.ok ((KV ho hlo).trans hv124)))))))
    have n28:¬o=28:=by simpa using c13
    refine Qg (Zq rfl (QW.eql (.r rfl) .const) (Za rfl (Zn ?_)))
    refine J.cond (.r rfl) (fun c14=>?_) (fun c14=>?_)
    · skip
      have ho:o=27∨o=28∨o=29:=by(have hh:=c14;simp at hh;omega)
      obtain⟨a,y,rfl⟩:=Ps (l:=l) (by omega)
      refine Zs (Zm rfl (Zq rfl (Qe 1 Ub (.r rfl) rfl rfl rfl) ?_))
      refine Qn [.k,.k,.p] NZ rfl Lent.nil (fun _=>(.cons (.r rfl) (.cons (.r rfl) .nil))) (LU (f:=f-1) ih Xc.mk ho (hwl _ (by simp)) (hwl _ (by simp)) (hfl _ (by simp)) (hfl _ (by simp)) (hsz _ (by simp)) (hsz _ (by simp)) hs h1) (.inl rfl) (fun k124 x124 o124 h124=>?_) (fun k124=>?_)
      rotate_left
      · skip
        refine thenQ.p (blkQ.p (thenQ.p ?_))
        exact⟨_,QI [.k,.k] _,_,rfl,rfl,Qk [.k,.k] _,EvR.er ((KV ho hlo).trans (UN k124)) k124⟩
      obtain⟨v124,f124,hv124,rfl,rfl⟩:=h124
      exact Qa 0 Ql (.r rfl) rfl (.r rfl) rfl vl rfl rfl (Zn (J.ret (blkQ.r (thenQ.r (Zr [.k,.k,.p] (RetEv.one rfl (REv.cell 0 Ql rfl rfl (Qo vl rfl) vl lr)) rfl (EvR.ok ((KV ho hlo).trans hv124)))))))
    have n29:¬o=29:=by simpa using c14
    have hpl:o=23∨(8≤o∧o≠18∧o≠19∧o≠21∧o≠27∧o≠28∧o≠29):=by omega
    refine J.skip (blkQ.n (thenQ.n (Zs (Zq rfl (QW.assign .const) (Zn (J.seq (Zs (Zd Wu rfl (Zl 1 Ki rfl ?_)))))))))
    refine Zq rfl (Qh Yc (.r rfl) (EX.css_length _ _)) (Zq rfl (QW.move .const) (Zn (J.block (J.reown (Up eV _) (Ua (ι:=Nat×Value×List V×Int) [0,3,4,126,127] (fun⟨j,v,vs,g1⟩=>[(128,.c (.int .i64 (j:Int))),(5,.c v)]) (fun⟨j,v,vs,g1⟩ oo=>List.set (List.set oo 3 (.arr v eV (V.css false vs))) 2 (mb b s g1)) (fun⟨j,v,vs,g1⟩=>j≤l.length∧vs.length=j∧(∀x∈vs,x.good)∧He g1∧Uy l s (f-1)=HZ vs (Uy (l.drop j) s g1)) (fun⟨j,v,vs,g1⟩=>l.length-j) ⟨0,.slice none 0 0,[],f-1⟩ (⟨Nat.zero_le _,rfl,(fun _ h=>by cases h),h1,C9 _⟩) (QQ (.cons rfl lr (.cons rfl lr (.cons rfl lr (.cons rfl lr (.cons rfl lr (.cons rfl lr (.cons rfl lr .nil))))))) (Reown.refl _) (fun _ h=>by first|exact h|simp[h])) ?_)))))
    intro⟨j,v,vs,g1⟩ ⟨hj,hvl,hvg,hg1,hevs⟩
    refine J.conv (by(try simp only[nl,Qj,QA,QC,Qy,QZ,AV.cellsOf,Qc,Qd,Nat.reduceAdd]);rfl) ?_
    refine Zs (Zq rfl (QW.lss (.r rfl) (.r rfl)) (Zn (J.seq ?_)))
    refine J.cond (.r rfl) (fun c15=>?_) (fun c15=>?_)
    · skip
      have hlt:j<l.length:=by simpa[EX.css_length]using c15
      refine Zk (J.seq (J.block (Zs (Zq rfl (Qi Yc Ub rfl (.r rfl) (.r rfl) rfl (by exact EX.css_getE _ hlt)) ?_))))
      refine Zq rfl (Qm Ub (.r rfl) (QF xl rfl) xl) (JL.alloc P0 rfl rfl fun b7=>Qa 0 Ub (.r rfl) rfl (.r rfl) rfl xl rfl rfl (Zn (Qg (Zm rfl (Zm rfl (Zq rfl (Qe 0 Ub (.r rfl) rfl (Qo xl rfl) xl) ?_))))))
      refine Qn [.k,.k,.k,.p] X8 rfl Lent.nil (fun _=>(.cons (.r rfl) (.cons (.r rfl) .nil))) (ih l[j] s g1 b fr (hwl _ (List.getElem_mem hlt)) (hfl _ (List.getElem_mem hlt)) hs hg1 (hsz _ (List.getElem_mem hlt))) (.inl rfl) (fun k135 x135 o135 h135=>?_) (fun k135=>?_)
      rotate_left
      · skip
        refine blkQ.p (thenQ.p (thenQ.p (blkQ.p (thenQ.p ?_))))
        exact⟨_,QI [.k,.k,.k,.k] _,_,rfl,rfl,Qk [.k,.k,.k,.k] _,EvR.er ((Cg hlo hpl).trans (plE_no (hevs.trans (QaZ hlt (UN k135))))) k135⟩
      obtain⟨v135,f135,hv135,rfl,rfl⟩:=h135
      refine Zq rfl (QW.buildSlice (idx:=[0]) (xs:=[v135.cs false]) QU GX Yd rfl (.cons (.r rfl) .nil) rfl rfl rfl rfl rfl (by exact Lr vl) rfl (Rj vl) rfl) ?_
      refine JL.append 4 QU GX rfl (.r rfl) rfl (U8 QU (.r rfl)) (by rw[V.css_length];show(_+1)*80≤_;unfold Qr;omega) rfl fun v137=>?_
      refine Za rfl (JL.nil (blkQ.n (thenQ.n ?_)))
      rw[PB]
      refine Qg (Zq rfl (QW.add (.r rfl) .const (Yy (by omega))) (Zm rfl (Zn ?_)))
      rw[Pq hlt hv135]at hevs
      obtain⟨hgv,hfv⟩:=HC (hwl _ (List.getElem_mem hlt)) (hfl _ (List.getElem_mem hlt)) hs hg1 hv135
      exact⟨⟨j+1,v137,vs++[v135],f135⟩,⟨hlt,by simp[hvl],fun z hz=>(List.mem_append.1 hz).elim (hvg z) (fun h=>by rw[List.mem_singleton.1 h];exact hgv),hfv,hevs⟩,by show l.length-(j+1)<l.length-j;omega,QQ (.cons rfl lr (.cons rfl lr (.cons rfl lr (.cons rfl lr (.cons rfl lr (.cons rfl lr (.cons rfl lr .nil))))))) (Q3 1 _ rfl) (fun _ h=>by first|exact h|simp[h])⟩
    have hge:l.length≤j:=by simpa[EX.css_length]using c15
    refine J.exit (Qz (Qz (QY (thenQ.n (J.seq ?_)))))
    have hlj:j=l.length:=by omega
    rw[List.drop_of_length_le hge,Pr]at hevs
    refine J.closeArr 3 rfl (by rw[V.css_length];show _*80≤_;unfold Qr;omega) rfl (fun z hz=>by simp only[mb,QT,UW,Own.fp,List.append_nil,List.mem_singleton]at hz;subst hz;simp[mb,QT,Own.fp]) ?_
    refine Qg (Zq rfl (Qe 1 Ub (.r rfl) rfl rfl rfl) (Zm rfl ?_))
    refine Qn [] Qao rfl Lent.nil (fun _=>(.cons (.r rfl) (.cons (Ev.le (.r rfl) (.fact (by simp) (.slL (fr:=true) (clip:=false) (fun h=>by cases h) rfl (V.css_sz false _) (.refl _)))) .nil))) (Bt Xc.mk htr hvg ⟨by omega,by omega⟩) (.inl rfl) (fun k141 x141 o141 h141=>?_) (fun k141=>?_)
    rotate_left
    · skip
      refine thenQ.p ?_
      exact⟨_,QI [.k,.k,.k] _,_,rfl,rfl,Qk [.k,.k,.k] _,EvR.er ((Cg hlo hpl).trans (plE_er hevs (UN k141))) k141⟩
    obtain⟨v141,hv141,rfl,rfl⟩:=h141
    exact Qa 0 Ql (.r rfl) rfl (.r rfl) rfl vl rfl rfl (Zn (J.ret (Zr [.k,.k,.p] (RetEv.one rfl (REv.cell 0 Ql rfl rfl (Qo vl rfl) vl lr)) rfl (EvR.ok ((Cg hlo hpl).trans (plE_ok hevs hv141))))))

end
end Go.Proofs.YtammalmlbabpbaaGreat.J
