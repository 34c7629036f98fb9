/- Texts of this proof, laid together. -/
import Derived.Test.YtammalmlbabpbaaGreatX3RViewWords
import Derived.Laws.MakeOwn
import Derived.MapKept
import Derived.Lib.ConvBytes
import Derived.Laws.AppendOwn
import Derived.Laws.StructEq
import Derived.Laws.Cover1
import Derived.Shelf.SlSortCmp.WholeK
import Derived.Shelf.SlSortCmp.NoneTotal
import Derived.Ground.SlsfProg
set_option linter.unusedVariables false
set_option linter.unusedSimpArgs false
namespace Go.Proofs.YtammalmlbabpbaaGreat.J
open Go Go.RowKit
section
/- Walks: both walks over an expression. -/
set_option maxRecDepth 10000
set_option maxHeartbeats 4000000
theorem EX.chks_cons{is:List EX}{j:Nat}(h:j<is.length)(lev n:Int):EX.chks (is.drop j) lev n=if(EX.chk is[j] (lev+1) n).1≠0 then EX.chk is[j] (lev+1) n else EX.chks (is.drop (j+1)) lev (EX.chk is[j] (lev+1) n).2:=by
  rw[List.drop_eq_getElem_cons h,EX.chks]
theorem EX.depths_cons{is:List EX}{j:Nat}(h:j<is.length):EX.depths (is.drop j)=max is[j].depth (EX.depths (is.drop (j+1))):=by
  rw[List.drop_eq_getElem_cons h,EX.depths]
def EWR(v:EX)(lev p d:Int)(bw:Nat):Wf→List Own→Prop:=PanR ((v.chk lev p).1=0) (WL (v.chk lev p).1) fun x o=>x=.tup []∧o=[wk bw (v.chk lev p).2 (max d (lev+v.depth-1))]
theorem QaR:∀(n:Nat) {v:EX} {ys:List AV} {fr:Bool} {lev p d:Int} {bw:Nat},Xc fr v ys→v.wf→1≤lev∧lev≤9→0≤p∧p≤64→v.sz≤n→
    AC Tryz.prog 195 [wk bw p d] [.c (.pointer (some ⟨bw,0,none⟩)),.agg ys,.c (.int .i64 lev)] (EWR v lev p d bw):=by
  intro n
  induction n with
  |zero=>intro v ys fr lev p d bw hv hw hl hp h;exact absurd h (by have:=EX.sz_pos v;omega)
  |succ n ih=>
    intro v ys fr lev p d bw hv hw hl hp hn
    obtain⟨o,b,t,is⟩:=v
    subst hv
    obtain⟨-,-,-,hi80,hwi⟩:=hw.inv
    have hi64:is.length≤9223372036854775806:=by unfold Qs at hi80;omega
    refine AC.of_J Tryz.func195 rfl Tryz.ntmps195 rfl fun w0 A0=>?_
    refine Zs (Qq (.r rfl) rfl fun b4=>Zn (Zs (Zm rfl (Zq rfl (QW.leq (.r rfl) .const) ?_))))
    refine Qm [] NT rfl Lent.nil (fun _=>(.cons (.r rfl) (.cons .const .nil))) (NF _ _) (.inl rfl) (fun k10 x10 o10 h10=>?_) (fun k10=>?_)
    rotate_left
    · skip
      refine thenQ.p ?_
      exact⟨_,QC [.k,.k] _,_,rfl,rfl,Qj [.k,.k] _,PanR.of (by simp[EX.chk,show 8<lev by simpa using k10]) (by decide)⟩
    obtain⟨rfl,rfl⟩:=h10
    refine Zn (Zs ?_)
    have hk10:lev≤8:=by simpa using k10
    refine Zm rfl (Zu rfl (Zd Li rfl (Zl 1 Uy rfl (Zq rfl (QW.lss (.r rfl) .const) ?_))))
    refine Qm [] NT rfl Lent.nil (fun _=>(.cons (.r rfl) (.cons .const .nil))) (NF _ _) (.inl rfl) (fun k16 x16 o16 h16=>?_) (fun k16=>?_)
    rotate_left
    · skip
      refine thenQ.p ?_
      exact⟨_,QC [.k,.k] _,_,rfl,rfl,Qj [.k,.k] _,PanR.of (by simp[EX.chk,show ¬8<lev by omega,show 64≤p by simpa using k16]) (by decide)⟩
    obtain⟨rfl,rfl⟩:=h16
    refine Zn (Zs ?_)
    have hk16:p<64:=by simpa using k16
    refine Zq rfl (Qe 0 Q6 (.r rfl) rfl rfl rfl) (Zq rfl (QW.call Qak (.cons (.r rfl) .nil) (Po Xc.mk)) ?_)
    refine Qm [] NT rfl Lent.nil (fun _=>(.cons (.r rfl) (.cons .const .nil))) (NF _ _) (.inl rfl) (fun k19 x19 o19 h19=>?_) (fun k19=>?_)
    rotate_left
    · skip
      refine thenQ.p ?_
      exact⟨_,QC [.k,.k] _,_,rfl,rfl,Qj [.k,.k] _,PanR.of (by simp[EX.chk,show ¬8<lev by omega,show ¬64≤p by omega,show(EX.mk o b t is).ok=false by simpa using k19]) (by decide)⟩
    obtain⟨rfl,rfl⟩:=h19
    refine Zn (Zs ?_)
    have hk19:(EX.mk o b t is).ok=true:=k19
    refine Zm rfl (Zu rfl (Zd Li rfl (Zl 1 Uy rfl (Zq rfl (QW.add (.r rfl) .const (Ym (by omega))) (Zu rfl (Zd Li rfl (JL.store_box 1 Uy (.r rfl) rfl (.r rfl) rfl rfl rfl rfl rfl (Zn (Zs ?_)))))))))
    refine Zm rfl (Zm rfl (Zu rfl (Zd N2 rfl (Zl 1 Uy rfl (Zm rfl (Zq rfl (QW.max2 (.r rfl) (.r rfl)) (Zu rfl (Zd N2 rfl (JL.store_box 1 Uy (.r rfl) rfl (.r rfl) rfl rfl rfl rfl rfl ?_)))))))))
    refine Zn (Zs (Zd Wt rfl (Zl 0 Kj rfl (Zq rfl (QF W4 (.r rfl)) (Zq rfl (QW.move .const) (Zn (J.block ?_)))))))
    have hck:EX.chk (.mk o b t is) lev p=EX.chks is lev (p+1):=by unfold EX.chk;rw[if_neg (by omega),if_neg (by omega),if_neg (by simp[hk19])]
    refine Ua (ι:=Nat×Int×Int) [0,2,37,38] (fun⟨j,q,e⟩=>[(39,.c (.int .i64 (j:Int)))]) (fun⟨j,q,e⟩ oo=>List.set oo 1 (wk bw q e)) (fun⟨j,q,e⟩=>j≤is.length∧EX.chks is lev (p+1)=EX.chks (is.drop j) lev q∧max e (lev+EX.depths (is.drop j))=max d (lev+EX.depths is)∧(0≤q∧q≤64∧lev≤e)) (fun⟨j,q,e⟩=>is.length-j) ⟨0,p+1,if lev>d then lev else d⟩ (⟨Nat.zero_le _,rfl,by have:=EX.depths_nonneg is;rw[List.drop_zero];split<;>omega,by split<;>omega⟩) (QQ (.cons rfl lr (.cons rfl lr (.cons rfl lr (.cons rfl lr (.cons rfl lr .nil))))) (Reown.refl _) (fun _ h=>by first|exact h|simp[h])) ?_
    intro⟨j,q,e⟩ ⟨hj,hcs,hde,hq⟩
    refine J.conv (by(try simp only[nl,Qk,Qv,Qw,Qu,QZ,AV.cellsOf,Qb,Qc,Nat.reduceAdd]);rfl) ?_
    refine Zs (Zq rfl (QW.lss (.r rfl) (.r rfl)) (Zn (J.seq ?_)))
    refine J.cond (.r rfl) (fun c1=>?_) (fun c1=>?_)
    · skip
      have hlt:j<is.length:=by simpa[EX.css_length]using c1
      refine Zk (J.seq (J.block (Zs (Zq rfl (Qi W4 Q6 rfl (.r rfl) (.r rfl) rfl (by exact EX.css_getE _ hlt)) ?_))))
      refine Zq rfl (Qo Q6 (.r rfl) (QI xl rfl) xl) (JL.alloc PT rfl rfl fun b7=>Qa 0 Q6 (.r rfl) rfl (.r rfl) rfl xl rfl rfl (Zn (Qf (Zm rfl (Zq rfl (Qe 0 Q6 (.r rfl) rfl (Qn xl rfl) xl) (Zm rfl (Zq rfl (QW.add (.r rfl) .const (Ym (by omega))) ?_)))))))
      refine Qm [.k,.k,.p] EP rfl Lent.nil (fun _=>(.cons (.r rfl) (.cons (.r rfl) (.cons (.r rfl) .nil)))) (ih (Xc.self) (hwi _ (List.getElem_mem _)) (by omega) (by omega) (EX.sz_get hn hlt)) (.inl rfl) (fun k47 x47 o47 h47=>?_) (fun k47=>?_)
      rotate_left
      · skip
        refine blkQ.p (thenQ.p (thenQ.p (blkQ.p ?_)))
        rw[EX.chks_cons hlt,if_pos k47]at hcs
        have he:=hck.trans hcs
        exact⟨_,QC [.k,.k] _,_,rfl,rfl,Qj [.k,.k] _,PanR.of (by rw[he]) k47⟩
      obtain⟨rfl,rfl⟩:=h47
      refine JL.nil (blkQ.n (thenQ.n (Qf (Zq rfl (QW.add (.r rfl) .const (Ym (by omega))) (Zm rfl (Zn ?_))))))
      have hb:=EX.chk_bounds is[j] (lev+1) q
      rw[EX.chks_cons hlt,if_neg (by simp[k47])]at hcs
      rw[EX.depths_cons hlt]at hde
      exact⟨⟨j+1,(EX.chk is[j] (lev+1) q).2,max e (lev+1+is[j].depth -1)⟩,⟨hlt,hcs,by omega,by omega⟩,by show is.length-(j+1)<is.length-j;omega,QQ (.cons rfl lr (.cons rfl lr (.cons rfl lr (.cons rfl lr (.cons rfl lr .nil))))) (Q3 1 _ rfl) (fun _ h=>by first|exact h|simp[h])⟩
    have hge:is.length≤j:=by simpa[EX.css_length]using c1
    refine J.exit (Qy (Qy (Q1 ?_)))
    obtain rfl:j=is.length:=by omega
    simp only[List.drop_length,EX.chks,EX.depths]at hcs hde
    have he:=hck.trans hcs
    exact Zr [.k,.p] (RetEv.none rfl) rfl (PanR.ret (by rw[he]) ⟨rfl,by rw[he];unfold EX.depth;rw[show max d (lev+(1+EX.depths is)-1)=e by omega];rfl⟩)

end
section
/- Walks: sizes, checks of expressions; are two one. -/
set_option maxRecDepth 10000
set_option maxHeartbeats 4000000
theorem FY(c:Nat)(z:Int):AC Tryz.prog 194 [UA c z] [.c .nilIface,.c (.pointer (some ⟨c,0,none⟩))] (YQ fun x o=>x=.c (.bool false)∧o=[UA c z]):=by
  refine AC.of_J Tryz.func194 rfl Tryz.ntmps194 rfl fun w0 A0=>?_
  refine Zs (Zq rfl (QW.assign .const) (Zn (Zs (Zm rfl (Zq rfl (Yx ⟨_,Tryz.underlying47,by intro ms h;cases h⟩ KG (.r rfl)) ?_)))))
  refine Zm rfl (Zx rfl (Zx rfl (Za rfl (Za rfl (Zn (J.seq (Zs (Zm rfl (Zn ?_)))))))))
  refine J.cond (.r rfl) (fun c1=>absurd c1 (by simp)) (fun c1=>?_)
  exact Zk (Zs (Zm rfl (Za rfl (Zn (J.ret (Zr [.p] (RetEv.one rfl (REv.tmp rfl lr)) rfl ⟨_,rfl,rfl,rfl⟩))))))
theorem FZ(c:Nat)(z e:Int):AC Tryz.prog 194 [UA c z] [.c (WL e),.c (.pointer (some ⟨c,0,none⟩))] (YQ fun x o=>x=.c (.bool true)∧o=[UA c e]):=by
  refine AC.of_J Tryz.func194 rfl Tryz.ntmps194 rfl fun w0 A0=>?_
  refine Zs (Zq rfl (QW.assign .const) (Zn (Zs (Zm rfl (Zq rfl (Yy ⟨_,Tryz.underlying47,by intro ms h;cases h⟩ (.r rfl)) ?_)))))
  refine Zm rfl (Zx rfl (Zx rfl (Za rfl (Za rfl (Zn (J.seq (Zs (Zm rfl (Zn ?_)))))))))
  refine J.cond (.r rfl) (fun c1=>?_) (fun c1=>absurd c1 (by simp))
  refine Qf (Zm rfl (Zm rfl (Zu rfl (JL.store_box 0 U8 (.r rfl) rfl (.r rfl) rfl rfl rfl rfl rfl (Zn (Zs (Zm rfl (Za rfl (Zn ?_)))))))))
  exact J.ret (Zr [.p] (RetEv.one rfl (REv.tmp rfl lr)) rfl ⟨_,rfl,rfl,rfl⟩)
theorem DB(a b c:Nat)(x y z:Int):DC Tryz.prog 193 [UA a x,UA c z,UA b y] [.c (.pointer (some ⟨a,0,none⟩)),.c (.pointer (some ⟨b,0,none⟩)),.c (.pointer (some ⟨c,0,none⟩))] .returning fun r u' o=>r=.ret (.tup [])∧u'=.returning∧o=[UA a x,UA c z,UA b y]:=by
  refine DC.of_JD Tryz.func193 rfl Tryz.ntmps193 rfl fun w0 A0=>?_
  refine JD.seq (Q9 rfl rfl (.inl ⟨rfl,rfl,rfl⟩) rfl (JL.callRF [.p] EQ rfl Lent.nil (fun _=>(.cons (.r rfl) (.cons (.r rfl) .nil))) (FY _ _) (.inl rfl) fun x4 o4 h4=>?_))
  obtain⟨rfl,rfl⟩:=h4
  refine JL.nil ?_
  refine Yz ?_
  refine JD.of_J rfl ?_
  refine J.cond (.r rfl) (fun c1=>absurd c1 (by simp)) (fun c1=>?_)
  refine J.skip ?_
  exact⟨_,QC [.p,.p,.p] _,_,RetEv.none rfl,rfl,Qj [.p,.p,.p] _,⟨rfl,rfl,rfl⟩⟩
theorem DD(a b c:Nat)(x y z e:Int):DC Tryz.prog 193 [UA a x,UA c z,UA b y] [.c (.pointer (some ⟨a,0,none⟩)),.c (.pointer (some ⟨b,0,none⟩)),.c (.pointer (some ⟨c,0,none⟩))] (.panicking [{v:=WL e,recovered:=false}]) fun r u' o=>r=.ret (.tup [])∧u'=.panicking [{v:=WL e,recovered:=true}]∧o=[UA a e,UA c 0,UA b 0]:=by
  refine DC.of_JD Tryz.func193 rfl Tryz.ntmps193 rfl fun w0 A0=>?_
  refine JD.seq (Q9 rfl rfl (.inr ⟨[],rfl,rfl⟩) rfl (JL.callRF [.p] EQ rfl Lent.nil (fun _=>(.cons (.r rfl) (.cons (.r rfl) .nil))) (FZ _ _ _) (.inl rfl) fun x4 o4 h4=>?_))
  obtain⟨rfl,rfl⟩:=h4
  refine JL.nil ?_
  refine Yz ?_
  refine JD.of_J rfl ?_
  refine J.cond (.r rfl) (fun c1=>?_) (fun c1=>absurd c1 (by simp))
  refine Qf (JL.store_box 2 Uy (.r rfl) rfl .const rfl rfl rfl rfl rfl (JL.store_box 1 Uy (.r rfl) rfl .const rfl rfl rfl rfl rfl (JL.nil ?_)))
  exact⟨_,QC [.p,.p,.p] _,_,RetEv.none rfl,rfl,Qj [.p,.p,.p] _,⟨rfl,rfl,rfl⟩⟩
def GQ(v:EX):AV:=.tup [.c (.int .i64 (if v.err=0 then v.cnt else 0)),.c (.int .i64 (if v.err=0 then v.depth else 0)),.c (.int .i64 v.err)]
theorem Dz{v:EX}{n d:Int}(h:v.err=0)(hn:n=v.cnt)(hd:d=v.depth):GQ v=.tup [.c (.int .i64 n),.c (.int .i64 d),.c (.int .i64 0)]:=by
  subst hn hd;simp[GQ,h]
theorem DA{v:EX}{e:Int}(h:¬v.err=0)(he:e=v.err):GQ v=.tup [.c (.int .i64 0),.c (.int .i64 0),.c (.int .i64 e)]:=by
  subst he;simp[GQ,h]
theorem Pn{fr:Bool}{v:EX}{ys:List AV}(hv:Xc fr v ys)(hw:v.wf):Fn Tryz.prog 147 [.agg ys] (GQ v):=by
  subst hv
  refine AC.of_JD Tryz.func147 rfl Tryz.ntmps147 rfl fun w0 A0=>?_
  refine Zs (Qq (.r rfl) rfl fun b1=>JL.alloc z3 rfl rfl fun b2=>JL.alloc z3 rfl rfl fun b3=>JL.alloc z47 rfl rfl fun b4=>Zn (Zs (Zq rfl (WH .nil (.cons (.r rfl) (.cons (.r rfl) (.cons (.r rfl) .nil)))) (JL.defer rfl (.r rfl) (Zn ?_)))))
  refine Zs (JL.alloc z302 rfl rfl fun b5=>Zn (Zs (Zq rfl (Qe 4 Q6 (.r rfl) rfl (Qn xl rfl) xl) ?_)))
  refine Qm [.p] EP rfl Lent.nil (fun _=>(.cons (.r rfl) (.cons (.r rfl) (.cons .const .nil)))) (QaR _ Xc.self hw (by omega) (by omega) (Nat.le_refl _)) (.inl rfl) (fun k8 x8 o8 h8=>?_) (fun k8=>?_)
  rotate_left
  · skip
    refine thenQ.p ?_
    exact⟨_,_,[],[_,_,_],QC [.p,.p,.p] _,_,rfl,rfl,ES,Qj [.p,.p,.p] _,DC.mono (DD _ _ _ _ _ _ _) fun r u' o ⟨h1,h2,h3⟩=>by subst h1 h2 h3;exact⟨⟨_,rfl⟩,rfl,_,[],_,UX rfl (QO 2 Uy rfl rfl rfl lr) (QO 1 Uy rfl rfl rfl lr) (QO 0 U8 rfl rfl rfl lr),List.Perm.refl _,(congrArg Wf.ret (DA k8 rfl)).symm,rfl⟩⟩
  obtain⟨rfl,rfl⟩:=h8
  refine Zn (J.seq (WP 5 1 (fun os_ ow_ x_ o_=>match os_ with|[]=>(x_=.c undef∧o_=ow_.set 3 (UA b2 (v.chk 1 0).2))|_=>False) mixed (by kernel_rfl) (by kernel_rfl) (by kernel_rfl) rfl ?_))
  refine OutK.quiet [] rfl rfl rfl (fun qs_ qv_ ql_=>(.q rfl (Qg Li (.r rfl) rfl))) ?_
  refine OutK.quiet [9] rfl rfl rfl (fun qs_ qv_ ql_=>by
      rcases qs_ with _|⟨⟨y0,p0⟩,qs_⟩
      · skip
        exact(.q rfl (Qd 0 Uy (.r rfl) rfl rfl))
      rcases qs_ with _|⟨⟨y1,p1⟩,qs_⟩
      · skip
        obtain⟨hr0,_⟩:=qv_
        obtain⟨rfl,rfl⟩:=hr0
        exact(.q rfl (Qd 0 Uy (.r rfl) rfl rfl))
      exact absurd ql_ (by simp)) ?_
  refine OutK.quiet [] rfl rfl rfl (fun qs_ qv_ ql_=>(.q rfl (Qg N2 (.r rfl) rfl))) ?_
  refine OutK.quiet [11] rfl rfl rfl (fun qs_ qv_ ql_=>by
      rcases qs_ with _|⟨⟨y0,p0⟩,qs_⟩
      · skip
        exact(.q rfl (Qd 0 Uy (.r rfl) rfl rfl))
      rcases qs_ with _|⟨⟨y1,p1⟩,qs_⟩
      · skip
        obtain⟨hr0,_⟩:=qv_
        obtain⟨rfl,rfl⟩:=hr0
        exact(.q rfl (Qd 0 Uy (.r rfl) rfl rfl))
      exact absurd ql_ (by simp)) ?_
  refine OutK.store [10] rfl (fun qs_ ow x o h ql_=>by
      obtain rfl:qs_=[]:=List.length_eq_zero_iff.1 (by simpa using ql_)
      exact h.1) rfl rfl rfl (fun qs_ qv_ ql_=>by
      obtain rfl:qs_=[]:=List.length_eq_zero_iff.1 ql_
      exact No rfl (LStep.store_box 3 Uy (.r rfl) rfl (.r rfl) rfl rfl rfl rfl rfl) ⟨rfl,rfl⟩) ?_
  refine .nil fun qs_ qv_ ql_=>?_
  obtain⟨⟨y0,p0⟩,qs_,rfl⟩:∃p t,qs_=p::t:=by(cases qs_ with|nil=>simp at ql_|cons p t=>exact⟨p,t,rfl⟩)
  obtain rfl:qs_=[]:=List.length_eq_zero_iff.1 (by simpa using ql_)
  obtain⟨hr0,_⟩:=qv_
  obtain⟨rfl,rfl⟩:=hr0
  refine JL.conv (by(try simp only[nl,Qk,Qv,Qw,Qu,QZ,AV.cellsOf,Qb,Qc,Nat.reduceAdd]);rfl) ?_
  refine JL.store_box 2 Uy (.r rfl) rfl (.r rfl) rfl rfl rfl rfl rfl (JL.store_box 1 U8 (.r rfl) rfl .const rfl rfl rfl rfl rfl (Zn (J.ret ?_)))
  exact⟨_,_,[],[_,_,_],QC [.k,.p,.p,.p] _,_,rfl,rfl,ES,Qj [.k,.p,.p,.p] _,DC.mono (DB _ _ _ _ _ _) fun r u' o ⟨h1,h2,h3⟩=>by subst h1 h2 h3;exact⟨⟨_,rfl⟩,rfl,_,[],_,UX rfl (QO 2 Uy rfl rfl rfl lr) (QO 1 Uy rfl rfl rfl lr) (QO 0 U8 rfl rfl rfl lr),List.Perm.refl _,(congrArg Wf.ret (Dz k8 rfl (by have:=EX.chk_depth v 1 0 k8;omega))).symm,rfl⟩⟩
theorem Hx{fr:Bool}{v:EX}{ys:List AV}(hv:Xc fr v ys)(hw:v.wf):Fn Tryz.prog 97 [.agg ys] (.c (.int .i64 v.err)):=by
  subst hv
  refine AC.of_J Tryz.func97 rfl Tryz.ntmps97 rfl fun w0 A0=>?_
  refine Zs (Qq (.r rfl) rfl fun b1=>Zq rfl (QW.assign .const) (Zn (Zs (Zq rfl (Qe 0 Q6 (.r rfl) rfl (Qn xl rfl) xl) (Zq rfl (QW.call Qax (.cons (.r rfl) .nil) (Pn (Xc.self) (by assumption))) ?_)))))
  refine Zm rfl (Zx rfl (Zx rfl (Zx rfl (Za rfl (Za rfl (Za rfl (Zn (Zs (Zm rfl ?_)))))))))
  exact Za rfl (Zn (J.ret (Zr [.k] (RetEv.one rfl (REv.tmp rfl lr)) rfl ⟨rfl,rfl⟩)))

end
section
/- Walks: are two expressions one; copies; octets that are copied, spoilt, compared. -/
set_option maxRecDepth 10000
set_option maxHeartbeats 4000000
theorem HY{a b:List EX}{k:Nat}(ha:k<a.length)(hb:k<b.length):EX.sames (a.drop k) (b.drop k)=(a[k].same b[k]&&EX.sames (a.drop (k+1)) (b.drop (k+1))):=by
  rw[List.drop_eq_getElem_cons ha,List.drop_eq_getElem_cons hb,EX.sames]
theorem L2:∀{a b:List EX},EX.sames a b=true→a.length=b.length
  |[],[],_=>rfl
  |x::r,y::s,h=>by simp only[EX.sames,Bool.and_eq_true]at h;simp[L2 h.2]
  |[],_::_,h=>by simp[EX.sames]at h
  |_::_,[],h=>by simp[EX.sames]at h
theorem D2{o o':Int}{b b':Nat}{t t':QL}{l l':List EX}:(EX.mk o b t l).same (EX.mk o' b' t' l')=(o==o'&&b==b'&&t==t'&&EX.sames l l'):=by simp[EX.same]
theorem SE(b b':Nat):((b:Int)==(b':Int))=(b==b'):=by rw[Bool.eq_iff_iff];simp only[beq_iff_eq];omega
theorem Fi{fr fr2:Bool}{f:FuncId}(hgo:QE Tryz.prog f=true){a b:List EX}(ha:a.length≤9223372036854775806)(hf:∀(j:Nat) (h:j<a.length) (h2:j<b.length),Fn Tryz.prog f [.agg (a[j].cs fr),.agg (b[j].cs fr2)] (.c (.bool (a[j].same b[j])))):Fn Tryz.prog 219 [.sl fr false Ru (EX.css fr a),.sl fr2 false Ru (EX.css fr2 b),.c (.func (.func f) #[] #[])] (.c (.bool (EX.sames a b))):=by
  refine AC.of_J Tryz.func219 rfl Tryz.ntmps219 rfl fun w0 A0=>?_
  refine Zs (Zq rfl (QW.assign .const) (Zn (J.seq (Zs (Zm rfl (Zq rfl (by first|exact Qh W4 (.r rfl) (EX.css_length _ _)|exact QF W4 (.r rfl)|exact QW.len_nil W4 (.r rfl)) ?_))))))
  refine Zm rfl (Zq rfl (by first|exact Qh W4 (.r rfl) (EX.css_length _ _)|exact QF W4 (.r rfl)|exact QW.len_nil W4 (.r rfl)) ?_)
  refine Zq rfl (QW.neq (.r rfl) (.r rfl)) (Zn ?_)
  refine J.cond (.r rfl) (fun c1=>?_) (fun c1=>?_)
  · skip
    skip
    exact Zs (Zq rfl (QW.assign .const) (Zn (J.ret (thenQ.r (Zr [] (RetEv.one rfl (REv.tmp rfl lr)) rfl ⟨Wl (by cases hs:EX.sames a b with|false=>rfl|true=>have:=L2 hs;simp[EX.css_length]at c1;omega),rfl⟩)))))
  have hl:a.length=b.length:=by simp[EX.css_length]at c1;omega
  refine Zk (J.seq (Zs (Zm rfl (Zq rfl (by first|exact Qh W4 (.r rfl) (EX.css_length _ _)|exact QF W4 (.r rfl)|exact QW.len_nil W4 (.r rfl)) ?_))))
  refine Zq rfl (QW.move .const) (Zn (J.block (Ua (ι:=Nat) [1,2,15,16] (fun j=>[(17,.c (.int .i64 (j:Int)))]) (fun _ oo=>oo) (fun j=>j≤a.length∧EX.sames a b=EX.sames (a.drop j) (b.drop j)) (fun j=>a.length-j) 0 (⟨Nat.zero_le _,rfl⟩) (QQ (.cons rfl lr (.cons rfl lr (.cons rfl lr (.cons rfl lr (.cons rfl lr .nil))))) (Reown.refl _) (fun _ h=>by first|exact h|simp[h])) ?_)))
  intro j ⟨hj,hs⟩
  refine J.conv (by(try simp only[nl,Qk,Qv,Qw,Qu,QZ,AV.cellsOf,Qb,Qc,Nat.reduceAdd]);rfl) ?_
  refine Zs (Zq rfl (QW.lss (.r rfl) (.r rfl)) (Zn (J.seq ?_)))
  refine J.cond (.r rfl) (fun c2=>?_) (fun c2=>?_)
  · skip
    have hlt:j<a.length:=by simpa[EX.css_length]using c2
    have hlt2:j<b.length:=by omega
    refine Zk (J.seq (J.block (Zs (Zm rfl (Zq rfl (Qi W4 Q6 rfl (.r rfl) (.r rfl) (by first|rfl|omega|(simp;done)) (by first|exact EX.css_getE _ hlt|exact EX.css_getE _ hlt2)) ?_)))))
    refine Zq rfl (by first|exact Qo Q6 (.r rfl) rfl rfl|exact Qo Q6 (.r rfl) (QI xl rfl) xl) ?_
    refine JL.alloc PT rfl rfl fun b8=>Za rfl ?_
    first|refine Qa 0 Q6 (.r rfl) rfl (.r rfl) (by first|rfl|assumption) rfl rfl rfl ?_|refine Qa 0 Q6 (.r rfl) rfl (.r rfl) (by first|rfl|assumption) rfl xl rfl ?_|refine Qa 0 Q6 (.r rfl) rfl (.r rfl) (by first|rfl|assumption) xl rfl rfl ?_|refine Qa 0 Q6 (.r rfl) rfl (.r rfl) (by first|rfl|assumption) xl xl rfl ?_|refine JL.store_box 0 Q6 (.r rfl) rfl (.r rfl) (by first|rfl|assumption) rfl rfl rfl rfl ?_|refine JL.store_box 0 Q6 (.r rfl) rfl (.r rfl) (by first|rfl|assumption) xl rfl rfl rfl ?_
    refine Zn (Zs (Zm rfl (Zm rfl (Zq rfl (Qi W4 Q6 rfl (.r rfl) (.r rfl) (by first|rfl|omega|(simp;done)) (by first|exact EX.css_getE _ hlt|exact EX.css_getE _ hlt2)) ?_))))
    refine Zq rfl (by first|exact Qo Q6 (.r rfl) rfl rfl|exact Qo Q6 (.r rfl) (QI xl rfl) xl) ?_
    refine JL.alloc PT rfl rfl fun b9=>?_
    first|refine Qa 0 Q6 (.r rfl) rfl (.r rfl) (by first|rfl|assumption) rfl rfl rfl ?_|refine Qa 0 Q6 (.r rfl) rfl (.r rfl) (by first|rfl|assumption) rfl xl rfl ?_|refine Qa 0 Q6 (.r rfl) rfl (.r rfl) (by first|rfl|assumption) xl rfl rfl ?_|refine Qa 0 Q6 (.r rfl) rfl (.r rfl) (by first|rfl|assumption) xl xl rfl ?_|refine JL.store_box 0 Q6 (.r rfl) rfl (.r rfl) (by first|rfl|assumption) rfl rfl rfl rfl ?_|refine JL.store_box 0 Q6 (.r rfl) rfl (.r rfl) (by first|rfl|assumption) xl rfl rfl rfl ?_
    refine Zn (Zs (Zm rfl (Zq rfl (by first|exact Qe 1 Q6 (.r rfl) rfl rfl rfl|exact Qe 1 Q6 (.r rfl) rfl (Qn xl rfl) xl) ?_)))
    refine Zq rfl (by first|exact Qe 0 Q6 (.r rfl) rfl rfl rfl|exact Qe 0 Q6 (.r rfl) rfl (Qn xl rfl) xl) ?_
    refine Zq rfl (QW.callV hgo (.r rfl) (.cons (.r rfl) (.cons (.r rfl) .nil)) rfl (hf j hlt hlt2)) (Zq rfl (QW.not (.r rfl)) (Zn ?_))
    refine J.cond (.r rfl) (fun c3=>?_) (fun c3=>?_)
    · skip
      simp at c3
      exact Zs (Zq rfl (QW.assign .const) (Zn (J.ret (blkQ.r (thenQ.r (thenQ.r (blkQ.r (thenQ.r (Zr [.k,.k] (RetEv.one rfl (REv.tmp rfl lr)) rfl ⟨Wl (by rw[hs,HY hlt hlt2,c3];rfl),rfl⟩)))))))))
    simp at c3
    refine J.skip (blkQ.n (thenQ.n (Qf (Zq rfl (QW.add (.r rfl) .const (by first|exact Wj (by first|rfl|omega|(simp;done)) (by omega)|exact Ym (by omega)|rfl)) ?_))))
    refine Zm rfl (Zn ?_)
    rw[HY hlt hlt2,c3,Bool.true_and]at hs
    exact⟨j+1,⟨hlt,hs⟩,by omega,QQ (.cons rfl lr (.cons rfl lr (.cons rfl lr (.cons rfl lr (.cons rfl lr .nil))))) (Q3 2 _ rfl) (fun _ h=>by first|exact h|simp[h])⟩
  have hge:a.length≤j:=by simpa[EX.css_length]using c2
  exact J.exit (Qy (Qy (Q1 (thenQ.n (Zs (Zq rfl (QW.assign .const) (Zn (J.ret (Zr [] (RetEv.one rfl (REv.tmp rfl lr)) rfl ⟨Wl (by rw[hs,List.drop_of_length_le hge,List.drop_of_length_le (by omega),EX.sames]),rfl⟩)))))))))
theorem Pr:∀(n:Nat) {v u:EX} {ys zs:List AV} {fr fr2:Bool},Xc fr v ys→Xc fr2 u zs→v.wf→u.wf→v.sz≤n→
    Fn Tryz.prog 190 [.agg ys,.agg zs] (.c (.bool (v.same u))):=by
  intro n
  induction n with
  |zero=>intro v u ys zs fr fr2 hv hu hw hw2 h;exact absurd h (by have:=EX.sz_pos v;omega)
  |succ n ih=>
    intro v u ys zs fr fr2 hv hu hw hw2 hn
    obtain⟨o,b,t,is⟩:=v
    obtain⟨o',b',t',is'⟩:=u
    subst hv hu
    obtain⟨-,-,-,hi80,hwi⟩:=hw.inv
    obtain⟨-,-,-,hi80',hwi'⟩:=hw2.inv
    have h1:is.length≤9223372036854775806:=by unfold Qs at hi80;omega
    have h2:is'.length≤9223372036854775806:=by unfold Qs at hi80';omega
    refine AC.of_J Tryz.func190 rfl Tryz.ntmps190 rfl fun w0 A0=>?_
    refine Zs (Qq (.r rfl) rfl fun b2=>Qq (.r rfl) rfl fun b3=>Zq rfl (QW.assign .const) (Zn (Zs (Zd Yf rfl (Zl 1 Uy rfl (Zd Yf rfl (Zl 0 Uy rfl ?_)))))))
    refine Zq rfl (QW.eql (.r rfl) (.r rfl)) (Zm rfl (Zg rfl (fun hg=>(Qg Hu (.r rfl) rfl)) (Zg rfl (fun hg=>(Qd 1 WK (.when rfl hg) rfl rfl)) (Zg rfl (fun hg=>(Qg Hu (.r rfl) rfl)) (Zg rfl (fun hg=>(Qd 0 WK (.when rfl hg) rfl rfl)) (Zg rfl (fun hg=>(QW.eql (.when rfl hg) (.when rfl hg))) (Zq rfl (QW.pick_and (.r rfl) (.r rfl)) (Zm rfl (Zg rfl (fun hg=>(Qg Ht (.r rfl) rfl)) ?_)))))))))
    refine Zg rfl (fun hg=>(Qd 1 U7 (.when rfl hg) rfl rfl)) (Zg rfl (fun hg=>(Qg Ht (.r rfl) rfl)) (Zg rfl (fun hg=>(Qd 0 U7 (.when rfl hg) rfl rfl)) (Zg rfl (fun hg=>(WO (.when rfl hg) (.when rfl hg))) (Zq rfl (QW.pick_and (.r rfl) (.r rfl)) (Zm rfl (Zg rfl (fun hg=>(Qg Wt (.r rfl) rfl)) (Zg rfl (fun hg=>(Qd 1 Kj (.when rfl hg) rfl rfl)) (Zg rfl (fun hg=>(Qg Wt (.r rfl) rfl)) (Zg rfl (fun hg=>(Qd 0 Kj (.when rfl hg) rfl rfl)) ?_)))))))))
    exact Zg rfl (fun hg=>(QW.call Qam (.cons (.when rfl hg) (.cons (.when rfl hg) (.cons .func .nil))) (Fi ET h1 (fun j h h2=>ih Xc.self Xc.self (hwi _ (List.getElem_mem h)) (hwi' _ (List.getElem_mem h2)) (EX.sz_get hn h))))) (Zq rfl (QW.pick_and (.r rfl) (.r rfl)) (Za rfl (Zn (J.ret (Zr [.k,.k] (RetEv.one rfl (REv.tmp rfl lr)) rfl ⟨Wl (by rw[D2,SE]),rfl⟩)))))
theorem Fk{v u:EX}{ys zs:List AV}{fr fr2:Bool}(hv:Xc fr v ys)(hu:Xc fr2 u zs)(hw:v.wf)(hw2:u.wf):Fn Tryz.prog 190 [.agg ys,.agg zs] (.c (.bool (v.same u))):=Pr _ hv hu hw hw2 (Nat.le_refl _)
theorem of14_n:∀(n:Nat) {v:EX} {ys:List AV} {fr:Bool},Xc fr v ys→v.wf→v.sz≤n→AC Tryz.prog 41 [] [.agg ys] (YQ (PS v)):=by
  intro n
  induction n with
  |zero=>intro v ys fr hv hw h;exact absurd h (by have:=EX.sz_pos v;omega)
  |succ n ih=>
    intro v ys fr hv hw hn
    obtain⟨o,b,t,is⟩:=v
    subst hv
    obtain⟨-,-,-,hi80,hwi⟩:=hw.inv
    have h1:is.length≤9223372036854775806:=by unfold Qs at hi80;omega
    refine AC.of_J Tryz.func41 rfl Tryz.ntmps41 rfl fun w0 A0=>?_
    refine Zs (Qq (.r rfl) rfl fun b1=>JL.alloc PT rfl rfl fun b2=>Zn (Zs (Zd fo25_0 rfl (Zl 1 Uy rfl (Zd fo25_1 rfl (Zl 1 WK rfl (Zd fo25_2 rfl ?_)))))))
    refine Zl 1 U7 rfl (Zq rfl (QW.build (idx:=[0,1,2]) pl36 PT rfl (.cons (.r rfl) (.cons (.r rfl) (.cons (.r rfl) .nil))) rfl rfl rfl rfl) (JL.alloc PT rfl rfl fun b3=>Qa 0 Q6 (.r rfl) rfl (.r rfl) rfl rfl rfl rfl (Zn (J.seq (Zs (Zq rfl (QW.assign .const) (Zn (J.block ?_))))))))
    refine J.reown (Up Ru _) (J.reown (XE _) (Ua (ι:=Nat×Value×List (List AV)×List Value×Own) [1,2,3] (fun⟨j,v,cs,us,g⟩=>[(4,.c (.int .i64 (j:Int)))]) (fun⟨j,v,cs,us,g⟩ oo=>List.set (List.set (List.set oo 0 (.box b3 ((EX.mk o b t is).raw v))) 3 (.arr v Ru cs)) 4 (g)) (fun⟨j,v,cs,us,g⟩=>j≤is.length∧EKids (is.take j) cs us g) (fun⟨j,v,cs,us,g⟩=>is.length-j) ⟨0,.slice none 0 0,[],[],.grp []⟩ (⟨Nat.zero_le _,.nil⟩) (QQ (.cons rfl lr (.cons rfl lr (.cons rfl lr (.cons rfl lr .nil)))) (Reown.refl _) (fun _ h=>by first|exact h|simp[h])) ?_))
    intro⟨j,v,cs,us,g⟩ ⟨hj,hK⟩
    refine J.conv (by(try simp only[nl,Qk,Qv,Qw,Qu,QZ,AV.cellsOf,Qb,Qc,Nat.reduceAdd]);rfl) ?_
    refine J.seq (Zs (Zm rfl (Zd Pb rfl (Zl 2 ty23 rfl (Zq rfl (Qh sl23 (.r rfl) (EX.css_length _ _)) (Zq rfl (QW.lss (.r rfl) (.r rfl)) (Zn ?_)))))))
    refine J.cond (.r rfl) (fun c1=>?_) (fun c1=>?_)
    · skip
      have hlt:j<is.length:=by simpa[EX.css_length]using c1
      refine Zk (J.seq (J.block (QY mixed (Zf 0 [] rfl (fun _=>Qg Wt (.r rfl) rfl) (Zo 1 0 [19] rfl (fun _ ho_=>Qd 0 Kj (.r rfl) ho_ rfl) (Zf 2 [] rfl (fun _=>Qg Pb (.r rfl) rfl) (Zo 3 2 [21] rfl (fun _ ho_=>Qd 2 ty23 (.r rfl) ho_ rfl) (Zf 4 [] rfl (fun _=>QW.move (.r rfl)) (Zf 5 [22,23] rfl (fun _=>Qi sl23 Ha rfl (.r rfl) (.r rfl) rfl (by exact EX.css_getE _ hlt)) ?_)))))))))
      refine Zf 6 [24] rfl (fun _=>Qo Ha (.r rfl) (QI xl rfl) xl) (JX.one 7 [true,true,true,true,true,false,false] rfl (by kernel_rfl) (by kernel_rfl) rfl rfl (by kernel_rfl) rfl fun bs7_ pe_ ex_=>?_)
      refine JL.conv (by(try simp only[Ub,Uk,Q5,QV,Flt.val,Flt.bx,nx,nl,Qk,Qv,Qw,Qu,QZ,AV.cellsOf,Qb,Qc,Nat.reduceAdd]);rfl) ?_
      refine JL.callRF [] NO rfl Lent.nil (fun _=>(.cons (.r rfl) .nil)) (ih Xc.self (hwi _ (List.getElem_mem _)) (EX.sz_get hn hlt)) (.inl rfl) fun x26 o26 h26=>?_
      obtain⟨iv26,oi26,rfl,rfl,hV26⟩:=h26
      refine JL.nil ?_
      refine thenQ.n ⟨[_],_,rfl,rfl,rfl,rfl,rfl,UZ 5 rfl rfl,⟨rfl,rfl⟩,⟨rfl,⟨trivial,trivial⟩⟩,?_⟩
      refine JX.conv (S':=[7,6,5,4,3,2]) rfl (by(try simp only[QV]);rfl) (by(try simp only[Ub,Uk,Q5,QV,Flt.val,Flt.bx,nx,nl,Qk,Qv,Qw,Qu,QZ,AV.cellsOf,Qb,Qc,Nat.reduceAdd]);rfl) ?_
      refine Zf 8 [26] rfl (fun _=>QW.buildSlice (idx:=[0]) (xs:=[is[j].raw iv26]) W4 el36 PT rfl (.cons (.r rfl) .nil) rfl rfl rfl rfl rfl rfl rfl rfl rfl) (JX.one 9 [true,true,true] rfl (by kernel_rfl) (by kernel_rfl) rfl rfl (by kernel_rfl) rfl fun bs9_ pe_ ex_=>?_)
      refine JL.conv (by(try simp only[Ub,Uk,Q5,QV,Flt.val,Flt.bx,nx,nl,Qk,Qv,Qw,Qu,QZ,AV.cellsOf,Qb,Qc,Nat.reduceAdd]);rfl) ?_
      refine JL.append 3 W4 el36 rfl (.r rfl) rfl (Wv W4 (.r rfl)) (by have:=hK.h2;rw[List.length_take]at this;simp;unfold Qs at*;omega) rfl fun v28=>?_
      refine JL.nil ?_
      refine thenQ.n ⟨[_],_,rfl,rfl,rfl,rfl,rfl,QJ 6 rfl,⟨rfl,rfl⟩,trivial,?_⟩
      refine JX.conv (S':=[9,8,1,0,7,6,5,4,3,2]) rfl (by(try simp only[QV]);rfl) (by(try simp only[Ub,Uk,Q5,QV,Flt.val,Flt.bx,nx,nl,Qk,Qv,Qw,Qu,QZ,AV.cellsOf,Qb,Qc,Nat.reduceAdd]);rfl) ?_
      refine Zf 10 [] rfl (fun _=>Qg Wt (.r rfl) rfl) (JX.one 11 [true] rfl (by kernel_rfl) (by kernel_rfl) rfl rfl (by kernel_rfl) rfl fun bs11_ pe_ ex_=>?_)
      refine JL.conv (by(try simp only[Ub,Uk,Q5,QV,Flt.val,Flt.bx,nx,nl,Qk,Qv,Qw,Qu,QZ,AV.cellsOf,Qb,Qc,Nat.reduceAdd]);rfl) ?_
      refine JL.isSlice 3 rfl fun hs2=>JL.store_box 0 Kj (.r rfl) rfl (.r rfl) (by assumption) rfl rfl rfl rfl ?_
      refine JL.nil ?_
      refine thenQ.n ⟨[],_,rfl,rfl,rfl,rfl,rfl,QJ 6 rfl,trivial,trivial,?_⟩
      refine JX.conv (S':=[11,10,9,8,1,0,7,6,5,4,3,2]) rfl (by(try simp only[QV]);rfl) (by(try simp only[Ub,Uk,Q5,QV,Flt.val,Flt.bx,nx,nl,Qk,Qv,Qw,Qu,QZ,AV.cellsOf,Qb,Qc,Nat.reduceAdd]);rfl) ?_
      refine JX.fin (by kernel_rfl) (by kernel_rfl) fun bs_=>?_
      refine QX.conv (by(try simp only[Ub,Uk,Q5,QV,Flt.val,Flt.bx,nx,nl,Qk,Qv,Qw,Qu,QZ,AV.cellsOf,Qb,Qc,Nat.reduceAdd]);rfl) ?_
      refine blkQ.n (thenQ.n (Qf (Zm rfl (Zq rfl (QW.add (.r rfl) .const (Ym (by omega))) (Za rfl (Zn ?_))))))
      exact⟨⟨j+1,_,_,_,_⟩,⟨hlt,by rw[List.take_succ_eq_append_getElem hlt];exact hK.snoc hV26⟩,by show is.length-(j+1)<is.length-j;omega,QQ (.cons rfl lr (.cons rfl lr (.cons rfl lr (.cons rfl lr .nil)))) ((Reown.cons (Reown.cons (Reown.cons (Reown.cons (WY _ _ _)))))) (fun _ h=>by first|exact h|simp[h])⟩
    have hge:is.length≤j:=by simpa[EX.css_length]using c1
    refine J.exit (Qy (Qy (Q1 (thenQ.n (J.seq (J.isSlice 3 rfl fun hs1=>J.reown (Reown.cons (Reown.cons (Reown.cons (WY _ _ _)))) (Qf (Zq rfl (Qe 0 Q6 (.r rfl) rfl rfl rfl) ?_))))))))
    refine Qa 1 Q6 (.r rfl) rfl (.r rfl) rfl rfl rfl rfl (Zn (J.ret ?_))
    obtain rfl:j=is.length:=by omega
    rw[List.take_length]at hK
    exact Zr [.k,.k,.k,.p] (RetEv.one rfl (REv.cell 1 Q6 rfl rfl rfl rfl lr)) rfl ⟨_,rfl,_,_,rfl,rfl,hs1,hK.tr hi80⟩
theorem Bz{v:EX}{ys:List AV}{fr:Bool}(hv:Xc fr v ys)(hw:v.wf):AC Tryz.prog 41 [] [.agg ys] (YQ (PS v)):=of14_n _ hv hw (Nat.le_refl _)
theorem NE{v:EX}{ys:List AV}{fr:Bool}(hv:Xc fr v ys)(hw:v.wf):Fn Tryz.prog 41 [.agg ys] (.agg (v.cs true)):=D0 (Bz hv hw)

end
section
/- Walks: an expression over a scope, with fuel. -/
set_option maxRecDepth 10000
set_option maxHeartbeats 4000000
def zV:List AV:=[.c (.int .i64 0),.c (.int .u64 0),.c (Q8 []),.c (.slice none 0 0),.c (.slice none 0 0)]
def ScT.cs(s:ScT):List AV:=s.st.cs false++s.ev.cs false++s.it.cs false
def Be(r:V×Int×Int):AV:=.tup [.agg (r.1.cs true),.c (.int .i64 r.2.1),.c (.int .i64 r.2.2)]
theorem Sh{e:EX}{s:ScT}{f c:Int}(h:e.ev s f=.error c):Mv e s f=(.nil,0,c):=by unfold Mv;rw[h]
theorem Sf{e:EX}{s:ScT}{f f':Int}{v:V}(h:e.ev s f=.ok (v,f')):Mv e s f=(v,f',0):=by unfold Mv;rw[h]
theorem Bf(a b c:Nat)(zs:List AV)(y z:Int):DC Tryz.prog 209 [UA c z,UA b y,.box a zs] [.c (.pointer (some ⟨a,0,none⟩)),.c (.pointer (some ⟨b,0,none⟩)),.c (.pointer (some ⟨c,0,none⟩))] .returning fun r u' o=>r=.ret (.tup [])∧u'=.returning∧o=[UA c z,UA b y,.box a zs]:=by
  refine DC.of_JD Tryz.func209 rfl Tryz.ntmps209 rfl fun w0 A0=>?_
  refine JD.seq (Q9 rfl rfl (.inl ⟨rfl,rfl,rfl⟩) rfl (Zq rfl (Yx ⟨_,Tryz.underlying47,by intro ms h;cases h⟩ KG (.r rfl)) ?_))
  refine Zm rfl (Zx rfl (Zx rfl (Za rfl (Za rfl (JL.nil ?_)))))
  refine Yz ?_
  refine JD.of_J rfl (Zs (Zm rfl (Zn ?_)))
  refine J.cond (.r rfl) (fun c1=>absurd c1 (by simp)) (fun c1=>?_)
  refine J.skip ?_
  exact⟨_,QC [.p,.p,.p] _,_,RetEv.none rfl,rfl,Qj [.p,.p,.p] _,⟨rfl,rfl,rfl⟩⟩
theorem Bg(a b c:Nat)(zs:List AV)(hz:zs.length=5)(y z e:Int):DC Tryz.prog 209 [UA c z,UA b y,.box a zs] [.c (.pointer (some ⟨a,0,none⟩)),.c (.pointer (some ⟨b,0,none⟩)),.c (.pointer (some ⟨c,0,none⟩))] (.panicking [{v:=WL e,recovered:=false}]) fun r u' o=>r=.ret (.tup [])∧u'=.panicking [{v:=WL e,recovered:=true}]∧o=[UA c e,UA b 0,.box a zV]:=by
  refine DC.of_JD Tryz.func209 rfl Tryz.ntmps209 rfl fun w0 A0=>?_
  refine JD.seq (Q9 rfl rfl (.inr ⟨[],rfl,rfl⟩) rfl (Zq rfl (Yy ⟨_,Tryz.underlying47,by intro ms h;cases h⟩ (.r rfl)) ?_))
  refine Zm rfl (Zx rfl (Zx rfl (Za rfl (Za rfl (JL.nil ?_)))))
  refine Yz ?_
  refine JD.of_J rfl (Zs (Zm rfl (Zn ?_)))
  refine J.cond (.r rfl) (fun c1=>?_) (fun c1=>absurd c1 (by simp))
  refine Qf (Zq rfl (QW.build (idx:=[]) X0 W6 rfl .nil rfl rfl rfl rfl) (Zm rfl (JL.store_box 2 Ql (.r rfl) rfl (.r rfl) rfl rfl (by rw[hz];rfl) (UY (by rw[hz];rfl)) rfl ?_)))
  refine JL.store_box 1 Uy (.r rfl) rfl .const rfl rfl rfl rfl rfl (JL.store_box 0 U8 (.r rfl) rfl (.r rfl) rfl rfl rfl rfl rfl (JL.nil ?_))
  exact⟨_,QC [.p,.p,.p] _,_,RetEv.none rfl,rfl,Qj [.p,.p,.p] _,⟨rfl,rfl,rfl⟩⟩
theorem run_ok{fr:Bool}{e:EX}{ys:List AV}(he:Xc fr e ys)(hw:e.wf)(hf:e.Fine){s:ScT}(hs:s.good){f:Int}(h0:G8 f):Fn Tryz.prog 169 [.agg ys,.agg s.cs,.c (.int .i64 f)] (Be (Mv e s f)):=by
  subst he
  obtain⟨⟨ka,ua,ta,va,ia⟩,⟨kb,ub,tb,vb,ib⟩,⟨kc,uc,tc,vc,ic⟩⟩:=s
  have hs0:=hs
  refine AC.of_JD Tryz.func169 rfl Tryz.ntmps169 rfl fun w0 A0=>?_
  refine Zs (Qq (.r rfl) rfl fun b3=>Qq (.r rfl) rfl fun b4=>JL.alloc W6 rfl rfl fun b6=>JL.alloc z3 rfl rfl fun b7=>JL.alloc z47 rfl rfl fun b8=>Zn (Zs (Zq rfl (WH .nil (.cons (.r rfl) (.cons (.r rfl) (.cons (.r rfl) .nil)))) (JL.defer rfl (.r rfl) ?_))))
  refine Zn (Zs (Zq rfl (Qe 3 ty120 (.r rfl) rfl rfl rfl) (Zm rfl (Zq rfl (QW.build (idx:=[0,1]) pl311 z311 rfl (.cons (.r rfl) (.cons (.r rfl) .nil)) rfl rfl rfl rfl) (Qq (.r rfl) rfl fun b14=>Za rfl (Zn (Zs (Zm rfl ?_))))))))
  refine Zq rfl (Qe 5 Q6 (.r rfl) rfl (Qn xl rfl) xl) ?_
  refine Qm [.p] X9 rfl Lent.nil (fun _=>(.cons (.r rfl) (.cons (.r rfl) .nil))) (SF _ e ⟨⟨ka,ua,ta,va,ia⟩,⟨kb,ub,tb,vb,ib⟩,⟨kc,uc,tc,vc,ic⟩⟩ f b14 fr hw hf hs h0 (Nat.le_refl _)) (.inl rfl) (fun k17 x17 o17 h17=>?_) (fun k17=>?_)
  rotate_left
  · skip
    refine thenQ.p ?_
    exact⟨_,_,[],[_,_,_],QC [.p,.p,.p] _,_,rfl,rfl,EN,Qj [.p,.p,.p] _,DC.mono (Bg _ _ _ _ rfl _ _ _) fun r u' o ⟨h1,h2,h3⟩=>by subst h1 h2 h3;exact⟨⟨_,rfl⟩,rfl,_,[],_,(UX rfl (REv.cell 2 Ql rfl rfl rfl rfl (.aggL (.cons lr (.cons lr (.cons lr (.cons (.nil true false _) (.cons (.nil true false _) .nil))))))) (QO 1 Uy rfl rfl rfl lr) (QO 0 U8 rfl rfl rfl lr)),List.Perm.refl _,(congrArg (fun r=>Wf.ret (Be r)) (Sh (UK k17)).symm),rfl⟩⟩
  obtain⟨v17,f17,hv17,rfl,rfl⟩:=h17
  refine Zq rfl (QW.call LT (.cons (.r rfl) .nil) (Tn Vc.self (Hw hw hf hs h0 hv17).1.wf)) (Qa 3 Ql (.r rfl) rfl (.r rfl) rfl vl rfl rfl (Zn (J.seq (QY mixed (Zo 0 3 [] rfl (fun _ ho_=>Qe 3 Ql (.r rfl) ho_ (Qn vl rfl) vl) (Zf 1 [] rfl (fun _=>QW.move (.r rfl)) (Zf 2 [20] rfl (fun _=>WZ (.r rfl)) (Zf 3 [21] rfl (fun _=>Qg Lh (.r rfl) rfl) (Zo 4 0 [22] rfl (fun _ ho_=>Qd 0 Uy (.r rfl) ho_ rfl) ?_)))))))))
  refine JX.one 5 [false,false,false,false,true] rfl (by kernel_rfl) (by kernel_rfl) rfl rfl (by kernel_rfl) rfl fun bs5_ pe_ ex_=>?_
  refine JL.conv (by(try simp only[Ub,Uk,Q5,QV,Flt.val,Flt.bx,nx,nl,Qk,Qv,Qw,Qu,QZ,AV.cellsOf,Qb,Qc,Nat.reduceAdd]);rfl) ?_
  refine Qa 3 Ql (.r rfl) rfl (.r rfl) rfl vl vl rfl (JL.nil ?_)
  refine thenQ.n ⟨[],_,rfl,rfl,rfl,rfl,rfl,QJ 6 rfl,trivial,⟨rfl,⟨trivial,⟨trivial,⟨trivial,trivial⟩⟩⟩⟩,?_⟩
  refine JX.conv (S':=[5,0]) rfl (by(try simp only[QV]);rfl) (by(try simp only[Ub,Uk,Q5,QV,Flt.val,Flt.bx,nx,nl,Qk,Qv,Qw,Qu,QZ,AV.cellsOf,Qb,Qc,Nat.reduceAdd]);rfl) ?_
  refine JX.one 6 [true,true,true,true] rfl (by kernel_rfl) (by kernel_rfl) rfl rfl (by kernel_rfl) rfl fun bs6_ pe_ ex_=>?_
  refine JL.conv (by(try simp only[Ub,Uk,Q5,QV,Flt.val,Flt.bx,nx,nl,Qk,Qv,Qw,Qu,QZ,AV.cellsOf,Qb,Qc,Nat.reduceAdd]);rfl) ?_
  refine JL.store_box 2 Uy (.r rfl) rfl (.r rfl) rfl rfl rfl rfl rfl (JL.nil ?_)
  refine thenQ.n ⟨[],_,rfl,rfl,rfl,rfl,rfl,QJ 6 rfl,trivial,trivial,?_⟩
  refine JX.conv (S':=[6,4,3,2,1,5,0]) rfl (by(try simp only[QV]);rfl) (by(try simp only[Ub,Uk,Q5,QV,Flt.val,Flt.bx,nx,nl,Qk,Qv,Qw,Qu,QZ,AV.cellsOf,Qb,Qc,Nat.reduceAdd]);rfl) ?_
  refine JX.one 7 [] rfl (by kernel_rfl) (by kernel_rfl) rfl rfl (by kernel_rfl) rfl fun bs7_ pe_ ex_=>?_
  refine JL.conv (by(try simp only[Ub,Uk,Q5,QV,Flt.val,Flt.bx,nx,nl,Qk,Qv,Qw,Qu,QZ,AV.cellsOf,Qb,Qc,Nat.reduceAdd]);rfl) ?_
  refine JL.store_box 1 U8 (.r rfl) rfl .const rfl rfl rfl rfl rfl (JL.nil ?_)
  refine thenQ.n ⟨[],_,rfl,rfl,rfl,rfl,rfl,QJ 6 rfl,trivial,trivial,?_⟩
  refine JX.conv (S':=[7,6,4,3,2,1,5,0]) rfl (by(try simp only[QV]);rfl) (by(try simp only[Ub,Uk,Q5,QV,Flt.val,Flt.bx,nx,nl,Qk,Qv,Qw,Qu,QZ,AV.cellsOf,Qb,Qc,Nat.reduceAdd]);rfl) ?_
  refine JX.fin (by kernel_rfl) (by kernel_rfl) fun bs_=>?_
  refine QX.conv (by(try simp only[Ub,Uk,Q5,QV,Flt.val,Flt.bx,nx,nl,Qk,Qv,Qw,Qu,QZ,AV.cellsOf,Qb,Qc,Nat.reduceAdd]);rfl) ?_
  refine thenQ.n (J.ret ?_)
  exact⟨_,_,[],[_,_,_],QC [.k,.p,.p,.p] _,_,rfl,rfl,EN,Qj [.k,.p,.p,.p] _,DC.mono (Bf _ _ _ _ _ _) fun r u' o ⟨h1,h2,h3⟩=>by subst h1 h2 h3;exact⟨⟨_,rfl⟩,rfl,_,[],_,(UX rfl (REv.cell 2 Ql rfl rfl (Qn vl rfl) vl lr) (QO 1 Uy rfl rfl rfl lr) (QO 0 U8 rfl rfl rfl lr)),List.Perm.refl _,(congrArg (fun r=>Wf.ret (Be r)) (Sf hv17).symm),rfl⟩⟩
theorem Mk(s:ScT):s.cs.length=15:=by simp[ScT.cs,V.cs_length]

end
section
/- Programs as plain data: a first state, handlers; what an event makes of a state. -/
structure SetT where
  key:QL
  ex:EX
def eSe:Wr:=⟨5,72⟩
/-! cells -/
def SetT.cs(fr:Bool)(s:SetT):List AV:=.c (Q8 s.key)::s.ex.cs fr
def SetT.css(fr:Bool)(l:List SetT):List (List AV):=l.map (SetT.cs fr)
theorem SetT.cs_length(fr:Bool)(s:SetT):(s.cs fr).length=5:=by simp[SetT.cs,EX.cs_length]
theorem SetT.css_length(fr:Bool)(l:List SetT):(SetT.css fr l).length=l.length:=by simp[SetT.css]
theorem SetT.css_getE(fr:Bool){l:List SetT}{i:Nat}(h:i<l.length):(SetT.css fr l)[i]? =some ((l[i]).cs fr):=by simp[SetT.css,h]
theorem SetT.css_snoc(fr:Bool)(l:List SetT)(x:SetT):SetT.css fr l++[x.cs fr]=SetT.css fr (l++[x]):=by simp[SetT.css]
theorem SetT.at1{fr:Bool}{s:SetT}:((s.cs fr).drop 1).take 4=s.ex.cs fr:=by
  obtain⟨n,⟨a,b,c,d⟩⟩:=s;rfl
/-! what fits a machine -/
structure SetT.wf(s:SetT):Prop where
  key:s.key.length≤Qs
  ex:s.ex.wf
/-! errors -/
def Hs:List Int→Int
  |[]=>0
  |e::r=>if e≠0 then e else Hs r
theorem B7{l:List Int}(h:Hs l=0):∀x∈l,x=0:=by
  induction l with
  |nil=>intro x hx;cases hx
  |cons y r ih=>
    unfold Hs at h
    by_cases hy:y=0
    · rw[if_neg (fun h=>h hy)]at h
      intro x hx
      rcases List.mem_cons.1 hx with rfl|hx
      · exact hy
      · exact ih h x hx
    · rw[if_pos hy]at h;exact absurd h hy
/-! what an event makes of a state -/

end
section
/- Trees as plain data: cells, what may be, walks. -/
structure AtT where
  name:QL
  value:QL
inductive TrT where
  |mk (tag key text:QL) (attrs:List AtT) (kids:List TrT)
def TrT.tag:TrT→QL|.mk t _ _ _ _=>t
def TrT.key:TrT→QL|.mk _ k _ _ _=>k
def TrT.text:TrT→QL|.mk _ _ x _ _=>x
def TrT.attrs:TrT→List AtT|.mk _ _ _ a _=>a
def TrT.kids:TrT→List TrT|.mk _ _ _ _ l=>l
def Fp:Wr:=⟨2,32⟩
def eTr:Wr:=⟨5,96⟩
def AtT.cs(a:AtT):List AV:=[.c (Q8 a.name),.c (Q8 a.value)]
def AtT.css(l:List AtT):List (List AV):=l.map AtT.cs
theorem AtT.css_length(l:List AtT):(AtT.css l).length=l.length:=by simp[AtT.css]
theorem AtT.css_getE{l:List AtT}{i:Nat}(h:i<l.length):(AtT.css l)[i]? =some (l[i].cs):=by simp[AtT.css,h]
theorem AtT.css_sz(l:List AtT):∀x∈AtT.css l,x.length=Fp.sz:=fun x hx=>by obtain⟨v,_,rfl⟩:=List.mem_map.1 hx;rfl
theorem AtT.css_snoc(l:List AtT)(x:AtT):AtT.css l++[x.cs]=AtT.css (l++[x]):=by simp[AtT.css]
mutual
def TrT.cs(fr:Bool):TrT→List AV
  |.mk t k x a l=>[.c (Q8 t),.c (Q8 k),.c (Q8 x),.sl fr false Fp (AtT.css a),.sl fr false eTr (TrT.css fr l)]
def TrT.css(fr:Bool):List TrT→List (List AV)
  |[]=>[]
  |v::r=>v.cs fr::TrT.css fr r
end
theorem TrT.css_eq(fr:Bool):∀l,TrT.css fr l=l.map (TrT.cs fr)
  |[]=>rfl
  |v::r=>by simp[TrT.css,TrT.css_eq fr r]
theorem TrT.css_length(fr:Bool)(l:List TrT):(TrT.css fr l).length=l.length:=by simp[TrT.css_eq]
theorem TrT.css_getE(fr:Bool){l:List TrT}{i:Nat}(h:i<l.length):(TrT.css fr l)[i]? =some (l[i].cs fr):=by simp[TrT.css_eq,h]
theorem TrT.css_append(fr:Bool)(a b:List TrT):TrT.css fr (a++b)=TrT.css fr a++TrT.css fr b:=by simp[TrT.css_eq]
theorem TrT.cs_length(fr:Bool)(v:TrT):(v.cs fr).length=5:=by cases v;rfl
theorem TrT.css_sz(fr:Bool)(l:List TrT):∀x∈TrT.css fr l,x.length=eTr.sz:=by
  intro x hx
  rw[TrT.css_eq]at hx
  obtain⟨v,_,rfl⟩:=List.mem_map.1 hx
  exact TrT.cs_length fr v
def TrT.nil:TrT:=.mk [] [] [] [] []
structure AtT.wf(a:AtT):Prop where
  name:a.name.length≤Qs
  value:a.value.length≤Qs
inductive TrT.wf:TrT→Prop
  |mk {t k x:QL} {a:List AtT} {l:List TrT} (h1:t.length≤Qs) (h2:k.length≤Qs) (h3:x.length≤Qs) (h4:a.length*32≤Qs) (h5:∀x∈a,AtT.wf x) (h6:l.length*96≤Qs) (h7:∀x∈l,TrT.wf x):TrT.wf (.mk t k x a l)
theorem TrT.wf.inv{t k x:QL}{a:List AtT}{l:List TrT}(h:TrT.wf (.mk t k x a l)):t.length≤Qs∧k.length≤Qs∧x.length≤Qs∧a.length*32≤Qs∧(∀x∈a,AtT.wf x)∧l.length*96≤Qs∧∀x∈l,TrT.wf x:=by
  cases h with|mk h1 h2 h3 h4 h5 h6 h7=>exact⟨h1,h2,h3,h4,h5,h6,h7⟩
mutual
def TrT.sz:TrT→Nat
  |.mk _ _ _ _ l=>1+TrT.szs l
def TrT.szs:List TrT→Nat
  |[]=>0
  |x::r=>x.sz+TrT.szs r
end
theorem TrT.sz_pos(v:TrT):1≤v.sz:=by cases v;unfold TrT.sz;omega
theorem TrT.szs_mem:∀{l:List TrT} {x:TrT},x∈l→x.sz≤TrT.szs l
  |y::r,x,h=>by
    unfold TrT.szs
    rcases List.mem_cons.1 h with rfl|h
    · omega
    · have:=TrT.szs_mem h;omega
theorem TrT.sz_get{t k x:QL}{a:List AtT}{l:List TrT}{j n:Nat}(h:(TrT.mk t k x a l).sz≤n+1)(hj:j<l.length):l[j].sz≤n:=by
  have:=TrT.szs_mem (List.getElem_mem hj)
  unfold TrT.sz at h;omega
/-! what may be -/
def MA(c:UInt8):Bool:=decide (97≤c.toNat)&&decide (c.toNat≤122)
def Un(s:QL):Bool:=decide (1≤s.length)&&decide (s.length≤16)&&s.all MA
def K2:QL→List AtT→Bool
  |_,[]=>true
  |last,a::r=>Op.bytesLess last a.name&&Un a.name&&decide (a.value.length≤128)&&K2 a.name r
def Yb(tag key text:QL)(attrs:List AtT):Bool:=
  if tag=[]then key==[]&&decide (text.length≤128)&&attrs.length==0
  else Un tag&&decide (key.length≤16)&&text==[]&&decide (attrs.length≤16)&&K2 [] attrs
def YU(l:List QL)(i:Nat):Bool:=!(l.getD i []==[])&&(l.take i).contains (l.getD i [])
def Gb(l:List QL):Bool:=(List.range l.length).any (YU l)
theorem Cx{l:List QL}{i:Nat}(hi:i<l.length)(h:YU l i=true):Gb l=true:=List.any_eq_true.2 ⟨i,List.mem_range.2 hi,h⟩
theorem MM{l:List QL}(h:∀i,i<l.length→YU l i=false):Gb l=false:=by
  rw[Bool.eq_false_iff]
  intro hc
  obtain⟨i,hi,h2⟩:=List.any_eq_true.1 hc
  rw[h i (List.mem_range.1 hi)]at h2;cases h2
def TrT.nodeE(t:TrT)(level nodes:Int):Int:=
  if 8<level then 10 else if nodes=256 then 3
  else if Yb t.tag t.key t.text t.attrs=false∨16<t.kids.length∨(t.tag=[]∧0<t.kids.length)then 9
  else if Gb (t.kids.map TrT.key)then 6 else 0
structure Rv where
  n:Int
  d:Int
  e:Int
mutual
def TrT.walk:TrT→Int→Rv→Rv
  |.mk t k x a l,level,w=>
    if w.e≠0 then w
    else if(TrT.mk t k x a l).nodeE level w.n≠0 then⟨w.n,w.d,(TrT.mk t k x a l).nodeE level w.n⟩
    else TrT.walks l (level+1) ⟨w.n+1,if level>w.d then level else w.d,0⟩
def TrT.walks:List TrT→Int→Rv→Rv
  |[],_,w=>w
  |x::r,level,w=>TrT.walks r level (x.walk level w)
end
def TrT.err(t:TrT):Int:=if t.tag=[]then 9 else(t.walk 1 ⟨0,0,0⟩).e
/-! are two trees one? -/

end
section
/- More fuel changes nothing but what is left. -/
variable {α β:Type}
def US(r:ER α)(k:α→Int→ER β):ER β:=match r with
  |.error e=>.error e
  |.ok (v,f)=>k v f

end
section
/- An error is never 0; what is told of a reckoning. -/
variable {α β:Type}
def Nz(r:Except Int α):Prop:=∀c,r=.error c→c≠0
theorem Nz.ok(v:α):Nz (.ok v):=fun c h=>by cases h
theorem Nz.er{c:Int}(h:c≠0):Nz (.error c:Except Int α):=fun c' h'=>by cases h';exact h
theorem UI{p:Prop}[Decidable p]{r q:Except Int α}(h1:p→Nz r)(h2:¬p→Nz q):Nz (if p then r else q):=by
  by_cases h:p
  · rw[if_pos h];exact h1 h
  · rw[if_neg h];exact h2 h
theorem Mo{r:ER V}(h:Nz r):Nz (U4 r):=by
  cases r with
  |error c=>exact fun c' h'=>by cases h';exact h c rfl
  |ok p=>exact UI (fun _=>.ok _) fun _=>.er (by decide)
theorem E1(v:V)(s:StT):Nz (H5 v s):=by
  unfold H5;by_cases h:(v.getv [s]).2=0
  · rw[if_pos h];exact .ok _
  · rw[if_neg h];exact .er h
theorem Se(v:V)(s:StT)(x:V):Nz (NB v s x):=UI (fun _=>.ok _) fun _=>.er (by decide)
theorem R0(v:V):Nz (K0 v):=UI (fun _=>.ok _) fun _=>.er (by decide)
theorem one_nz(o:Int)(t:QL)(a:V):Nz (Bx o t a):=by
  unfold Bx
  repeat' with_reducible refine UI (fun _=>?_) (fun _=>?_)
  all_goals first|exact E1 _ _|exact .ok _|exact .er (by decide)
theorem two_nz(o:Int)(t:QL)(a b:V):Nz (FV o t a b):=by
  unfold FV
  repeat' with_reducible refine UI (fun _=>?_) (fun _=>?_)
  all_goals first|exact E1 _ _|exact Se _ _ _|exact .ok _|exact .er (by decide)
theorem Bl{o:Int}{t:QL}{l:List V}(h:o=23∨l.length=1∨l.length=2):Nz (UH o t l):=by
  unfold UH
  refine UI (fun _=>R0 _) fun h23=>?_
  match l,h with
  |[a],_=>exact one_nz _ _ _
  |[a,b],_=>exact two_nz _ _ _ _
  |[],h=>simp at h;exact absurd h h23
  |_::_::_::_,h=>simp at h;exact absurd h h23
theorem BE{g:V→Int→ER V}(hg:∀x f,Nz (g x f)):∀l f,Nz (Hj g l f)
  |[],f=>.ok _
  |x::r,f=>by
    have h1:=hg x f
    rw[Hj]
    cases h:g x f with
    |error c=>exact .er (h1 c h)
    |ok p=>
      have h2:=BE hg r p.2
      simp only[]
      cases h3:Hj g r p.2 with
      |error c=>exact .er (h2 c h3)
      |ok q=>exact .ok _
theorem Pg{g:V→Int→ER Bool}(hg:∀x f,Nz (g x f)):∀l f,Nz (Hv g l f)
  |[],f=>.ok _
  |x::r,f=>by
    have h1:=hg x f
    rw[Hv]
    cases h:g x f with
    |error c=>exact .er (h1 c h)
    |ok p=>
      have h2:=Pg hg r p.2
      simp only[]
      cases h3:Hv g r p.2 with
      |error c=>exact .er (h2 c h3)
      |ok q=>exact .ok _
theorem Pc{g:V→Int→ER Bool}(hg:∀x f,Nz (g x f)):∀l f,Nz (N6 g l f)
  |[],f=>.er (by decide)
  |x::r,f=>by
    have h1:=hg x f
    rw[N6]
    cases h:g x f with
    |error c=>exact .er (h1 c h)
    |ok p=>exact UI (fun _=>.ok _) fun _=>Pc hg r p.2
theorem RY{r:ER (List V)}(h:Nz r):Nz (Xm r):=by
  unfold Xm
  cases r with
  |error c=>exact .er (h c rfl)
  |ok p=>
    have h2:=R0 (.li p.1)
    simp only[]
    cases h3:K0 (.li p.1)with
    |error c=>exact .er (h2 c h3)
    |ok q=>exact .ok _
theorem Sq{o:Int}{g:V→Int→ER V}{r:ER V}(hg:∀x f,Nz (g x f))(hr:Nz r):Nz (XJ o g r):=by
  unfold XJ
  cases r with
  |error c=>exact .er (hr c rfl)
  |ok p=>exact UI (fun _=>.er (by decide)) fun _=>UI (fun _=>RY (BE hg _ _)) fun _=>UI (fun _=>RY (Pg (fun x f=>Mo (hg x f)) _ _)) fun _=>Pc (fun x f=>Mo (hg x f)) _ _
theorem E9:∀(l:List EX) {s:ScT} {f f':Int} {vs:List V},Ux l s f=.ok (vs,f')→vs.length=l.length
  |[],s,f,f',vs,h=>by rw[Ux]at h;cases h;rfl
  |x::r,s,f,f',vs,h=>by
    rw[Ux]at h
    cases h1:x.ev s f with
    |error c=>rw[h1]at h;cases h
    |ok p=>
      rw[h1]at h
      simp only[]at h
      cases h2:Ux r s p.2 with
      |error c=>rw[h2]at h;cases h
      |ok q=>
        rw[h2]at h;cases h
        simp[E9 r h2]
mutual
theorem Yk:∀(e:EX) (s:ScT) (f:Int),e.Fine→Nz (e.ev s f)
  |.mk o b t l,s,f,hf=>by
    obtain⟨h0,h30,h8,ha⟩:=Mr hf.part
    have hk:∀x∈l,x.Fine:=fun x hx=>hf.kid hx
    rw[EX.ev]
    refine UI (fun _=>.er (by decide)) fun _=>?_
    refine UI (fun _=>.ok _) fun n0=>UI (fun _=>.ok _) fun n1=>UI (fun _=>.ok _) fun n2=>UI (fun _=>.ok _) fun n3=>UI (fun _=>.ok _) fun n4=>UI (fun _=>.ok _) fun n5=>UI (fun _=>.ok _) fun n6=>UI (fun _=>.ok _) fun n7=>?_
    refine UI (fun c=>Ms false l s _ hk (by omega)) fun n18=>UI (fun c=>Ms true l s _ hk (by omega)) fun n19=>UI (fun c=>D4 l s _ hk (by omega)) fun n21=>UI (fun c=>D3 o l s _ hk (by omega)) fun nov=>?_
    have h1:=Ns l s (f-1) hk
    cases h:Ux l s (f-1)with
    |error c=>exact .er (h1 c h)
    |ok p=>
      have h2:=E9 l h
      have h3:=Bl (o:=o) (t:=t) (l:=p.1) (by omega)
      simp only[]
      cases h4:UH o t p.1 with
      |error c=>exact .er (h3 c h4)
      |ok q=>exact .ok _
theorem Ns:∀(l:List EX) (s:ScT) (f:Int),(∀x∈l,x.Fine)→Nz (Ux l s f)
  |[],s,f,hf=>by rw[Ux];exact .ok _
  |x::r,s,f,hf=>by
    have h1:=Yk x s f (hf x (by simp))
    rw[Ux]
    cases h:x.ev s f with
    |error c=>exact .er (h1 c h)
    |ok p=>
      have h2:=Ns r s p.2 (fun z hz=>hf z (by simp[hz]))
      simp only[]
      cases h3:Ux r s p.2 with
      |error c=>exact .er (h2 c h3)
      |ok q=>exact .ok _
theorem Ms:∀(k:Bool) (l:List EX) (s:ScT) (f:Int),(∀x∈l,x.Fine)→l.length=2→Nz (UU k l s f)
  |k,[],s,f,hf,h2=>by simp at h2
  |k,[_],s,f,hf,h2=>by simp at h2
  |k,x::y::_,s,f,hf,h2=>by
    have h1:=Mo (Yk x s f (hf x (by simp)))
    rw[UU]
    cases h:U4 (x.ev s f)with
    |error c=>exact .er (h1 c h)
    |ok p=>
      refine UI (fun _=>.ok _) fun _=>?_
      have h3:=Mo (Yk y s p.2 (hf y (by simp)))
      cases h4:U4 (y.ev s p.2)with
      |error c=>exact .er (h3 c h4)
      |ok q=>exact .ok _
theorem D4:∀(l:List EX) (s:ScT) (f:Int),(∀x∈l,x.Fine)→l.length=3→Nz (Wi l s f)
  |[],s,f,hf,h2=>by simp at h2
  |[_],s,f,hf,h2=>by simp at h2
  |[_,_],s,f,hf,h2=>by simp at h2
  |x::y::z::_,s,f,hf,h2=>by
    have h1:=Mo (Yk x s f (hf x (by simp)))
    rw[Wi]
    cases h:U4 (x.ev s f)with
    |error c=>exact .er (h1 c h)
    |ok p=>exact UI (fun _=>Yk y s p.2 (hf y (by simp))) fun _=>Yk z s p.2 (hf z (by simp))
theorem D3:∀(o:Int) (l:List EX) (s:ScT) (f:Int),(∀x∈l,x.Fine)→l.length=2→Nz (Yl o l s f)
  |o,[],s,f,hf,h2=>by simp at h2
  |o,[_],s,f,hf,h2=>by simp at h2
  |o,x::y::_,s,f,hf,h2=>by
    rw[Yl]
    exact Sq (fun it g=>Yk y {s with it} g (hf y (by simp))) (Yk x s f (hf x (by simp)))
end

end
section
/- Walks: the runner: what it reckons, what it sets. -/
set_option maxRecDepth 10000
set_option maxHeartbeats 4000000
theorem BD{s:ScT}{f:Int}:((s.st.cs false++s.ev.cs false++s.it.cs false++[AV.c (.int .i64 f)]).drop 0).take 15=s.cs:=by
  rw[List.drop_zero];exact List.take_left' (Mk s)
theorem Sg{e:EX}{s:ScT}{f:Int}{v:V}{g c:Int}(h:Mv e s f=(v,g,c))(hc:¬c=0):e.ev s f=.error c:=by
  unfold Mv at h
  cases he:e.ev s f with
  |error d=>rw[he]at h;rw[show d=c from(Prod.mk.inj (Prod.mk.inj h).2).2]
  |ok p=>rw[he]at h;exact absurd (Prod.mk.inj (Prod.mk.inj h).2).2.symm hc
theorem Bd{e:EX}{s:ScT}{f:Int}{v:V}{g:Int}(hn:∀c,e.ev s f=.error c→c≠0)(h:Mv e s f=(v,g,0)):e.ev s f=.ok (v,g):=by
  unfold Mv at h
  cases he:e.ev s f with
  |error d=>rw[he]at h;exact absurd (Prod.mk.inj (Prod.mk.inj h).2).2 (hn d he)
  |ok p=>obtain⟨v',g'⟩:=p;rw[he]at h;obtain⟨h1,h2⟩:=Prod.mk.inj h;obtain⟨h2,-⟩:=Prod.mk.inj h2;rw[h1,h2]
def EvS(r:ER V)(b:Nat)(s:ScT):Wf→List Own→Prop:=PanR (Xh r=0) (WL (Xh r)) fun x o=>∃v f',r=.ok (v,f')∧x=.agg (v.cs true)∧o=[mb b s f']
theorem EvS.ok{r:ER V}{b:Nat}{s:ScT}{v:V}{f':Int}(h:r=.ok (v,f')):EvS r b s (.ret (.agg (v.cs true))) [mb b s f']:=.inl ⟨by rw[h];rfl,_,rfl,v,f',h,rfl,rfl⟩
theorem EvS.er{r:ER V}{b:Nat}{s:ScT}{c:Int}(h:r=.error c)(hc:¬c=0):EvS r b s (.pan (.iface 47 (.int .i64 c))) []:=.inr ⟨by rw[h];exact hc,by rw[h];rfl,rfl⟩
def Yo(v:V):Bool×Int:=if v.kind≠1∨v.err≠0 then(false,81)else(v.bits==1,0)
theorem Pm{fr:Bool}{v:V}{ys:List AV}(hv:Vc fr v ys)(hw:v.wf):Fn Tryz.prog 180 [.agg ys] (.tup [.c (.bool (Yo v).1),.c (.int .i64 (Yo v).2)]):=by
  subst hv
  obtain⟨vk,vb,vt,vks,vis⟩:=v
  refine AC.of_J Tryz.func180 rfl Tryz.ntmps180 rfl fun w0 A0=>?_
  refine Zs (Qq (.r rfl) rfl fun b1=>Zq rfl (QW.assign .const) (Zq rfl (QW.assign .const) (Zn (J.seq (Zs (Zd UW rfl (Zl 0 Uy rfl (Zq rfl (QW.neq (.r rfl) .const) ?_))))))))
  refine Zm rfl (Zg rfl (fun hg=>(by first|exact Qe 0 Ql (.r rfl) rfl rfl rfl|exact Qe 0 Ql (.r rfl) rfl (Qn vl rfl) vl)) ?_)
  refine Zg rfl (fun hg=>(QW.call X6 (.cons (.when rfl hg) .nil) (Yh (v:=.mk vk vb vt vks vis) Vc.self hw))) (Zg rfl (fun hg=>(QW.neq (.when rfl hg) .const)) (Zq rfl (QW.pick_or (.r rfl) (.r rfl)) (Zn ?_)))
  refine J.cond (.r rfl) (fun c1=>?_) (fun c1=>?_)
  · skip
    have hb:vk≠1∨(V.mk vk vb vt vks vis).err≠0:=by(simp at c1;exact c1)
    exact Zs (Zq rfl (QW.assign .const) (Zq rfl (QW.assign .const) (Zn (J.ret (thenQ.r (Zr [.k] (Qr rfl (REv.tmp rfl lr) (REv.tmp rfl lr)) rfl ⟨by rw[show Yo (V.mk vk vb vt vks vis)=(false,81)from if_pos hb],rfl⟩))))))
  have hb:¬(vk≠1∨(V.mk vk vb vt vks vis).err≠0):=by(simp at c1;intro h;rcases h with h|h;exact h c1.1;exact h c1.2)
  exact Zk (Zs (Zd UD rfl (Zl 0 WK rfl (Zq rfl (QW.eql (.r rfl) .const) (Za rfl (Zq rfl (QW.assign .const) (Zn (J.ret (Zr [.k] (Qr rfl (REv.tmp rfl lr) (REv.tmp rfl lr)) rfl ⟨by rw[show Yo (V.mk vk vb vt vks vis)=(vb==1,0)from if_neg hb,show(((vb:Nat):Int)==1)=(vb==1) by rw[Bool.eq_iff_iff];simp;omega],rfl⟩)))))))))

end
section
/- Templates ats plain data: cells, what may be, the tree of a state. -/
inductive TmT where
  |mk (what:Int) (tag:QL) (key ex:EX) (attrs:List SetT) (kids:List TmT)
def TmT.what:TmT→Int|.mk w _ _ _ _ _=>w
def TmT.tag:TmT→QL|.mk _ t _ _ _ _=>t
def TmT.key:TmT→EX|.mk _ _ k _ _ _=>k
def TmT.ex:TmT→EX|.mk _ _ _ x _ _=>x
def TmT.attrs:TmT→List SetT|.mk _ _ _ _ a _=>a
def TmT.kids:TmT→List TmT|.mk _ _ _ _ _ l=>l
def eTm:Wr:=⟨12,184⟩
mutual
def TmT.cs(fr:Bool):TmT→List AV
  |.mk w t k x a l=>.c (.int .i64 w)::.c (Q8 t)::(k.cs fr++(x.cs fr++[.sl fr false eSe (SetT.css fr a),.sl fr false eTm (TmT.css fr l)]))
def TmT.css(fr:Bool):List TmT→List (List AV)
  |[]=>[]
  |v::r=>v.cs fr::TmT.css fr r
end
theorem TmT.css_eq(fr:Bool):∀l,TmT.css fr l=l.map (TmT.cs fr)
  |[]=>rfl
  |v::r=>by simp[TmT.css,TmT.css_eq fr r]
theorem TmT.css_length(fr:Bool)(l:List TmT):(TmT.css fr l).length=l.length:=by simp[TmT.css_eq]
theorem TmT.css_getE(fr:Bool){l:List TmT}{i:Nat}(h:i<l.length):(TmT.css fr l)[i]? =some (l[i].cs fr):=by simp[TmT.css_eq,h]
theorem TmT.css_append(fr:Bool)(a b:List TmT):TmT.css fr (a++b)=TmT.css fr a++TmT.css fr b:=by simp[TmT.css_eq]
theorem TmT.cs_length(fr:Bool)(v:TmT):(v.cs fr).length=12:=by obtain⟨w,t,k,x,a,l⟩:=v;simp[TmT.cs,EX.cs_length]
theorem TmT.css_sz(fr:Bool)(l:List TmT):∀x∈TmT.css fr l,x.length=eTm.sz:=by
  intro x hx
  rw[TmT.css_eq]at hx
  obtain⟨v,_,rfl⟩:=List.mem_map.1 hx
  exact TmT.cs_length fr v
theorem TmT.at0{fr:Bool}{v:TmT}:(v.cs fr)[0]? =some (.c (.int .i64 v.what)):=by cases v;rfl
theorem TmT.at1{fr:Bool}{v:TmT}:(v.cs fr)[1]? =some (.c (Q8 v.tag)):=by cases v;rfl
theorem Ls{fr:Bool}{v:TmT}:((v.cs fr).drop 2).take 4=v.key.cs fr:=by obtain⟨w,t,⟨a,b,c,d⟩,x,ats,l⟩:=v;rfl
theorem G2{fr:Bool}{v:TmT}:((v.cs fr).drop 6).take 4=v.ex.cs fr:=by obtain⟨w,t,⟨a,b,c,d⟩,⟨a2,b2,c2,d2⟩,ats,l⟩:=v;rfl
theorem YG{fr:Bool}{v:TmT}:(v.cs fr)[10]? =some (.sl fr false eSe (SetT.css fr v.attrs)):=by obtain⟨w,t,⟨a,b,c,d⟩,⟨a2,b2,c2,d2⟩,ats,l⟩:=v;rfl
theorem YF{fr:Bool}{v:TmT}:(v.cs fr)[11]? =some (.sl fr false eTm (TmT.css fr v.kids)):=by obtain⟨w,t,⟨a,b,c,d⟩,⟨a2,b2,c2,d2⟩,ats,l⟩:=v;rfl
inductive TmT.wf:TmT→Prop
  |mk {w:Int} {t:QL} {k x:EX} {a:List SetT} {l:List TmT} (h0: -9223372036854775808≤w∧w≤9223372036854775807) (h1:t.length≤Qs) (h2:k.wf) (h3:x.wf) (h4:a.length*72≤Qs) (h5:∀x∈a,SetT.wf x) (h6:l.length*184≤Qs) (h7:∀x∈l,TmT.wf x):TmT.wf (.mk w t k x a l)
theorem TmT.wf.inv{w:Int}{t:QL}{k x:EX}{a:List SetT}{l:List TmT}(h:TmT.wf (.mk w t k x a l)):
    (-9223372036854775808≤w∧w≤9223372036854775807)∧t.length≤Qs∧k.wf∧x.wf∧a.length*72≤Qs∧(∀x∈a,SetT.wf x)∧l.length*184≤Qs∧∀x∈l,TmT.wf x:=by
  cases h with|mk h0 h1 h2 h3 h4 h5 h6 h7=>exact⟨h0,h1,h2,h3,h4,h5,h6,h7⟩
mutual
def TmT.sz:TmT→Nat
  |.mk _ _ _ _ _ l=>1+TmT.szs l
def TmT.szs:List TmT→Nat
  |[]=>0
  |x::r=>x.sz+TmT.szs r
end
theorem TmT.sz_pos(v:TmT):1≤v.sz:=by cases v;unfold TmT.sz;omega
theorem TmT.szs_mem:∀{l:List TmT} {x:TmT},x∈l→x.sz≤TmT.szs l
  |y::r,x,h=>by
    unfold TmT.szs
    rcases List.mem_cons.1 h with rfl|h
    · omega
    · have:=TmT.szs_mem h;omega
theorem TmT.sz_get{w:Int}{t:QL}{k x:EX}{a:List SetT}{l:List TmT}{j n:Nat}(h:(TmT.mk w t k x a l).sz≤n+1)(hj:j<l.length):l[j].sz≤n:=by
  have:=TmT.szs_mem (List.getElem_mem hj)
  unfold TmT.sz at h;omega
/-! what may be -/
def EX.none(e:EX):Bool:=e.same .nil
def XC:List QL→Bool
  |[]=>true
  |k::r=>!r.contains k&&XC r
def TmT.partOk:TmT→Bool
  |.mk w t k x a l=>
    if w=1 then Un t&&x.none&&(a.map SetT.key).all Un&&XC (a.map SetT.key)
    else if w=2 then t==[]&&k.none&&a.length==0&&l.length==0
    else if w=3∨w=4 then t==[]&&k.none&&a.length==0
    else false
def TmT.exE:TmT→Int
  |.mk _ _ k x a _=>Hs (k.err::x.err::a.map fun s=>s.ex.err)
def TmT.ownE(t:TmT)(level n:Int):Int:=
  if 8<level then 10 else if 64≤n∨16<t.attrs.length∨16<t.kids.length then 3 else if t.partOk=false then 9 else t.exE
mutual
def TmT.walk:TmT→Int→Int→Int×Int
  |.mk w t k x a l,level,n=>
    if(TmT.mk w t k x a l).ownE level n≠0 then(n,(TmT.mk w t k x a l).ownE level n)else TmT.walks l (level+1) (n+1)
def TmT.walks:List TmT→Int→Int→Int×Int
  |[],_,n=>(n,0)
  |x::r,level,n=>if(x.walk level n).2≠0 then x.walk level n else TmT.walks r level (x.walk level n).1
end
def TmT.err(t:TmT):Int:=if t.what≠1 then 9 else(t.walk 1 0).2
/-! the tree of a state -/
def MO:QL:=[116,114,117,101]
def Hf:QL:=[102,97,108,115,101]
def Kf(v:V):QL×Int:=
  if v.kind=0 then([],0)else if v.kind=1 then(if v.bits=1 then MO else Hf,0)
  else if v.kind=2 then(if Yd v.bits=0 then(Wc (Yn v.bits),0)else([],81))else if v.kind=3 then(v.text,0)else([],81)
def YS(v:V):QL×Int:=if v.err≠0 then([],v.err)else Kf v
def W2(r:ER V):ER QL:=US r fun v f=>if(YS v).2=0 then .ok ((YS v).1,f)else .error (YS v).2
def MB(a:AtT):List AtT→List AtT
  |[]=>[a]
  |b::r=>if Op.bytesLess b.name a.name then b::MB a r else a::b::r
def HH(l:List AtT):List AtT:=l.foldl (fun acc a=>MB a acc) []
def Xi(s:ScT):List SetT→Int→ER (List AtT)
  |[],f=>.ok ([],f)
  |x::r,f=>US (W2 (x.ex.ev s f)) fun w f1=>US (Xi s r f1) fun l f2=>.ok (⟨x.key,w⟩::l,f2)
def YT(t:QL)(k:EX)(a:List SetT)(g:ScT→Int→ER (List TrT))(s:ScT)(f:Int):ER TrT:=
  US (W2 (k.ev s f)) fun key f1=>if 16<key.length then .error 5 else US (Xi s a f1) fun ats f2=>US (g s f2) fun ks f3=>.ok (.mk t key [] (HH ats) ks,f3)
def WI(g:V→Int→ER (List TrT)):List V→Int→ER (List TrT)
  |[],f=>.ok ([],f)
  |x::r,f=>US (g x f) fun a f1=>US (WI g r f1) fun b f2=>.ok (a++b,f2)
def TrT.txt(w:QL):TrT:=.mk [] [] w [] []
mutual
def TmT.partE:TmT→ScT→Int→ER (List TrT)
  |.mk w t k x a l,s,f=>
    if w=1 then US (YT t k a (fun s f=>QH l s f) s f) fun y f1=>.ok ([y],f1)
    else if w=2 then US (W2 (x.ev s f)) fun y f1=>.ok ([.txt y],f1)
    else US (x.ev s f) fun v f1=>
      if w=3 then(if(Yo v).2≠0 then .error (Yo v).2 else if(Yo v).1 then QH l s f1 else .ok ([],f1))
      else if v.kind=4 then WI (fun y f=>QH l {s with it:=y} f) v.items f1
      else .error 81
def QH:List TmT→ScT→Int→ER (List TrT)
  |[],_,f=>.ok ([],f)
  |x::r,s,f=>US (x.partE s f) fun a f1=>US (QH r s f1) fun b f2=>.ok (a++b,f2)
end
def TmT.elE:TmT→ScT→Int→ER TrT
  |.mk _ t k _ a l,s,f=>YT t k a (QH l) s f
def TmT.treeT(t:TmT)(st:V)(f:Int):TrT×Int:=match t.elE ⟨st,.nil,.nil⟩ f with
  |.error c=>(.nil,c)
  |.ok (x,_)=>if x.err≠0 then(.nil,x.err)else(x,0)
def TmT.renT(t:TmT)(st:V)(f:Int):TrT×Int:=
  if t.err≠0 then(.nil,t.err)else if st.err≠0 then(.nil,st.err)else if f<0∨4096<f then(.nil,4)else t.treeT st f
/-! more fuel changes nothing but what is left -/

end
section
/- What a template that may be makes: words, trees; errors are never 0; the order of attributes. -/
/-! parts that may be -/
inductive TmT.Fine:TmT→Prop
  |mk {w:Int} {t:QL} {k x:EX} {a:List SetT} {l:List TmT} (hp:(TmT.mk w t k x a l).partOk=true) (ha:a.length≤16) (hl:l.length≤16) (hk:k.Fine) (hx:x.Fine) (hs:∀s∈a,s.ex.Fine) (hf:∀y∈l,TmT.Fine y):TmT.Fine (.mk w t k x a l)
theorem TmT.Fine.inv{w:Int}{t:QL}{k x:EX}{a:List SetT}{l:List TmT}(h:TmT.Fine (.mk w t k x a l)):(TmT.mk w t k x a l).partOk=true∧a.length≤16∧l.length≤16∧k.Fine∧x.Fine∧(∀s∈a,s.ex.Fine)∧∀y∈l,y.Fine:=by
  cases h with|mk h1 h2 h3 h4 h5 h6 h7=>exact⟨h1,h2,h3,h4,h5,h6,h7⟩
theorem RO{w:Int}{t:QL}{k x:EX}{a:List SetT}{l:List TmT}{level n:Int}(h:(TmT.mk w t k x a l).ownE level n=0):level≤8∧n<64∧(TmT.mk w t k x a l).partOk=true∧a.length≤16∧l.length≤16∧k.err=0∧x.err=0∧∀s∈a,s.ex.err=0:=by
  unfold TmT.ownE at h
  split at h
  · cases h
  · split at h
    · cases h
    · rename_i h1 h2
      simp only[TmT.attrs,TmT.kids]at h2
      split at h
      · cases h
      · rename_i h3
        have hz:=B7 (show Hs (k.err::x.err::a.map fun s=>s.ex.err)=0 from h)
        exact⟨by omega,by omega,by simpa using h3,by omega,by omega,hz _ (by simp),hz _ (by simp),fun s hs=>hz _ (by simp only[List.mem_cons,List.mem_map];exact .inr (.inr ⟨s,hs,rfl⟩))⟩
mutual
theorem K4:∀(t:TmT) (level n:Int),(t.walk level n).2=0→t.Fine
  |.mk w t k x a l,level,n,h=>by
    unfold TmT.walk at h
    split at h
    · rename_i h1;exact absurd h h1
    · rename_i h1
      obtain⟨-,-,h2,h3,h4,h5,h6,h7⟩:=RO (Decidable.not_not.1 h1)
      exact .mk h2 h3 h4 (EX.fine_of h5) (EX.fine_of h6) (fun s hs=>EX.fine_of (h7 s hs)) (KD l _ _ h)
theorem KD:∀(l:List TmT) (level n:Int),(TmT.walks l level n).2=0→∀y∈l,y.Fine
  |[],_,_,_,y,hy=>by cases hy
  |x::r,level,n,h,y,hy=>by
    unfold TmT.walks at h
    split at h
    · rename_i h1;exact absurd h h1
    · rename_i h1
      rcases List.mem_cons.1 hy with hy|hy
      · rw[hy];exact K4 x level n (Decidable.not_not.1 h1)
      · exact KD r _ _ h y hy
end
theorem TmT.fine_of{t:TmT}(h:t.err=0):t.Fine:=by
  unfold TmT.err at h
  split at h
  · cases h
  · exact K4 t 1 0 h
theorem TF{t:TmT}(h:t.err=0):t.what=1:=by
  unfold TmT.err at h
  split at h
  · cases h
  · rename_i h1;exact Decidable.not_not.1 h1
theorem Ra{t:QL}{k x:EX}{a:List SetT}{l:List TmT}(h:TmT.Fine (.mk 1 t k x a l)):Un t=true∧x.none=true∧(∀s∈a,Un s.key=true)∧XC (a.map SetT.key)=true:=by
  obtain⟨h1,-⟩:=h.inv
  simp only[TmT.partOk,if_true,Bool.and_eq_true,List.all_eq_true,List.mem_map,forall_exists_index,and_imp,forall_apply_eq_imp_iff₂]at h1
  exact⟨h1.1.1.1,h1.1.1.2,h1.1.2,h1.2⟩
/-! words -/
theorem Dc{n:Nat}(h:n≤9007199254740992):(YJ n).length≤16:=LP 15 n (by omega)
theorem R7{n:Int}(h: -9007199254740992≤n∧n≤9007199254740992):(Wc n).length≤17:=by
  unfold Wc
  have:=Dc (n:=n.natAbs) (by omega)
  split
  · simp;omega
  · omega
theorem V.good.text{v:V}(h:v.good)(hk:v.kind=3):v.text.length≤128:=by
  have:=h.fine.part
  obtain⟨k,b,t,ks,is⟩:=v
  obtain rfl:k=3:=hk
  simp[Q7]at this
  exact this.1.1.2
theorem FN{v:V}(h:v.good):(Kf v).1.length≤128:=by
  unfold Kf
  split
  · simp
  · split
    · show(if v.bits=1 then MO else Hf).length≤128
      split<;>decide
    · split
      · split
        · rename_i hi
          have:=R7 (Xp v.bits hi)
          show(Wc (Yn v.bits)).length≤128
          omega
        · simp
      · split
        · rename_i hk;exact h.text hk
        · simp
theorem K8{v:V}(h:v.good):YS v=Kf v:=if_neg (fun h2=>h2 h.err)
theorem OkE.fuel{r:ER V}{f d:Int}(h:OkE f d r){v:V}{f':Int}(hr:r=.ok (v,f')):v.good∧f'≤f-d∧0≤f':=h v f' hr
theorem U5{α β:Type}{r:ER α}{k:α→Int→ER β}{x:β×Int}(h:US r k=.ok x):∃v f,r=.ok (v,f)∧k v f=.ok x:=by
  unfold US at h
  cases r with
  |error c=>cases h
  |ok p=>obtain⟨v,f⟩:=p;exact⟨v,f,rfl,h⟩
theorem FO{r:ER V}{w:QL}{f:Int}(h:W2 r=.ok (w,f)):∃v,r=.ok (v,f)∧w=(YS v).1∧(YS v).2=0:=by
  obtain⟨v,f1,h1,h2⟩:=U5 h
  split at h2
  · rename_i h3;cases h2;exact⟨v,h1,rfl,h3⟩
  · cases h2
theorem XG{e:EX}{s:ScT}{f f':Int}{w:QL}(hf:e.Fine)(hw:e.wf)(hs:s.good)(h:W2 (e.ev s f)=.ok (w,f')):w.length≤128∧f'≤f-1∧0≤f':=by
  obtain⟨v,h1,rfl,h2⟩:=FO h
  obtain⟨g1,g2,g3⟩:=(UJ e s f hf hw hs).fuel h1
  rw[K8 g1]
  exact⟨FN g1,g2,g3⟩
theorem L8{s:ScT}(hs:s.good):∀{a:List SetT} {f f':Int} {l:List AtT},(∀x∈a,x.ex.Fine)→(∀x∈a,x.wf)→0≤f→Xi s a f=.ok (l,f')→l.map AtT.name=a.map SetT.key∧(∀x∈l,x.value.length≤128)∧f'≤f∧0≤f'
  |[],f,f',l,_,_,h0,h=>by rw[Xi]at h;cases h;exact⟨rfl,(fun _ h=>by cases h),Int.le_refl _,h0⟩
  |x::r,f,f',l,hf,hw,h0,h=>by
    rw[Xi]at h
    obtain⟨w,f1,h1,h⟩:=U5 h
    obtain⟨b,f2,h2,h⟩:=U5 h
    cases h
    obtain⟨g1,g2,g3⟩:=XG (hf x (by simp)) (hw x (by simp)).ex hs h1
    obtain⟨k1,k2,k3,k4⟩:=L8 hs (fun y hy=>hf y (by simp[hy])) (fun y hy=>hw y (by simp[hy])) g3 h2
    exact⟨by simp[k1],fun y hy=>by rcases List.mem_cons.1 hy with rfl|hy;exact g1;exact k2 y hy,by omega,k4⟩
/-! the order of attributes -/
theorem Hq(a:AtT):∀l,(MB a l).Perm (a::l)
  |[]=>.refl _
  |b::r=>by
    unfold MB
    split
    · exact((Hq a r).cons b).trans (List.Perm.swap a b r)
    · exact .refl _
theorem LX:∀(l acc:List AtT),(l.foldl (fun acc a=>MB a acc) acc).Perm (l++acc)
  |[],acc=>.refl _
  |a::r,acc=>(LX r (MB a acc)).trans (((Hq a acc).append_left r).trans List.perm_middle)
theorem Gc(l:List AtT):(HH l).Perm l:=by have:=LX l [];rwa [List.append_nil]at this
theorem Gv(l:List AtT):(HH l).length=l.length:=(Gc l).length_eq
def FL(l:List AtT):Prop:=l.Pairwise fun a b=>Op.bytesLess b.name a.name=false
theorem R9{a:AtT}:∀{l:List AtT},FL l→FL (MB a l)
  |[],_=>by simp[MB,FL]
  |b::r,h=>by
    obtain⟨h1,h2⟩:=List.pairwise_cons.1 h
    unfold MB
    split
    · rename_i hb
      refine List.pairwise_cons.2 ⟨fun c hc=>?_,R9 h2⟩
      rcases List.mem_cons.1 ((Hq a r).mem_iff.1 hc)with rfl|hc
      · exact CZ hb
      · exact h1 c hc
    · rename_i hb
      have hb:Op.bytesLess b.name a.name=false:=by simpa using hb
      refine List.pairwise_cons.2 ⟨fun c hc=>?_,h⟩
      rcases List.mem_cons.1 hc with rfl|hc
      · exact hb
      · have h3:=h1 c hc
        cases h4:Op.bytesLess c.name a.name with
        |false=>rfl
        |true=>
          rcases GE b.name c.name with k|k|k
          · rw[WW k h4]at hb;cases hb
          · rw[k,h4]at hb;cases hb
          · rw[h3]at k;cases k
theorem M6:∀(l acc:List AtT),FL acc→FL (l.foldl (fun acc a=>MB a acc) acc)
  |[],acc,h=>h
  |a::r,acc,h=>M6 r _ (R9 h)
theorem CC(l:List AtT):FL (HH l):=M6 l [] List.Pairwise.nil
theorem X2:∀{l:List QL},XC l=true↔l.Nodup
  |[]=>by simp[XC]
  |k::r=>by simp[XC,X2 (l:=r)]
theorem LM{l:List QL}:l.Nodup↔∀i (h:i<l.length),l[i]∉l.take i:=by
  unfold List.Nodup
  rw[List.pairwise_iff_getElem]
  constructor
  · intro h i hi hm
    obtain⟨j,hj,e⟩:=List.mem_take_iff_getElem.1 hm
    exact h j i (by omega) hi (by omega) e
  · intro h i j hi hj hij e
    exact h j hj (List.mem_take_iff_getElem.2 ⟨i,by omega,e⟩)
theorem CQ{l:List QL}{i:Nat}(hi:i<l.length)(h:(l.take i).contains l[i]=true):XC l=false:=by
  rw[Bool.eq_false_iff]
  intro hc
  exact LM.1 (X2.1 hc) i hi (by simpa using h)
theorem T9{l:List QL}(h:∀i (hi:i<l.length),(l.take i).contains l[i]=false):XC l=true:=
  X2.2 (LM.2 fun i hi hm=>by have:=h i hi;simp at this;exact this hm)
theorem LA:∀{a b:List AtT},a.Perm b→(a.map AtT.name).Nodup→FL a→FL b→a=b
  |[],b,h,_,_,_=>(List.nil_perm.1 h).symm
  |x::r,[],h,_,_,_=>by have:=h.length_eq;simp at this
  |x::r,y::s,h,hn,ha,hb=>by
    obtain⟨h1,h2⟩:=List.pairwise_cons.1 ha
    obtain⟨h3,h4⟩:=List.pairwise_cons.1 hb
    have hxy:x=y:=by
      rcases List.mem_cons.1 (h.mem_iff.1 (List.mem_cons_self (a:=x) (l:=r)))with e|hx
      · exact e
      · rcases List.mem_cons.1 (h.mem_iff.2 (List.mem_cons_self (a:=y) (l:=s)))with e|hy
        · exact e.symm
        · have k1:=h1 y hy
          have k2:=h3 x hx
          have hne:¬x.name=y.name:=fun e=>(List.nodup_cons.1 hn).1 (List.mem_map.2 ⟨y,hy,e.symm⟩)
          rcases GE x.name y.name with k|k|k
          · rw[k2]at k;cases k
          · exact absurd k hne
          · rw[k1]at k;cases k
    subst hxy
    rw[LA (List.Perm.cons_inv h) (List.nodup_cons.1 hn).2 h2 h4]
theorem Ny{a b:List AtT}(h:a.Perm b)(hn:(a.map AtT.name).Nodup)(hb:FL b):b=HH a:=
  (LA (h.symm.trans (Gc a).symm) ((h.map _).nodup_iff.1 hn) hb (CC a))
/-! trees that fit -/
theorem HQ{s:QL}(h:Un s=true):1≤s.length∧s.length≤16:=by
  simp only[Un,Bool.and_eq_true,decide_eq_true_eq]at h;exact h.1
theorem F7{l:List AtT}{a:List SetT}(hn:l.map AtT.name=a.map SetT.key)(hl:∀s∈a,Un s.key=true)(hv:∀x∈l,x.value.length≤128):∀x∈HH l,AtT.wf x:=fun x hx=>by
  have hm:=(Gc l).mem_iff.1 hx
  obtain⟨s,hs,e⟩:=List.mem_map.1 (hn▸List.mem_map.2 ⟨x,hm,rfl⟩)
  have h1:=(HQ (hl s hs)).2
  have h2:=hv x hm
  exact⟨by rw[← e];unfold Qs;omega,by unfold Qs;omega⟩
def OkT(f:Int)(r:ER (List TrT)):Prop:=∀l f',r=.ok (l,f')→(∀x∈l,x.wf)∧(l.length:Int)+f'≤f∧0≤f'
theorem Na{t:QL}{k:EX}{a:List SetT}{g:ScT→Int→ER (List TrT)}{s:ScT}{f f':Int}{y:TrT}(hs:s.good)(h0:f≤4096)(ht:Un t=true)(hk:k.Fine∧k.wf)(ha:a.length≤16)(haf:∀x∈a,x.ex.Fine)(haw:∀x∈a,x.wf)(hal:∀x∈a,Un x.key=true)
    (hg:∀f,0≤f→f≤4096→OkT f (g s f)) (h:YT t k a g s f=.ok (y,f')):y.wf∧1+f'≤f∧0≤f':=by
  obtain⟨key,f1,h1,h⟩:=U5 h
  obtain⟨g1,g2,g3⟩:=XG hk.1 hk.2 hs h1
  split at h
  · cases h
  · obtain⟨l,f2,h2,h⟩:=U5 h
    obtain⟨ks,f3,h3,h⟩:=U5 h
    cases h
    obtain⟨k1,k2,k3,k4⟩:=L8 hs haf haw g3 h2
    obtain⟨j1,j2,j3⟩:=hg f2 k4 (by omega) ks f' h3
    have hlen:l.length=a.length:=by have:=congrArg List.length k1;simpa using this
    have htl:=(HQ ht).2
    exact⟨.mk (by unfold Qs;omega) (by unfold Qs;omega) (by decide) (by rw[Gv];unfold Qs;omega) (F7 k1 hal k2) (by unfold Qs;omega) j1,by omega,j3⟩
theorem Nb{g:V→Int→ER (List TrT)}:∀{l:List V} {f:Int},(∀x∈l,∀f,0≤f→f≤4096→OkT f (g x f))→0≤f→f≤4096→OkT f (WI g l f)
  |[],f,_,h0,_,l,f',h=>by rw[WI]at h;cases h;exact⟨(fun _ h=>by cases h),by simp,h0⟩
  |x::r,f,hg,h0,h1,l,f',h=>by
    rw[WI]at h
    obtain⟨a,f1,h2,h⟩:=U5 h
    obtain⟨b,f2,h3,h⟩:=U5 h
    cases h
    obtain⟨g1,g2,g3⟩:=hg x (by simp) f h0 h1 a f1 h2
    obtain⟨k1,k2,k3⟩:=Nb (fun y hy=>hg y (by simp[hy])) g3 (by omega) b f' h3
    exact⟨fun y hy=>(List.mem_append.1 hy).elim (g1 y) (k1 y),by simp;omega,k3⟩
theorem txt_wf{w:QL}(h:w.length≤128):(TrT.txt w).wf:=.mk (by decide) (by decide) (by unfold Qs;omega) (by decide) (fun _ h=>by cases h) (by decide) (fun _ h=>by cases h)
theorem ScT.good.item{s:ScT}(h:s.good){y:V}(hy:y.good):ScT.good {s with it:=y}:=⟨h.st,h.ev,hy⟩
mutual
theorem K5:∀(t:TmT) {s:ScT} {f:Int},t.Fine→t.wf→s.good→0≤f→f≤4096→OkT f (t.partE s f)
  |.mk w t k x a l,s,f,hf,hw,hs,h0,h1,r,f',h=>by
    obtain⟨hp,ha,hl,hk,hx,haf,hlf⟩:=hf.inv
    obtain⟨-,-,hkw,hxw,-,haw,-,hlw⟩:=hw.inv
    rw[TmT.partE]at h
    split at h
    · rename_i hw1
      subst hw1
      obtain⟨y,f1,h2,h⟩:=U5 h
      cases h
      obtain⟨e1,-,e3,-⟩:=Ra hf
      obtain⟨g1,g2,g3⟩:=Na hs h1 e1 ⟨hk,hkw⟩ ha haf haw e3 (fun f hf0 hf1=>Wq l hlf hlw hs hf0 hf1) h2
      exact⟨fun z hz=>by rw[List.mem_singleton.1 hz];exact g1,by simp;omega,g3⟩
    · split at h
      · obtain⟨y,f1,h2,h⟩:=U5 h
        cases h
        obtain⟨g1,g2,g3⟩:=XG hx hxw hs h2
        exact⟨fun z hz=>by rw[List.mem_singleton.1 hz];exact txt_wf g1,by simp;omega,g3⟩
      · obtain⟨v,f1,h2,h⟩:=U5 h
        obtain⟨g1,g2,g3⟩:=(UJ x s f hx hxw hs).fuel h2
        split at h
        · split at h
          · cases h
          · split at h
            · obtain⟨k1,k2,k3⟩:=Wq l hlf hlw hs g3 (by omega) r f' h
              exact⟨k1,by omega,k3⟩
            · cases h;exact⟨(fun _ h=>by cases h),by simp;omega,g3⟩
        · split at h
          · obtain⟨k1,k2,k3⟩:=Nb (fun y hy f hf0 hf1=>Wq l hlf hlw (hs.item (g1.kid hy)) hf0 hf1) g3 (by omega) r f' h
            exact⟨k1,by omega,k3⟩
          · cases h
theorem Wq:∀(l:List TmT) {s:ScT} {f:Int},(∀y∈l,y.Fine)→(∀y∈l,y.wf)→s.good→0≤f→f≤4096→OkT f (QH l s f)
  |[],s,f,_,_,_,h0,_,r,f',h=>by rw[QH]at h;cases h;exact⟨(fun _ h=>by cases h),by simp,h0⟩
  |x::q,s,f,hf,hw,hs,h0,h1,r,f',h=>by
    rw[QH]at h
    obtain⟨a,f1,h2,h⟩:=U5 h
    obtain⟨b,f2,h3,h⟩:=U5 h
    cases h
    obtain⟨g1,g2,g3⟩:=K5 x (hf x (by simp)) (hw x (by simp)) hs h0 h1 a f1 h2
    obtain⟨k1,k2,k3⟩:=Wq q (fun y hy=>hf y (by simp[hy])) (fun y hy=>hw y (by simp[hy])) hs g3 (by omega) b f' h3
    exact⟨fun y hy=>(List.mem_append.1 hy).elim (g1 y) (k1 y),by simp;omega,k3⟩
end
/-! errors are never 0 -/
theorem TG{t:TmT}{s:ScT}{f f':Int}{y:TrT}(hf:t.Fine)(hw:t.wf)(h1:t.what=1)(hs:s.good)(hf1:f≤4096)(h:t.elE s f=.ok (y,f')):y.wf∧1+f'≤f∧0≤f':=by
  obtain⟨w,t,k,x,a,l⟩:=t
  obtain rfl:w=1:=h1
  obtain⟨hp,ha,hl,hk,hx,haf,hlf⟩:=hf.inv
  obtain⟨-,-,hkw,hxw,-,haw,-,hlw⟩:=hw.inv
  obtain⟨e1,-,e3,-⟩:=Ra hf
  exact Na hs hf1 e1 ⟨hk,hkw⟩ ha haf haw e3 (fun f hf0 hf1=>Wq l hlf hlw hs hf0 hf1) h

end
section
/- Maps of texts that are true: an own entry. -/
open Go Go.RowKit Go.MapKept
def TB(l:List QL)(s:QL):List QL:=if l.contains s then l else l++[s]
abbrev mpK(b:Nat)(l:List QL):Own:=.mp b (l.map Q8)
theorem P9{a b:QL}(h:Q8 a=Q8 b):a=b:=by simpa[Q8]using h
theorem RV{es:Array MapEntry}{l:List QL}(h:es.toList.map (fun e=>(e.key,e.val))=(l.map Q8).map fun k=>(k,Value.bool true)):∀x∈es.toList,IsKey .string x.key:=fun x hx=>by
  have hm:(x.key,x.val)∈(l.map Q8).map fun k=>(k,Value.bool true):=h▸List.mem_map.2 ⟨x,hx,rfl⟩
  obtain⟨k,hk,e⟩:=List.mem_map.1 hm
  obtain⟨s,_,rfl⟩:=List.mem_map.1 hk
  rw[← (Prod.mk.inj e).1];simp[IsKey]
theorem BC{es:Array MapEntry}{l:List QL}(h:es.toList.map (fun e=>(e.key,e.val))=(l.map Q8).map fun k=>(k,Value.bool true)){x:MapEntry}(hx:x∈es.toList){s:QL}(hs:x.key=Q8 s):x.val=.bool true∧s∈l:=by
  have hm:(x.key,x.val)∈(l.map Q8).map fun k=>(k,Value.bool true):=h▸List.mem_map.2 ⟨x,hx,rfl⟩
  obtain⟨k,hk,e⟩:=List.mem_map.1 hm
  obtain⟨u,hu,rfl⟩:=List.mem_map.1 hk
  obtain⟨e1,e2⟩:=Prod.mk.inj e
  exact⟨e2.symm,P9 (e1.trans hs)▸hu⟩
theorem mp_no{es:Array MapEntry}{l:List QL}(h:es.toList.map (fun e=>(e.key,e.val))=(l.map Q8).map fun k=>(k,Value.bool true)){s:QL}(hn:∀x∈es.toList,x.key≠Q8 s):s∉l:=fun hm=>by
  have:(Q8 s,Value.bool true)∈es.toList.map (fun e=>(e.key,e.val)):=h▸List.mem_map.2 ⟨Q8 s,List.mem_map.2 ⟨s,hm,rfl⟩,rfl⟩
  obtain⟨x,hx,e⟩:=List.mem_map.1 this
  exact hn x hx (Prod.mk.inj e).1
section
variable {P:Program} {E:WE} {Q:Exit→St→Prop} {n:Nat} {env:List (Nat×AV)} {own:List Own} {F:List (Value×AV)} {D:List Deferred}
variable {d:Nat} {ty t kt et:TypeId} {pos:String} {af:Array Edge} {x y z:Operand} {ops:Array Oper} {rest:List Oper}
theorem JL.makeMap(hd:Nat.blt d n=true)(h:∀b,JL P E ops rest ⟨n,(d,.c (.map (some b)))::env,mpK b []::own,F,D⟩ Q):
    JL P E ops (⟨some d,.makeMap t none,ty,pos,af,none⟩::rest) ⟨n,env,own,F,D⟩ Q:=fun a w ⟨A,hA⟩=>by
  refine wpListIn_plain rfl fun K hK=>?_
  refine HD (by intro c h;cases h) ?_
  unfold Oper.wp
  have hr:(execOp a.eval ⟨some d,.makeMap t none,ty,pos,af,none⟩).run P w=.ok (.value (.map (some w.heap.size))) (QG w (.map #[] 0)):=by
    have h1:(Instr.makeMap t none).run P w=.ok (.map (some w.heap.size)) (QG w (.map #[] 0)):=rfl
    simp only[execOp,Option.map_none,h1,Sem.run_bind,Result.andThen_ok,Sem.run_pure]
  rw[hr,Oper.upon_value]
  refine hK _ _ (h w.heap.size _ _ ⟨A,?_⟩)
  exact(hA.step (.push _ _ _) (fun _ _ h=>h) (hA.hp.push hA.keep.size (o:=mpK w.heap.size []) rfl (by simp only[Own.ok];exact⟨#[],0,Xs _ _,rfl⟩))).put (Uh hd) (.c _)
theorem Np(i:Nat){b:Nat}{l:List QL}{s:QL}(hm:P.underlying t=some (.map kt et))(hk:P.underlying kt=some .string)(hx:Ev E ⟨n,env,own,F,D⟩ x (.c (.map (some b))))(hy:Ev E ⟨n,env,own,F,D⟩ y (.c (Q8 s)))
    (hz:Ev E ⟨n,env,own,F,D⟩ z (.c (.bool true))) (ho:own[i]? =some (mpK b l)) {own':List Own} (hown:own.set i (mpK b (TB l s))=own') (h:JL P E ops rest ⟨n,env,own',F,D⟩ Q):
    JL P E ops (⟨none,.mapUpdate t x y z,ty,pos,af,none⟩::rest) ⟨n,env,own,F,D⟩ Q:=fun a w ⟨A,hA⟩=>by
  refine wpListIn_plain rfl fun K hK=>?_
  refine HD (by intro c h;cases h) ?_
  unfold Oper.wp
  subst hown
  have hok:=hA.hp.own _ (List.mem_of_getElem? ho)
  simp only[Own.ok]at hok
  obtain⟨es,ck,hb,he⟩:=hok
  have hks:=RV he
  have hkey:IsKey .string (Q8 s):=by simp[IsKey]
  obtain⟨es',ck',hr,he'⟩:∃es' ck',(execOp a.eval ⟨none,.mapUpdate t x y z,ty,pos,af,none⟩).run P w=.ok .skip {w with heap:=w.heap.setIfInBounds b (.map es' ck')}∧
      es'.toList.map (fun e=>(e.key,e.val))=((TB l s).map Q8).map fun k=>(k,Value.bool true):=by
    rcases findNow_spec hkey es.toList 0 hks with ⟨h1,h2⟩|⟨j,e,h1,h2,h3⟩
    · refine⟨_,_,by simp[execOp,hx.eq hA,hy.eq hA,hz.eq hA,Instr.mapUpdate,Qp _ hm,Go.MapKept.run_getObj_map hb,Go.MapKept.run_checkKey hk hkey,Go.MapKept.run_findKey hk h1,Go.MapKept.run_setObj_map _ hb,Result.andThen];rfl,?_⟩
      have hns:=mp_no he h2
      rw[TB,if_neg (by simpa using hns)]
      simp[he]
    · have hj:es[j]? =some e:=by simpa using h2
      refine⟨_,_,by simp[execOp,hx.eq hA,hy.eq hA,hz.eq hA,Instr.mapUpdate,Qp _ hm,Go.MapKept.run_getObj_map hb,Go.MapKept.run_checkKey hk hkey,Go.MapKept.run_findKey hk h1,hj,h3,Go.MapKept.run_keyThatStays hkey,Go.MapKept.run_setObj_map _ hb,Result.andThen];rfl,?_⟩
      obtain⟨hv,hsl⟩:=BC he (List.mem_of_getElem? h2) h3
      rw[TB,if_pos (by simpa using hsl),← he]
      rw[Array.toList_modify]
      apply List.ext_getElem?
      intro m
      rw[List.getElem?_map,List.getElem?_map,List.getElem?_modify]
      by_cases hjm:j=m
      · subst hjm;rw[h2];simp[h3,hv]
      · simp[hjm]
  rw[hr,Oper.upon_skip]
  have hlt:=X5 hb
  have hh:=Go.MapKept.heap_set (o':=.map es' ck') hb
  have hkp:Keep [b] w {w with heap:=w.heap.setIfInBounds b (.map es' ck')}:=⟨rfl,rfl,rfl,by simp,fun k _ hk=>hh.2 k (by simpa using hk)⟩
  refine hK _ _ (h _ _ ⟨A,?_⟩)
  refine hA.step (hkp.mono fun c hc=>?_) (fun _ _ h=>h) (hA.hp.upd (o':=mpK b _) ho rfl hkp (by simp) ?_)
  · simp only[List.mem_singleton]at hc;subst hc;exact Us (List.mem_of_getElem? ho) (by simp[Own.fp])
  · simp only[Own.ok];exact⟨es',ck',hh.1,he'⟩
end
section
variable {P:Program} {E:WE} {st:St} {ty t kt et:TypeId} {pos:String} {af:Array Edge} {d:Option Tmp} {gd:Option (Nat×Bool)} {x y:Operand}
theorem G5(i:Nat){b:Nat}{l:List QL}{s:QL}(hm:P.underlying t=some (.map kt et))(hk:P.underlying kt=some .string)(hza:∀w,(zeroValue et).run P w=.ok (.bool false) w)(hx:Ev E st x (.c (.map (some b))))(hy:Ev E st y (.c (Q8 s)))
    (ho:st.own[i]? =some (mpK b l)):QW P E st ⟨d,.lookup t x y false,ty,pos,af,gd⟩ (.c (.bool (l.contains s))):=.pure fun A a w hs=>by
  have hok:=hs.hp.own _ (List.mem_of_getElem? ho)
  simp only[Own.ok]at hok
  obtain⟨es,ck,hb,he⟩:=hok
  have hkey:IsKey .string (Q8 s):=by simp[IsKey]
  rcases findNow_spec hkey es.toList 0 (RV he)with ⟨h1,h2⟩|⟨j,e,h1,h2,h3⟩
  · refine⟨_,by simp[execOp,hx.eq hs,hy.eq hs,Instr.lookup,Qp _ hm,Go.MapKept.run_getObj_map hb,Go.MapKept.run_checkKey hk hkey,Go.MapKept.run_findKey hk h1,hza,Result.andThen];rfl,?_⟩
    have:l.contains s=false:=by simpa using mp_no he h2
    rw[this];exact .c _
  · obtain⟨hv,hsl⟩:=BC he (List.mem_of_getElem? h2) h3
    refine⟨_,by simp[execOp,hx.eq hs,hy.eq hs,Instr.lookup,Qp _ hm,Go.MapKept.run_getObj_map hb,Go.MapKept.run_checkKey hk hkey,Go.MapKept.run_findKey hk h1,Result.andThen];rfl,?_⟩
    have:l.contains s=true:=by simpa using hsl
    rw[this,hv];exact .c _
end
theorem SatA.freshW{E:WE}{A:QS}{st:St}{a:Act}{w w':World}(hA:SatA E A st a w)(hk:Keep [] w w')(hz:w'.heap.size=w.heap.size+1):
    ∃A',SatA E A' st a w'∧Frm w A w' A'∧∀fr,A' fr w.heap.size:=by
  obtain⟨n,env,own,F,D⟩:=st
  let A':QS:=fun fr b=>A fr b∨b=w.heap.size
  have hup:∀fr b,A fr b→A' fr b:=fun fr b hb=>.inl hb
  have hkeep:∀fr b,A fr b→b<w.heap.size→w'.heap[b]? =w.heap[b]? :=fun fr b _ hlt=>hk.block b hlt (by simp)
  refine⟨A',hA.step (hk.mono (fun x hx=>by cases hx)) hup ⟨fun b hb=>hb.imp (hA.hp.mono b) id,fun fr b hb=>hup fr b (hA.hp.sup fr b hb),fun fr b hb=>?_,fun fr b hb=>?_,fun b hb=>?_,hA.hp.nodup,fun o ho=>?_⟩,
    fun u y h=>h.move (fun fr b hb _=>hup fr b hb) hkeep,fun fr=>.inr rfl⟩
  · rcases hb with hb|rfl
    · exact hA.hp.sub fr b hb
    · exact .inr hA.keep.size
  · rw[hz]
    rcases hb with hb|rfl
    · have:=hA.hp.lt fr b hb;omega
    · omega
  · obtain⟨h1,h2,h3⟩:=hA.hp.fp b hb
    exact⟨by rw[hz];omega,h2,fun fr h=>h.elim (h3 fr) (fun he=>by omega)⟩
  · exact(hA.hp.own o ho).move (fun fr b hb _=>hup fr b hb) hkeep fun b hb=>hk.block b (hA.hp.fp b (Us ho hb)).1 (by simp)
theorem Rj{P:Program}{E:WE}{st:St}{ty s0 t e8:TypeId}{pos:String}{af:Array Edge}{dd:Option Tmp}{gd:Option (Nat×Bool)}{x:Operand}{l:QL}(hS:P.underlying s0=some .string)(hT:P.underlying t=some (.slice e8))(hE:P.underlying e8=some (.int .u8))
    (hx:Ev E st x (.c (Q8 l))) (hl:l.length≤Qs):QW P E st ⟨dd,.convert s0 t x,ty,pos,af,gd⟩ (.sl true false ⟨1,1⟩ (WT l)):=fun A a w hA K Qx hK=>by
  refine HD (by intro c h;cases h) ?_
  unfold Oper.wp
  have hsz:(⟨l.toArray⟩:ByteArray).size=l.length:=by simp[ByteArray.size]
  have hr:(execOp a.eval ⟨dd,.convert s0 t x,ty,pos,af,gd⟩).run P w=.ok (.value (.slice (some ⟨w.heap.size,0,none⟩) l.length (grownCap w l.length 0 e8))) (Lib.bytesWorld w e8 ⟨l.toArray⟩):=by
    simp only[execOp,hx.eq hA,Sem.run_bind,Lib.run_convert_string_bytes w s0 t e8 _ hS hT hE,Result.andThen_ok,Sem.run_pure,hsz]
  rw[hr,Oper.upon_value]
  have hk:Keep [] w (Lib.bytesWorld w e8 ⟨l.toArray⟩):=⟨by simp[Lib.bytesWorld,World.freeze,World.alloc,World.drew,-World.alloc_eq,-World.drew_eq],by simp[Lib.bytesWorld,World.freeze,World.alloc,World.drew,-World.alloc_eq,-World.drew_eq],by simp[Lib.bytesWorld,World.freeze,World.alloc,World.drew,-World.alloc_eq,-World.drew_eq],
    by rw[Lib.bytesWorld_size];omega,fun k hk _=>Lib.bytesWorld_at_old w e8 _ k hk⟩
  obtain⟨A',h1,h2,h3⟩:=hA.freshW hk (Lib.bytesWorld_size w e8 _)
  refine hK _ _ A' h2 h1 ?_
  have hb:=Lib.bytesWorld_at_new w e8 ⟨l.toArray⟩
  have hlen:(WT l).length=l.length:=UR l
  have hg:Rd (Lib.bytesWorld w e8 ⟨l.toArray⟩) A' (.slice (some ⟨w.heap.size,0,none⟩) (WT l).length (grownCap w l.length 0 e8)) (.sl true false ⟨1,1⟩ (WT l)):=by
    refine .sl true false ⟨1,1⟩ (WT l) w.heap.size 0 _ _ _ _ (fun k=>Value.int .u8 ((l.getD k 0).toNat:Int)) (h3 true) hb (by rw[hlen];exact grownCap_ge _ _ _ _) (fun h=>by cases h) (fun x hx=>?_) (by rw[hlen,Nat.mul_one];exact hl) (fun k y hk=>?_) (fun k y hk=>?_)
    · obtain⟨c,_,rfl⟩:=List.mem_map.1 hx;rfl
    · rw[GX,List.getElem?_map]at hk
      cases hc:l[k]? with
      |none=>rw[hc]at hk;cases hk
      |some c=>
        have hlt:k<l.length:=(List.getElem?_eq_some_iff.1 hc).1
        refine⟨?_,rfl⟩
        rw[Nat.zero_add]
        have hgd:l.getD k 0=c:=by simp[List.getD_eq_getElem?_getD,hc]
        rw[hgd,Lib.bytesCells,Array.getElem?_append_left (by simpa using hlt)]
        simp[hc]
    · rw[GX,List.getElem?_map]at hk
      cases hc:l[k]? with
      |none=>rw[hc]at hk;cases hk
      |some c=>
        rw[hc]at hk;cases hk
        have hgd:l.getD k 0=c:=by simp[List.getD_eq_getElem?_getD,hc]
        rw[hgd];exact .c _
  rwa [hlen]at hg
/-! who may defer one call, or none -/
def retE(P:Program)(fn:Func)(R:Wf→List Own→Prop)(e:Exit)(s:St):Prop:=
  retD P fn R e s∨(YK e=some .returning∧s.dfs=[]∧∃x own' dr,RetEv P fn s x∧s.own.Perm (own'++dr)∧R (.ret x) own')
theorem retE.none{P:Program}{fn:Func}{R:Wf→List Own→Prop}{s:St}{x:AV}(ms:List Cd)(h1:RetEv P fn s x)(h2:s.dfs=[])(h3:R (.ret x) (QC ms s.own)):retE P fn R .ret s:=.inr ⟨rfl,h2,x,QC ms _,_,h1,Qj ms _,h3⟩
theorem TU{P:Program}{own:List Own}{f:FuncId}{fn:Func}{c:Code}{N:Nat}{xs:List AV}{R:Wf→List Own→Prop}(hf:P.funcs[f]? =some fn)(hb:fn.body=some c)(hN:fn.ntmps=N)(hlen:Nat.ble xs.length N=true)
    (h:∀w0 A0,J P ⟨w0,UM own,A0,none⟩ c ⟨N,Xr 0 xs,own,[],[]⟩ (retE P fn R)):AC P f own xs R:=fun w A0 vs hp hargs=>by
  refine calls_of_wp_defers hf hb ?_
  subst hN
  have hin:c.wpIn Fence.wide 0 P _ _ w:=h w A0 _ w ⟨A0,GK hp hargs (Nat.le_of_ble_eq_true hlen)⟩
  refine wp_mono (wpIn_wide.1 hin) fun e a' w' ⟨s,hq,A,hs⟩=>?_
  have hl:∀u,YK e=some u→u≠ .run→Leaves P fn a'.tmps (fun e w'=>∃r own' A,R r own'∧Keep (UM own) w w'∧Hp w.heap.size (UM own) A0 own' w' A∧RdE w' A e r) a'.defers u w':=by
    intro u hu hne
    rcases hq with ⟨u2,g,fi,ca,op,ro,hu2,hdf,hg,hperm,hD⟩|⟨hu2,hdf,x,own',dr,hev,hperm,hR⟩
    · rw[hu]at hu2
      cases hu2
      obtain⟨n,env,own1,F,D⟩:=s
      simp only at hdf hperm
      have hs':=hs.perm hperm
      rw[hs.defers]
      simp only
      rw[hdf]
      refine leaves_cons (args:=fi.toArray++ca.toArray) (f:=g) hne (by simp only[invoke,LU hg]) ?_
      have hrl:RdL w' A (fi.toArray++ca.toArray) ((fi++ca).map AV.c):=by
        refine⟨by simp,fun i z hz=>?_⟩
        rw[List.getElem?_map]at hz
        cases hv:(fi++ca)[i]? with
        |none=>rw[hv]at hz;cases hz
        |some v=>
          rw[hv]at hz;cases hz
          have:(fi.toArray++ca.toArray).getD i undef=v:=by
            rw[List.append_toArray,Array.getD_eq_getD_getElem?,List.getElem?_toArray,hv];rfl
          rw[this];exact .c v
      refine(hD w' A _ hs'.callee hrl).mono ?_
      rintro e u' w'' ⟨r,own',A',⟨⟨x,rfl⟩,hst,y,own'',dr,hev,hp2,hR⟩,hk,hp',v,rfl,hv⟩
      have hcalled:=hs'.called hk hp'
      simp only
      rw[hst]
      obtain⟨v',g1,g2⟩:=hev _ A' a' w'' hcalled
      exact⟨v',g1,.ret y,own'',A',hR,hcalled.keep,(hcalled.hp.perm hp2).left,v',rfl,g2⟩
    · rw[hu]at hu2
      cases hu2
      rw[hs.defers,hdf]
      obtain⟨v',g1,g2⟩:=hev _ A a' w' hs
      exact⟨v',g1,.ret x,own',A,hR,hs.keep,(hs.hp.perm hperm).left,v',rfl,g2⟩
  cases e with
  |normal=>exact hl _ rfl (by simp)
  |ret=>exact hl _ rfl (by simp)
  |panic chain=>exact hl _ rfl (by simp)
  |exit id=>rcases hq with ⟨u,g,fi,ca,op,ro,hu,_⟩|⟨hu,_⟩<;>simp[YK]at hu
  |goto l=>rcases hq with ⟨u,g,fi,ca,op,ro,hu,_⟩|⟨hu,_⟩<;>simp[YK]at hu
  |outgrown=>rcases hq with ⟨u,g,fi,ca,op,ro,hu,_⟩|⟨hu,_⟩<;>simp[YK]at hu

end
section
/- Walks: trees: letters, what may be by itself, the walk over nodes. -/
set_option maxRecDepth 10000
set_option maxHeartbeats 4000000
theorem SK(a b:QL):(Op.bytesLess a b||a==b)=!Op.bytesLess b a:=by rw[WN]
theorem R3(s:QL):Un s=(s !=[]&&decide (s.length≤16)&&!s.any fun c=>!MA c):=by
  have h1:decide (1≤s.length)=(s !=[]):=by cases s<;>simp
  have h2:(!s.any fun c=>!MA c)=s.all MA:=by
    rw[List.not_any_eq_all_not];simp
  rw[Un,h1,h2]
def Fv(last:QL)(a:AtT):Bool:=!(Op.bytesLess last a.name&&Un a.name&&decide (a.value.length≤128))
theorem L9{last:QL}{l:List AtT}{j:Nat}(h:j<l.length):K2 last (l.drop j)=(!Fv last l[j]&&K2 l[j].name (l.drop (j+1))):=by
  rw[List.drop_eq_getElem_cons h,K2];simp[Fv]
def fPl(b:Nat):Value:=.func (.func 225) #[] #[.pointer (some ⟨b,0,none⟩)]
theorem SA(c:UInt8):Fn Tryz.prog 191 [.c (.int .u8 (c.toNat:Int))] (.c (.bool (!MA c))):=by
  refine AC.of_J Tryz.func191 rfl Tryz.ntmps191 rfl fun w0 A0=>?_
  refine Zs (Zq rfl (QW.assign .const) (Zn (Zs (Zm rfl (Zq rfl (QW.lss (.r rfl) .const) (Zm rfl (Zg rfl (fun hg=>(QW.move (.r rfl))) (Zg rfl (fun hg=>(QW.gtr (.when rfl hg) .const)) (Zq rfl (QW.pick_or (.r rfl) (.r rfl)) ?_)))))))))
  exact Za rfl (Zn (J.ret (Zr [] (RetEv.one rfl (REv.tmp rfl lr)) rfl ⟨Wl (by rw[MA,Bool.eq_iff_iff];simp;omega),rfl⟩)))
theorem Fa{fr c:Bool}{l:QL}(hl:l.length≤Qs):Fn Tryz.prog 220 [.sl fr c ⟨1,1⟩ (WT l),.c (.func (.func 191) #[] #[])] (.c (.int .i64 (MC (fun c=>!MA c) l 0))):=by
  have hlen:l.length≤9223372036854775805:=by unfold Qs at hl;omega
  refine AC.of_J Tryz.func220 rfl Tryz.ntmps220 rfl fun w0 A0=>?_
  refine Zs (Zq rfl (QW.assign .const) (Zn (J.seq (Zs (Zm rfl (Zq rfl (by first|exact Qh LD (.r rfl) (TrT.css_length _ _)|exact Qh LD (.r rfl) (AtT.css_length _)|exact Qh LD (.r rfl) (UR _)|exact QF LD (.r rfl)|exact QW.len_nil LD (.r rfl)) ?_))))))
  refine Zq rfl (QW.move .const) (Zn (J.block (Ua (ι:=Nat) [0,1,7] (fun j=>[(8,.c (.int .i64 (j:Int)))]) (fun _ oo=>oo) (fun j=>j≤l.length∧MC (fun c=>!MA c) l 0=MC (fun c=>!MA c) (l.drop j) (j:Int)) (fun j=>l.length-j) 0 (⟨Nat.zero_le _,rfl⟩) (QQ (.cons rfl lr (.cons rfl lr (.cons rfl lr (.cons rfl lr .nil)))) (Reown.refl _) (fun _ h=>by first|exact h|simp[h])) ?_)))
  intro j ⟨hj,hi⟩
  refine J.conv (by(try simp only[nl,Qk,Qv,Qw,Qu,QZ,AV.cellsOf,Qb,Qc,Nat.reduceAdd]);rfl) ?_
  refine Zs (Zq rfl (QW.lss (.r rfl) (.r rfl)) (Zn (J.seq ?_)))
  refine J.cond (.r rfl) (fun c1=>?_) (fun c1=>?_)
  · skip
    have hlt:j<l.length:=by simpa[UR]using c1
    refine Zk (J.seq (J.block (Zs (Zm rfl (Za rfl (Zn (Zs (Zm rfl (Zm rfl ?_)))))))))
    refine Zm rfl (Zq rfl (Qi LD ty5 rfl (.r rfl) (.r rfl) (by first|rfl|omega|(simp;done)) (by exact Tu (List.getElem?_eq_getElem hlt))) ?_)
    refine Zt ty5 rfl (Zq rfl (QW.callV Qaq (.r rfl) (.cons (.r rfl) .nil) rfl (SA _)) (Zn ?_))
    refine J.cond (.r rfl) (fun c2=>?_) (fun c2=>?_)
    · skip
      exact Zs (Zm rfl (Za rfl (Zn (J.ret (blkQ.r (thenQ.r (thenQ.r (blkQ.r (thenQ.r (Zr [] (RetEv.one rfl (REv.tmp rfl lr)) rfl ⟨by rw[hi,M2 _ hlt,c2];rfl,rfl⟩))))))))))
    refine J.skip (blkQ.n (thenQ.n (Qf (Zq rfl (QW.add (.r rfl) .const (by first|exact Wj (by first|rfl|omega|(simp;done)) (by omega)|exact Ym (by omega)|rfl)) ?_))))
    refine Zm rfl (Zn ?_)
    rw[M2 _ hlt,c2]at hi
    exact⟨j+1,⟨hlt,by rw[hi];simp⟩,by omega,QQ (.cons rfl lr (.cons rfl lr (.cons rfl lr (.cons rfl lr .nil)))) (Reown.refl _) (fun _ h=>by first|exact h|simp[h])⟩
  have hge:l.length≤j:=by simpa[UR]using c1
  exact J.exit (Qy (Qy (Q1 (thenQ.n (Zs (Zq rfl (QW.assign .const) (Zn (J.ret (Zr [] (RetEv.one rfl (REv.tmp rfl lr)) rfl ⟨by rw[hi,List.drop_of_length_le hge];rfl,rfl⟩)))))))))
theorem Rb{fr c:Bool}{l:QL}(hl:l.length≤Qs):Fn Tryz.prog 192 [.sl fr c ⟨1,1⟩ (WT l),.c (.func (.func 191) #[] #[])] (.c (.bool (l.any fun c=>!MA c))):=by
  refine AC.of_J Tryz.func192 rfl Tryz.ntmps192 rfl fun w0 A0=>?_
  refine Zs (Zq rfl (QW.assign .const) (Zn (Zs (Zm rfl (Zm rfl (Zq rfl (QW.call Qal (.cons (.r rfl) (.cons (.r rfl) .nil)) (Fa hl)) (Zq rfl (QW.geq (.r rfl) .const) (Za rfl (Zn ?_)))))))))
  exact J.ret (Zr [] (RetEv.one rfl (REv.tmp rfl lr)) rfl ⟨Wl (by rw[← Ta _ l 0 (Int.le_refl _)]),rfl⟩)
theorem X4{s:QL}(hw:s.length≤Qs):Fn Tryz.prog 146 [.c (Q8 s)] (.c (.bool (Un s))):=by
  refine AC.of_J Tryz.func146 rfl Tryz.ntmps146 rfl fun w0 A0=>?_
  refine Zs (Zq rfl (QW.assign .const) (Zn (Zs (Zq rfl (QW.assign .func) (Zn (Zs (Zm rfl (Zq rfl (Xf (.r rfl) .const) (Zm rfl ?_)))))))))
  refine Zg rfl (fun hg=>(QW.move (.r rfl))) (Zg rfl (fun hg=>(Um Kq (.when rfl hg))) (Zg rfl (fun hg=>(QW.leq (.when rfl hg) .const)) (Zq rfl (QW.pick_and (.r rfl) (.r rfl)) (Zm rfl (Zg rfl (fun hg=>(QW.move (.r rfl))) (Zg rfl (fun hg=>(Rj Kq LD iu5 (.when rfl hg) (by exact hw))) ?_))))))
  exact Zg rfl (fun hg=>(QW.move (.r rfl))) (Zg rfl (fun hg=>(QW.call Qap (.cons (.when rfl hg) (.cons (.when rfl hg) .nil)) (Rb hw))) (Zg rfl (fun hg=>(QW.not (.when rfl hg))) (Zq rfl (QW.pick_and (.r rfl) (.r rfl)) (Za rfl (Zn (J.ret (Zr [] (RetEv.one rfl (REv.tmp rfl lr)) rfl ⟨Wl (by rw[R3,Bool.eq_iff_iff];simp;intros;omega),rfl⟩)))))))
theorem CM(b:Nat)(last:QL){a:AtT}(hw:a.wf):AC Tryz.prog 225 [.box b [.c (Q8 last)]] [.agg a.cs,.c (.pointer (some ⟨b,0,none⟩))] (YQ fun x o=>x=.c (.bool (Fv last a))∧o=[.box b [.c (Q8 a.name)]]):=by
  obtain⟨nm,v⟩:=a
  obtain⟨hn,hv⟩:=hw
  simp only at hn hv
  refine AC.of_J Tryz.func225 rfl Tryz.ntmps225 rfl fun w0 A0=>?_
  refine Zs (Qq (.r rfl) rfl fun b2=>Zq rfl (QW.assign .const) (Zn (Zs (Zd N5 rfl (Zl 0 U7 rfl (Zl 1 U7 rfl (Zq rfl (PI (.r rfl) (.r rfl)) (Zm rfl ?_))))))))
  refine Zg rfl (fun hg=>(Qg N5 (.r rfl) rfl)) (Zg rfl (fun hg=>(Qd 0 U7 (.when rfl hg) rfl rfl)) (Zg rfl (fun hg=>(QW.call Ld (.cons (.when rfl hg) .nil) (X4 hn))) (Zg rfl (fun hg=>(QW.not (.when rfl hg))) (Zq rfl (QW.pick_or (.r rfl) (.r rfl)) (Zm rfl (Zg rfl (fun hg=>(Qg QaJ (.r rfl) rfl)) (Zg rfl (fun hg=>(Qd 0 U7 (.when rfl hg) rfl rfl)) (Zg rfl (fun hg=>(Um Kq (.when rfl hg))) (Zg rfl (fun hg=>(QW.gtr (.when rfl hg) .const)) ?_)))))))))
  refine Zq rfl (QW.pick_or (.r rfl) (.r rfl)) (Za rfl (Zn (Zs (Zd N5 rfl (Zl 0 U7 rfl (JL.store_box 1 U7 (.r rfl) rfl (.r rfl) (by first|rfl|assumption) rfl rfl rfl rfl ?_))))))
  exact Zn (Zs (Zm rfl (Za rfl (Zn (J.ret (Zr [.k,.p] (RetEv.one rfl (REv.tmp rfl lr)) rfl ⟨_,rfl,congrArg (fun b=>AV.c (.bool b)) (by simp[Fv,SK,show decide ((128:Int)<((v.length:Nat):Int))=!decide (v.length≤128)from by rw[Bool.eq_iff_iff];simp;omega]),rfl⟩))))))
theorem Dm(b:Nat)(last:QL){fr c:Bool}{l:List AtT}(hl:l.length*32≤Qs)(hw:∀x∈l,AtT.wf x):AC Tryz.prog 250 [.box b [.c (Q8 last)]] [.sl fr c Fp (AtT.css l),.c (fPl b)]
    (YQ fun x o=>∃(n:Int) (s:QL),decide (0≤n)=(!K2 last l)∧x=.c (.int .i64 n)∧o=[.box b [.c (Q8 s)]]):=by
  have hlen:l.length≤9223372036854775805:=by unfold Qs at hl;omega
  refine AC.of_J Tryz.func250 rfl Tryz.ntmps250 rfl fun w0 A0=>?_
  refine Zs (Zq rfl (QW.assign .const) (Zn (J.seq (Zs (Zm rfl (Zq rfl (by first|exact Qh XX (.r rfl) (TrT.css_length _ _)|exact Qh XX (.r rfl) (AtT.css_length _)|exact Qh XX (.r rfl) (UR _)|exact QF XX (.r rfl)|exact QW.len_nil XX (.r rfl)) ?_))))))
  refine Zq rfl (QW.move .const) (Zn (J.block (Ua (ι:=Nat×QL) [0,1,7] (fun⟨j,s⟩=>[(8,.c (.int .i64 (j:Int)))]) (fun⟨j,s⟩ oo=>List.set oo 0 (.box b [.c (Q8 s)])) (fun⟨j,s⟩=>j≤l.length∧K2 last l=K2 s (l.drop j)) (fun⟨j,s⟩=>l.length-j) ⟨0,last⟩ (⟨Nat.zero_le _,rfl⟩) (QQ (.cons rfl lr (.cons rfl lr (.cons rfl lr (.cons rfl lr .nil)))) (Reown.refl _) (fun _ h=>by first|exact h|simp[h])) ?_)))
  intro⟨j,s⟩ ⟨hj,hi⟩
  refine J.conv (by(try simp only[nl,Qk,Qv,Qw,Qu,QZ,AV.cellsOf,Qb,Qc,Nat.reduceAdd]);rfl) ?_
  refine Zs (Zq rfl (QW.lss (.r rfl) (.r rfl)) (Zn (J.seq ?_)))
  refine J.cond (.r rfl) (fun c1=>?_) (fun c1=>?_)
  · skip
    have hlt:j<l.length:=by simpa[AtT.css_length]using c1
    refine Zk (J.seq (J.block (Zs (Zm rfl (Za rfl (Zn (Zs (Zm rfl (Zm rfl ?_)))))))))
    refine Zm rfl (Zq rfl (Qi XX RB rfl (.r rfl) (.r rfl) (by first|rfl|omega|(simp;done)) (by exact AtT.css_getE hlt)) ?_)
    refine Zq rfl (by first|exact Qo RB (.r rfl) rfl rfl|exact Qo RB (.r rfl) (QI rfl rfl) rfl) ?_
    refine TR [.p] Qai rfl (.r rfl) Lent.nil (fun _=>(.cons (.r rfl) .nil)) rfl (CM b s (hw _ (List.getElem_mem hlt))) (.inl rfl) fun x16 o16 h16=>?_
    obtain⟨rfl,rfl⟩:=h16
    refine Zn ?_
    refine J.cond (.r rfl) (fun c2=>?_) (fun c2=>?_)
    · skip
      have hbad:Fv s l[j]=true:=c2
      exact Zs (Zm rfl (Za rfl (Zn (J.ret (blkQ.r (thenQ.r (thenQ.r (blkQ.r (thenQ.r (Zr [.p] (RetEv.one rfl (REv.tmp rfl lr)) rfl ⟨_,rfl,_,_,by rw[hi,L9 hlt,hbad];simp,rfl,rfl⟩))))))))))
    have hgo:Fv s l[j]=false:=by simpa using c2
    refine J.skip (blkQ.n (thenQ.n (Qf (Zq rfl (QW.add (.r rfl) .const (by first|exact Wj (by first|rfl|omega|(simp;done)) (by omega)|exact Ym (by omega)|rfl)) ?_))))
    refine Zm rfl (Zn ?_)
    rw[L9 hlt,hgo]at hi
    exact⟨⟨j+1,l[j].name⟩,⟨hlt,by rw[hi];simp⟩,by show l.length-(j+1)<l.length-j;omega,QQ (.cons rfl lr (.cons rfl lr (.cons rfl lr (.cons rfl lr .nil)))) (Reown.refl _) (fun _ h=>by first|exact h|simp[h])⟩
  have hge:l.length≤j:=by simpa[AtT.css_length]using c1
  exact J.exit (Qy (Qy (Q1 (thenQ.n (Zs (Zq rfl (QW.assign .const) (Zn (J.ret (Zr [.p] (RetEv.one rfl (REv.tmp rfl lr)) rfl ⟨_,rfl,_,_,by rw[hi,List.drop_of_length_le hge];simp[K2],rfl,rfl⟩)))))))))
theorem MD(b:Nat)(last:QL){fr c:Bool}{l:List AtT}(hl:l.length*32≤Qs)(hw:∀x∈l,AtT.wf x):AC Tryz.prog 224 [.box b [.c (Q8 last)]] [.sl fr c Fp (AtT.css l),.c (fPl b)]
    (YQ fun x o=>∃s:QL,x=.c (.bool (!K2 last l))∧o=[.box b [.c (Q8 s)]]):=by
  refine AC.of_J Tryz.func224 rfl Tryz.ntmps224 rfl fun w0 A0=>?_
  refine Zs (Zq rfl (QW.assign .const) (Zn (Zs (Zm rfl (Zm rfl (JL.callRF [.p] Qaf rfl Lent.nil (fun _=>(.cons (.r rfl) (.cons (.r rfl) .nil))) (Dm b last hl hw) (.inl rfl) fun x7 o7 h7=>?_))))))
  obtain⟨n7,s7,hn7,rfl,rfl⟩:=h7
  exact Zq rfl (QW.geq (.r rfl) .const) (Za rfl (Zn (J.ret (Zr [.p] (RetEv.one rfl (REv.tmp rfl lr)) rfl ⟨_,rfl,_,by rw[← hn7],rfl⟩))))
theorem Cz{fr:Bool}{t k x:QL}{a:List AtT}(ht:t.length≤Qs)(hl:a.length*32≤Qs)(hw:∀x∈a,AtT.wf x):Fn Tryz.prog 198 [.c (Q8 t),.c (Q8 k),.c (Q8 x),.sl fr false Fp (AtT.css a)] (.c (.bool (Yb t k x a))):=by
  refine AC.of_J Tryz.func198 rfl Tryz.ntmps198 rfl fun w0 A0=>?_
  refine Zs (Zq rfl (QW.assign .const) (Zn (J.seq (Zs (Zm rfl (Zq rfl (WO (.r rfl) .const) (Zn ?_)))))))
  refine J.cond (.r rfl) (fun c1=>?_) (fun c1=>?_)
  · skip
    have ht0:t=[]:=by simpa using c1
    refine Zs (Zm rfl (Zq rfl (WO (.r rfl) .const) (Zm rfl (Zg rfl (fun hg=>(QW.move (.r rfl))) (Zg rfl (fun hg=>(Um Kq (.when rfl hg))) (Zg rfl (fun hg=>(QW.leq (.when rfl hg) .const)) (Zq rfl (QW.pick_and (.r rfl) (.r rfl)) (Zm rfl (Zg rfl (fun hg=>(QW.move (.r rfl))) ?_)))))))))
    refine Zg rfl (fun hg=>(by first|exact Qh XX (.when rfl hg) (TrT.css_length _ _)|exact Qh XX (.when rfl hg) (AtT.css_length _)|exact Qh XX (.when rfl hg) (UR _)|exact QF XX (.when rfl hg)|exact QW.len_nil XX (.when rfl hg))) ?_
    exact Zg rfl (fun hg=>(QW.eql (.when rfl hg) .const)) (Zq rfl (QW.pick_and (.r rfl) (.r rfl)) (Za rfl (Zn (J.ret (thenQ.r (Zr [] (RetEv.one rfl (REv.tmp rfl lr)) rfl ⟨Wl (by rw[Yb,if_pos ht0,Bool.eq_iff_iff];simp[AtT.css_length];intros;omega),rfl⟩))))))
  have ht0:¬t=[]:=by simpa using c1
  refine Zk (J.seq (Zs (Zm rfl (Zq rfl (QW.call Ld (.cons (.r rfl) .nil) (X4 ht)) (Zq rfl (QW.not (.r rfl)) (Zm rfl (Zg rfl (fun hg=>(QW.move (.r rfl))) (Zg rfl (fun hg=>(Um Kq (.when rfl hg))) (Zg rfl (fun hg=>(QW.gtr (.when rfl hg) .const)) ?_)))))))))
  refine Zq rfl (QW.pick_or (.r rfl) (.r rfl)) (Zm rfl (Zg rfl (fun hg=>(QW.move (.r rfl))) (Zg rfl (fun hg=>(Xf (.when rfl hg) .const)) (Zq rfl (QW.pick_or (.r rfl) (.r rfl)) (Zm rfl (Zg rfl (fun hg=>(QW.move (.r rfl))) (Zg rfl (fun hg=>(by first|exact Qh XX (.when rfl hg) (TrT.css_length _ _)|exact Qh XX (.when rfl hg) (AtT.css_length _)|exact Qh XX (.when rfl hg) (UR _)|exact QF XX (.when rfl hg)|exact QW.len_nil XX (.when rfl hg))) ?_)))))))
  refine Zg rfl (fun hg=>(QW.gtr (.when rfl hg) .const)) (Zq rfl (QW.pick_or (.r rfl) (.r rfl)) (Zn ?_))
  refine J.cond (.r rfl) (fun c2=>?_) (fun c2=>?_)
  · skip
    simp[AtT.css_length]at c2
    exact Zs (Zq rfl (QW.assign .const) (Zn (J.ret (thenQ.r (Zr [] (RetEv.one rfl (REv.tmp rfl lr)) rfl ⟨Wl (by rw[Yb,if_neg ht0];simp;grind),rfl⟩)))))
  simp[AtT.css_length]at c2
  refine Zk (Zs (JL.alloc z9 rfl rfl fun b9=>JL.store_box 0 U7 (.r rfl) rfl .const (by first|rfl|assumption) rfl rfl rfl rfl ?_))
  refine Zn (Zs (Zm rfl (Zq rfl (WH .nil (.cons (.r rfl) .nil)) (JL.callRF [.p] Qaj rfl Lent.nil (fun _=>(.cons (.r rfl) (.cons (.r rfl) .nil))) (MD b9 [] hl hw) (.inl rfl) fun x43 o43 h43=>?_))))
  obtain⟨s43,rfl,rfl⟩:=h43
  exact Zq rfl (QW.not (.r rfl)) (Za rfl (Zn (J.ret (Zr [.k] (RetEv.one rfl (REv.tmp rfl lr)) rfl ⟨Wl (by rw[Yb,if_neg ht0];simp;grind),rfl⟩))))

end
section
/- Walks: trees: the walk over nodes, which may be. -/
set_option maxRecDepth 10000
set_option maxHeartbeats 4000000
def wkB(b:Nat)(w:Rv):Own:=.box b [.c (.int .i64 w.n),.c (.int .i64 w.d),.c (.int .i64 w.e)]
theorem SC{t:TrT}{level n:Int}(h:8<level):t.nodeE level n=10:=if_pos h
theorem node_3{t:TrT}{level n:Int}(h:¬8<level)(h2:n=256):t.nodeE level n=3:=by rw[TrT.nodeE,if_neg h,if_pos h2]
theorem Da{t:TrT}{level n:Int}(h:¬8<level)(h2:¬n=256)(h3:Yb t.tag t.key t.text t.attrs=false∨16<t.kids.length∨(t.tag=[]∧0<t.kids.length)):t.nodeE level n=9:=by rw[TrT.nodeE,if_neg h,if_neg h2,if_pos h3]
theorem node_6{t:TrT}{level n:Int}(h:¬8<level)(h2:¬n=256)(h3:¬(Yb t.tag t.key t.text t.attrs=false∨16<t.kids.length∨(t.tag=[]∧0<t.kids.length)))(h4:Gb (t.kids.map TrT.key)=true):t.nodeE level n=6:=by rw[TrT.nodeE,if_neg h,if_neg h2,if_neg h3,if_pos h4]
theorem node_0{t:TrT}{level n:Int}(h:¬8<level)(h2:¬n=256)(h3:¬(Yb t.tag t.key t.text t.attrs=false∨16<t.kids.length∨(t.tag=[]∧0<t.kids.length)))(h4:Gb (t.kids.map TrT.key)=false):t.nodeE level n=0:=by rw[TrT.nodeE,if_neg h,if_neg h2,if_neg h3,if_neg (by simp[h4])]
theorem TA(l:List QL)(k s:QL):(TB l k).contains s=(l++[k]).contains s:=by
  unfold TB
  split
  · rename_i h
    have h:k∈l:=by simpa using h
    rw[Bool.eq_iff_iff];simp
    exact fun e=>e▸h
  · rfl
theorem RC{l:List TrT}{j:Nat}(h:j<l.length){ks:List QL}(hk:∀s,ks.contains s=((l.map TrT.key).take j).contains s):YU (l.map TrT.key) j=(!(l[j].key==[])&&ks.contains l[j].key):=by
  rw[hk];simp[YU,h]
theorem TrT.at1{fr:Bool}{v:TrT}:(v.cs fr)[1]? =some (.c (Q8 v.key)):=by cases v;rfl
theorem F0{fr:Bool}{t:TrT}(hw:t.wf)(b:Nat)(w:Rv)(level:Int):AC Tryz.prog 151 [wkB b w] [.c (.pointer (some ⟨b,0,none⟩)),.agg (t.cs fr),.c (.int .i64 level)] (YQ fun x o=>x=.c (.int .i64 (t.nodeE level w.n))∧o=[wkB b w]):=by
  obtain⟨tg,ky,tx,ats,l⟩:=t
  obtain⟨h1,h2,h3,h4,h5,h6,h7⟩:=hw.inv
  have hlen:l.length≤9223372036854775805:=by unfold Qs at h6;omega
  refine AC.of_J Tryz.func151 rfl Tryz.ntmps151 rfl fun w0 A0=>?_
  refine Zs (Qq (.r rfl) rfl fun b4=>Zq rfl (QW.assign .const) (Zn (J.seq (J.block (Zs (Zm rfl (Zq rfl (QW.gtr (.r rfl) .const) (Za rfl ?_))))))))
  refine Zn ?_
  refine J.cond (.r rfl) (fun c1=>?_) (fun c1=>?_)
  · skip
    have hlv:8<level:=by simpa using c1
    exact Zs (Zq rfl (QW.assign .const) (Zn (J.ret (blkQ.r (thenQ.r (Zr [.k,.p] (RetEv.one rfl (REv.tmp rfl lr)) rfl ⟨_,rfl,congrArg (fun n=>AV.c (.int .i64 n)) (SC hlv).symm,rfl⟩))))))
  have hlv:¬8<level:=by simpa using c1
  refine Zs (Zm rfl (Zu rfl (Zd Lk rfl (Zl 1 Uy rfl (Zq rfl (QW.eql (.r rfl) .const) (Za rfl (Zn ?_)))))))
  refine J.cond (.r rfl) (fun c2=>?_) (fun c2=>?_)
  · skip
    have h256:w.n=256:=by simpa using c2
    exact Zs (Zq rfl (QW.assign .const) (Zn (J.ret (blkQ.r (thenQ.r (Zr [.k,.p] (RetEv.one rfl (REv.tmp rfl lr)) rfl ⟨_,rfl,congrArg (fun n=>AV.c (.int .i64 n)) (node_3 hlv h256).symm,rfl⟩))))))
  have h256:¬w.n=256:=by simpa using c2
  refine J.seq (Zs (Zd LZ rfl (Zl 0 U7 rfl (Zd LY rfl (Zl 0 U7 rfl (Zd B9 rfl (Zl 0 U7 rfl (Zd NY rfl (Zl 0 P3 rfl ?_)))))))))
  refine Zq rfl (QW.call Qao (.cons (.r rfl) (.cons (.r rfl) (.cons (.r rfl) (.cons (.r rfl) .nil)))) (Cz h1 h4 h5)) (Zq rfl (QW.not (.r rfl)) (Za rfl (Zn ?_)))
  refine J.cond (.r rfl) (fun c3=>?_) (fun c3=>?_)
  · skip
    have hbad:(Yb tg ky tx ats=false∨16<l.length∨(tg=[]∧0<l.length)):=.inl (by simpa using c3)
    refine Zk ?_
    refine J.cond (.r rfl) (fun c4=>?_) (fun c4=>absurd c4 (by first|(rw[c3];decide)|(simp at*;done)|(simp at*;omega)))
    exact Zs (Zq rfl (QW.assign .const) (Zn (J.ret (blkQ.r (thenQ.r (Zr [.k,.p] (RetEv.one rfl (REv.tmp rfl lr)) rfl ⟨_,rfl,congrArg (fun n=>AV.c (.int .i64 n)) (Da (t:=.mk tg ky tx ats l) hlv h256 hbad).symm,rfl⟩))))))
  have hpl:Yb tg ky tx ats=true:=by simpa using c3
  refine Zs (Zd Xa rfl (Zl 0 Ly rfl (Zq rfl (by first|exact Qh U0 (.r rfl) (TrT.css_length _ _)|exact Qh U0 (.r rfl) (AtT.css_length _)|exact QF U0 (.r rfl)|exact QW.len_nil U0 (.r rfl)) ?_)))
  refine Zq rfl (QW.gtr (.r rfl) .const) (Za rfl (Zn ?_))
  refine J.cond (.r rfl) (fun c4=>?_) (fun c4=>?_)
  · skip
    have hbad:(Yb tg ky tx ats=false∨16<l.length∨(tg=[]∧0<l.length)):=.inr (.inl (by simp at c4;omega))
    refine Zk ?_
    refine J.cond (.r rfl) (fun c5=>?_) (fun c5=>absurd c5 (by first|(rw[c4];decide)|(simp at*;done)|(simp at*;omega)))
    exact Zs (Zq rfl (QW.assign .const) (Zn (J.ret (blkQ.r (thenQ.r (Zr [.k,.p] (RetEv.one rfl (REv.tmp rfl lr)) rfl ⟨_,rfl,congrArg (fun n=>AV.c (.int .i64 n)) (Da (t:=.mk tg ky tx ats l) hlv h256 hbad).symm,rfl⟩))))))
  have h16:¬16<l.length:=by(simp at c4;omega)
  refine Qf (Zd LZ rfl (Zl 0 U7 rfl (Zq rfl (WO (.r rfl) .const) (Zm rfl (Zg rfl (fun hg=>(Qg Xa (.r rfl) rfl)) (Zg rfl (fun hg=>(Qd 0 Ly (.when rfl hg) rfl rfl)) (Zg rfl (fun hg=>(by first|exact Qh U0 (.when rfl hg) (TrT.css_length _ _)|exact Qh U0 (.when rfl hg) (AtT.css_length _)|exact QF U0 (.when rfl hg)|exact QW.len_nil U0 (.when rfl hg))) ?_)))))))
  refine Zg rfl (fun hg=>(QW.gtr (.when rfl hg) .const)) (Zq rfl (QW.pick_and (.r rfl) (.r rfl)) (Za rfl (Zn ?_)))
  refine J.cond (.r rfl) (fun c5=>?_) (fun c5=>?_)
  · skip
    have hbad:(Yb tg ky tx ats=false∨16<l.length∨(tg=[]∧0<l.length)):=.inr (.inr (by simp[TrT.css_length]at c5;exact c5))
    exact Zs (Zq rfl (QW.assign .const) (Zn (J.ret (blkQ.r (thenQ.r (Zr [.k,.p] (RetEv.one rfl (REv.tmp rfl lr)) rfl ⟨_,rfl,congrArg (fun n=>AV.c (.int .i64 n)) (Da (t:=.mk tg ky tx ats l) hlv h256 hbad).symm,rfl⟩))))))
  have hgo:¬(Yb tg ky tx ats=false∨16<l.length∨(tg=[]∧0<l.length)):=by(rintro(h|h|⟨ha,hb⟩);rw[hpl]at h;cases h;exact h16 h;simp[TrT.css_length,ha]at c5;subst c5;simp at hb)
  refine J.skip (blkQ.n (thenQ.n (Zs (JL.makeMap rfl fun b43=>Za rfl (Zn (J.seq (Zs (Zd Xa rfl ?_))))))))
  refine Zl 1 Ly rfl (Zq rfl (by first|exact Qh U0 (.r rfl) (TrT.css_length _ _)|exact Qh U0 (.r rfl) (AtT.css_length _)|exact QF U0 (.r rfl)|exact QW.len_nil U0 (.r rfl)) ?_)
  refine Zq rfl (QW.move .const) (Zn (J.block (Ua (ι:=Nat×List QL) [7,45,46] (fun⟨j,ks⟩=>[(47,.c (.int .i64 (j:Int)))]) (fun⟨j,ks⟩ oo=>List.set oo 0 (mpK b43 ks)) (fun⟨j,ks⟩=>j≤l.length∧(∀s,ks.contains s=((l.map TrT.key).take j).contains s)∧∀i,i<j→YU (l.map TrT.key) i=false) (fun⟨j,ks⟩=>l.length-j) ⟨0,[]⟩ (⟨Nat.zero_le _,fun s=>rfl,fun i hi=>by omega⟩) (QQ (.cons rfl lr (.cons rfl lr (.cons rfl lr (.cons rfl lr .nil)))) (Reown.refl _) (fun _ h=>by first|exact h|simp[h])) ?_)))
  intro⟨j,ks⟩ ⟨hj,hks,hno⟩
  refine J.conv (by(try simp only[nl,Qk,Qv,Qw,Qu,QZ,AV.cellsOf,Qb,Qc,Nat.reduceAdd]);rfl) ?_
  refine Zs (Zq rfl (QW.lss (.r rfl) (.r rfl)) (Zn (J.seq ?_)))
  refine J.cond (.r rfl) (fun c6=>?_) (fun c6=>?_)
  · skip
    have hlt:j<l.length:=by simpa[TrT.css_length]using c6
    refine Zk (J.seq (J.block (Zs (Zq rfl (Qi U0 QT rfl (.r rfl) (.r rfl) (by first|rfl|omega|(simp;done)) (by exact TrT.css_getE _ hlt)) ?_))))
    refine Zq rfl (by first|exact Qo QT (.r rfl) rfl rfl|exact Qo QT (.r rfl) (QI (TrT.cs_length _ _) rfl) (TrT.cs_length _ _)) ?_
    refine JL.alloc z46 rfl rfl fun b9=>?_
    first|refine Qa 0 QT (.r rfl) rfl (.r rfl) (by first|rfl|assumption) rfl rfl rfl ?_|refine Qa 0 QT (.r rfl) rfl (.r rfl) (by first|rfl|assumption) rfl (TrT.cs_length _ _) rfl ?_|refine Qa 0 QT (.r rfl) rfl (.r rfl) (by first|rfl|assumption) (TrT.cs_length _ _) rfl rfl ?_|refine Qa 0 QT (.r rfl) rfl (.r rfl) (by first|rfl|assumption) (TrT.cs_length _ _) (TrT.cs_length _ _) rfl ?_|refine JL.store_box 0 QT (.r rfl) rfl (.r rfl) (by first|rfl|assumption) rfl rfl rfl rfl ?_|refine JL.store_box 0 QT (.r rfl) rfl (.r rfl) (by first|rfl|assumption) (TrT.cs_length _ _) rfl rfl rfl ?_
    refine Zn (J.seq (Zs (Zd LY rfl (Zq rfl (Qd 0 U7 (.r rfl) rfl TrT.at1) (Zq rfl (Xf (.r rfl) .const) (Zm rfl (Zg rfl (fun hg=>(QW.move (.r rfl))) (Zg rfl (fun hg=>(Qg LY (.r rfl) rfl)) (Zg rfl (fun hg=>(Qd 0 U7 (.when rfl hg) rfl TrT.at1)) ?_)))))))))
    refine Zg rfl (fun hg=>(G5 1 Eq Kq (fun w=>by kernel_rfl) (.when rfl hg) (.when rfl hg) rfl)) ?_
    refine Zq rfl (QW.pick_and (.r rfl) (.r rfl)) (Zn ?_)
    refine J.cond (.r rfl) (fun c7=>?_) (fun c7=>?_)
    · skip
      have htw:YU (l.map TrT.key) j=true:=by(rw[RC hlt hks];simpa[bne]using c7)
      exact Zs (Zq rfl (QW.assign .const) (Zn (J.ret (thenQ.r (blkQ.r (thenQ.r (thenQ.r (blkQ.r (thenQ.r (Zr [.k,.k,.k,.p] (RetEv.one rfl (REv.tmp rfl lr)) rfl ⟨_,rfl,congrArg (fun n=>AV.c (.int .i64 n)) (node_6 (t:=.mk tg ky tx ats l) hlv h256 hgo (Cx (by rw[List.length_map];exact hlt) htw)).symm,rfl⟩))))))))))
    have htw:YU (l.map TrT.key) j=false:=by(rw[RC hlt hks];simpa[bne]using c7)
    refine Zk (Qf (Zm rfl (Zd LY rfl (Zq rfl (Qd 0 U7 (.r rfl) rfl TrT.at1) (Np 1 Eq Kq (.r rfl) (.r rfl) .const rfl rfl (JL.nil (blkQ.n (thenQ.n (Qf ?_)))))))))
    refine Zq rfl (QW.add (.r rfl) .const (by first|exact Wj (by first|rfl|omega|(simp;done)) (by omega)|exact Ym (by omega)|rfl)) ?_
    refine Zm rfl (Zn ?_)
    exact⟨⟨j+1,TB ks l[j].key⟩,⟨hlt,fun s=>by rw[TA,List.contains_append,hks,List.take_succ_eq_append_getElem (by simpa using hlt),List.contains_append];simp,fun i hi=>by rcases Nat.lt_succ_iff_lt_or_eq.1 hi with h|rfl;exact hno i h;exact htw⟩,by show l.length-(j+1)<l.length-j;omega,QQ (.cons rfl lr (.cons rfl lr (.cons rfl lr (.cons rfl lr .nil)))) (Q3 1 _ rfl) (fun _ h=>by first|exact h|simp[h])⟩
  have hge:l.length≤j:=by simpa[TrT.css_length]using c6
  exact J.exit (Qy (Qy (Q1 (thenQ.n (Zs (Zq rfl (QW.assign .const) (Zn (J.ret (Zr [.k,.k,.p] (RetEv.one rfl (REv.tmp rfl lr)) rfl ⟨_,rfl,congrArg (fun n=>AV.c (.int .i64 n)) (node_0 (t:=.mk tg ky tx ats l) hlv h256 hgo (MM fun i hi=>hno i (Nat.lt_of_lt_of_le (by rw[List.length_map]at hi;exact hi) hge))).symm,rfl⟩)))))))))
mutual
theorem TrT.walk_bd:∀(t:TrT) (level:Int) (w:Rv),0≤w.n∧w.n≤256→0≤(t.walk level w).n∧(t.walk level w).n≤256
  |.mk t k x a l,level,w,h=>by
    unfold TrT.walk
    split
    · exact h
    · split
      · exact h
      · rename_i h1 h2
        refine TrT.walks_bd l _ _ ⟨by show 0≤w.n+1;omega,?_⟩
        show w.n+1≤256
        have:¬w.n=256:=fun e=>h2 (by unfold TrT.nodeE;split<;>(try split)<;>simp_all)
        omega
theorem TrT.walks_bd:∀(l:List TrT) (level:Int) (w:Rv),0≤w.n∧w.n≤256→0≤(TrT.walks l level w).n∧(TrT.walks l level w).n≤256
  |[],_,_,h=>h
  |x::r,level,w,h=>TrT.walks_bd r level _ (TrT.walk_bd x level w h)
end
theorem PZ{t:TrT}{level:Int}{w:Rv}(h:¬w.e=0):t.walk level w=w:=by cases t;rw[TrT.walk,if_pos h]
theorem PX{t:TrT}{level:Int}{w:Rv}(h:w.e=0)(h2:¬t.nodeE level w.n=0):t.walk level w=⟨w.n,w.d,t.nodeE level w.n⟩:=by cases t;rw[TrT.walk,if_neg (fun hc=>hc h),if_pos h2]
theorem PY{t k x:QL}{a:List AtT}{l:List TrT}{level:Int}{w:Rv}(h:w.e=0)(h2:(TrT.mk t k x a l).nodeE level w.n=0):(TrT.mk t k x a l).walk level w=TrT.walks l (level+1) ⟨w.n+1,if level>w.d then level else w.d,0⟩:=by rw[TrT.walk,if_neg (fun hc=>hc h),if_neg (fun hc=>hc h2)]
theorem FR{l:List TrT}{j:Nat}(h:j<l.length){level:Int}{w:Rv}:TrT.walks (l.drop j) level w=TrT.walks (l.drop (j+1)) level (l[j].walk level w):=by rw[List.drop_eq_getElem_cons h,TrT.walks]
theorem SB{t:TrT}{level n:Int}(h:t.nodeE level n=0):level≤8∧¬n=256:=by
  unfold TrT.nodeE at h
  split at h
  · cases h
  · split at h
    · cases h
    · exact⟨by omega,by assumption⟩
def KY(t:TrT):Int×Int×Int:=if t.tag=[]then(0,0,9)else if(t.walk 1 ⟨0,0,0⟩).e≠0 then(0,0,(t.walk 1 ⟨0,0,0⟩).e)else((t.walk 1 ⟨0,0,0⟩).n,(t.walk 1 ⟨0,0,0⟩).d,0)
theorem F8(t:TrT):(KY t).2.2=t.err:=by
  unfold KY TrT.err
  split
  · rfl
  · split
    · rfl
    · rename_i h;exact(Decidable.not_not.1 h).symm
theorem P5:∀(n:Nat) {t:TrT} {fr:Bool} {w:Rv} {level:Int} {b:Nat},t.wf→t.sz≤n→(0≤w.n∧w.n≤256)→(1≤level∧level≤9)→
    AC Tryz.prog 100 [wkB b w] [.c (.pointer (some ⟨b,0,none⟩)),.agg (t.cs fr),.c (.int .i64 level)] (YQ fun x o=>x=.tup []∧o=[wkB b (t.walk level w)]):=by
  intro n
  induction n with
  |zero=>intro t fr w level b hw hn;exact absurd hn (by have:=t.sz_pos;omega)
  |succ n ih=>
    intro t fr w level b hw hn hbd hlv
    obtain⟨tg,ky,tx,ats,l⟩:=t
    obtain⟨h1,h2,h3,h4,h5,h6,h7⟩:=hw.inv
    have hlen:l.length≤9223372036854775805:=by unfold Qs at h6;omega
    obtain⟨wn,wd,we⟩:=w
    obtain⟨q,hq⟩:∃q,(TrT.mk tg ky tx ats l).nodeE level wn=q:=⟨_,rfl⟩
    refine AC.of_J Tryz.func100 rfl Tryz.ntmps100 rfl fun w0 A0=>?_
    refine Zs (Qq (.r rfl) rfl fun b4=>Zn (J.seq (Zs (Zm rfl (Zu rfl (Zd KO rfl (Zl 1 U8 rfl (Zq rfl (QW.eql (.r rfl) .const) ?_))))))))
    refine Zn ?_
    refine J.cond (.r rfl) (fun c1=>?_) (fun c1=>?_)
    · skip
      have he:we=0:=by simpa using c1
      refine Qf (Zm rfl (Zm rfl (Zq rfl (by first|exact Qe 0 QT (.r rfl) rfl rfl rfl|exact Qe 0 QT (.r rfl) rfl (Qn (TrT.cs_length _ _) rfl) (TrT.cs_length _ _)) ?_)))
      refine Zm rfl (JL.callRF [.k,.p] Qaw rfl Lent.nil (fun _=>(.cons (.r rfl) (.cons (.r rfl) (.cons (.r rfl) .nil)))) (F0 (fr:=fr) hw b ⟨wn,wd,we⟩ level) (.inl rfl) fun x17 o17 h17=>?_)
      obtain⟨rfl,rfl⟩:=h17
      rw[show(Rv.mk wn wd we).n=wn from rfl,hq]
      refine Zu rfl (Zd KO rfl (JL.store_box 1 U8 (.r rfl) rfl (.r rfl) (by first|rfl|assumption) rfl rfl rfl rfl ?_))
      refine Zn (J.seq (Zs (Zm rfl (Zu rfl (Zd KO rfl (Zl 1 U8 rfl (Zq rfl (QW.neq (.r rfl) .const) (Zn ?_))))))))
      refine J.cond (.r rfl) (fun c2=>?_) (fun c2=>?_)
      · skip
        have hb:¬q=0:=by simpa using c2
        exact J.ret (thenQ.r (Zr [.k,.p] (RetEv.none rfl) rfl ⟨_,rfl,rfl,by rw[PX he (by rw[hq];exact hb),hq];rfl⟩))
      have hg:q=0:=by simpa using c2
      obtain⟨hl8,hn256⟩:=SB (hq.trans hg)
      have hlv2:1≤level+1∧level+1≤9:=by omega
      have hbd1:0≤wn∧wn≤256:=hbd
      subst hg
      refine Zk (Zs (Zm rfl (Zu rfl (Zd Lk rfl (Zl 1 Uy rfl (Zq rfl (QW.add (.r rfl) .const (by first|exact Wj (by first|rfl|omega|(simp;done)) (by omega)|exact Ym (by omega)|rfl)) ?_))))))
      refine Zu rfl (Zd Lk rfl (JL.store_box 1 Uy (.r rfl) rfl (.r rfl) (by first|rfl|assumption) rfl rfl rfl rfl ?_))
      refine Zn (Zs (Zm rfl (Zm rfl (Zu rfl (Zd N4 rfl (Zl 1 Uy rfl (Zm rfl (Zq rfl (QW.max2 (.r rfl) (.r rfl)) (Zu rfl ?_)))))))))
      refine Zd N4 rfl (JL.store_box 1 Uy (.r rfl) rfl (.r rfl) (by first|rfl|assumption) rfl rfl rfl rfl ?_)
      refine Zn (Zs (Zd Xa rfl (Zl 0 Ly rfl (Zq rfl (by first|exact Qh U0 (.r rfl) (TrT.css_length _ _)|exact Qh U0 (.r rfl) (AtT.css_length _)|exact QF U0 (.r rfl)|exact QW.len_nil U0 (.r rfl)) ?_))))
      refine Zq rfl (QW.move .const) (Zn (J.block (Ua (ι:=Nat×Rv) [0,2,42,43] (fun⟨j,u⟩=>[(44,.c (.int .i64 (j:Int)))]) (fun⟨j,u⟩ oo=>List.set oo 1 (wkB b u)) (fun⟨j,u⟩=>j≤l.length∧(0≤u.n∧u.n≤256)∧(TrT.mk tg ky tx ats l).walk level ⟨wn,wd,we⟩=TrT.walks (l.drop j) (level+1) u) (fun⟨j,u⟩=>l.length-j) ⟨0,⟨wn+1,if level>wd then level else wd,0⟩⟩ (⟨Nat.zero_le _,by show 0≤wn+1∧wn+1≤256;omega,PY he hq⟩) (QQ (.cons rfl lr (.cons rfl lr (.cons rfl lr (.cons rfl lr (.cons rfl lr .nil))))) (Reown.refl _) (fun _ h=>by first|exact h|simp[h])) ?_)))
      intro⟨j,u⟩ ⟨hj,hu,hwk⟩
      refine J.conv (by(try simp only[nl,Qk,Qv,Qw,Qu,QZ,AV.cellsOf,Qb,Qc,Nat.reduceAdd]);rfl) ?_
      refine Zs (Zq rfl (QW.lss (.r rfl) (.r rfl)) (Zn (J.seq ?_)))
      refine J.cond (.r rfl) (fun c3=>?_) (fun c3=>?_)
      · skip
        have hlt:j<l.length:=by simpa[TrT.css_length]using c3
        refine Zk (J.seq (J.block (Zs (Zq rfl (Qi U0 QT rfl (.r rfl) (.r rfl) (by first|rfl|omega|(simp;done)) (by exact TrT.css_getE _ hlt)) ?_))))
        refine Zq rfl (by first|exact Qo QT (.r rfl) rfl rfl|exact Qo QT (.r rfl) (QI (TrT.cs_length _ _) rfl) (TrT.cs_length _ _)) ?_
        refine JL.alloc z46 rfl rfl fun b7=>?_
        first|refine Qa 0 QT (.r rfl) rfl (.r rfl) (by first|rfl|assumption) rfl rfl rfl ?_|refine Qa 0 QT (.r rfl) rfl (.r rfl) (by first|rfl|assumption) rfl (TrT.cs_length _ _) rfl ?_|refine Qa 0 QT (.r rfl) rfl (.r rfl) (by first|rfl|assumption) (TrT.cs_length _ _) rfl rfl ?_|refine Qa 0 QT (.r rfl) rfl (.r rfl) (by first|rfl|assumption) (TrT.cs_length _ _) (TrT.cs_length _ _) rfl ?_|refine JL.store_box 0 QT (.r rfl) rfl (.r rfl) (by first|rfl|assumption) rfl rfl rfl rfl ?_|refine JL.store_box 0 QT (.r rfl) rfl (.r rfl) (by first|rfl|assumption) (TrT.cs_length _ _) rfl rfl rfl ?_
        refine Zn (Qf (Zm rfl (Zq rfl (by first|exact Qe 0 QT (.r rfl) rfl rfl rfl|exact Qe 0 QT (.r rfl) rfl (Qn (TrT.cs_length _ _) rfl) (TrT.cs_length _ _)) ?_)))
        refine Zm rfl (Zq rfl (QW.add (.r rfl) .const (by first|exact Wj (by first|rfl|omega|(simp;done)) (by omega)|exact Ym (by omega)|rfl)) ?_)
        refine JL.callRF [.k,.k,.p] EZ rfl Lent.nil (fun _=>(.cons (.r rfl) (.cons (.r rfl) (.cons (.r rfl) .nil)))) (ih (h7 _ (List.getElem_mem hlt)) (TrT.sz_get hn hlt) hu hlv2) (.inl rfl) fun x52 o52 h52=>?_
        obtain⟨rfl,rfl⟩:=h52
        refine JL.nil (blkQ.n (thenQ.n (Qf (Zq rfl (QW.add (.r rfl) .const (by first|exact Wj (by first|rfl|omega|(simp;done)) (by omega)|exact Ym (by omega)|rfl)) ?_))))
        refine Zm rfl (Zn ?_)
        rw[FR hlt]at hwk
        exact⟨⟨j+1,l[j].walk (level+1) u⟩,⟨hlt,TrT.walk_bd _ _ _ hu,hwk⟩,by show l.length-(j+1)<l.length-j;omega,QQ (.cons rfl lr (.cons rfl lr (.cons rfl lr (.cons rfl lr (.cons rfl lr .nil))))) (Q3 1 _ rfl) (fun _ h=>by first|exact h|simp[h])⟩
      have hge:l.length≤j:=by simpa[TrT.css_length]using c3
      exact J.exit (Qy (Qy (Q1 (Zr [.k,.p] (RetEv.none rfl) rfl ⟨_,rfl,rfl,by rw[hwk,List.drop_of_length_le hge];rfl⟩))))
    have he:¬we=0:=by simpa using c1
    refine Zk (J.seq (Zs (Zm rfl (Zu rfl (Zd KO rfl (Zl 1 U8 rfl (Zq rfl (QW.neq (.r rfl) .const) (Zn ?_))))))))
    refine J.cond (.r rfl) (fun c2=>?_) (fun c2=>absurd c2 (by simpa using he))
    exact J.ret (thenQ.r (Zr [.k,.p] (RetEv.none rfl) rfl ⟨_,rfl,rfl,by rw[PZ he];rfl⟩))
theorem FW{fr:Bool}{t:TrT}(hw:t.wf):Fn Tryz.prog 57 [.agg (t.cs fr)] (.tup [.c (.int .i64 (KY t).1),.c (.int .i64 (KY t).2.1),.c (.int .i64 (KY t).2.2)]):=by
  obtain⟨tg,ky,tx,ats,l⟩:=t
  obtain⟨⟨wn,wd,we⟩,hW⟩:∃q,(TrT.mk tg ky tx ats l).walk 1 ⟨0,0,0⟩=q:=⟨_,rfl⟩
  refine AC.of_J Tryz.func57 rfl Tryz.ntmps57 rfl fun w0 A0=>?_
  refine Zs (Qq (.r rfl) rfl fun b1=>Zq rfl (QW.assign .const) (Zq rfl (QW.assign .const) (Zq rfl (QW.assign .const) (Zn (J.seq (Zs (Zd LZ rfl (Zl 0 U7 rfl ?_))))))))
  refine Zq rfl (WO (.r rfl) .const) (Zn ?_)
  refine J.cond (.r rfl) (fun c1=>?_) (fun c1=>?_)
  · skip
    have h0:tg=[]:=by simpa using c1
    exact Zs (Zq rfl (QW.assign .const) (Zq rfl (QW.assign .const) (Zq rfl (QW.assign .const) (Zn (J.ret (thenQ.r (Zr [.k] (UX rfl (REv.tmp rfl lr) (REv.tmp rfl lr) (REv.tmp rfl lr)) rfl ⟨by rw[show KY (.mk tg ky tx ats l)=(0,0,9)from if_pos h0],rfl⟩)))))))
  have h0:¬tg=[]:=by simpa using c1
  refine Zk (Zs (JL.alloc z212 rfl rfl fun b5=>Zn (J.seq (Zs (Zq rfl (by first|exact Qe 1 QT (.r rfl) rfl rfl rfl|exact Qe 1 QT (.r rfl) rfl (Qn (TrT.cs_length _ _) rfl) (TrT.cs_length _ _)) ?_)))))
  refine JL.callRF [.p] EZ rfl Lent.nil (fun _=>(.cons (.r rfl) (.cons (.r rfl) (.cons .const .nil)))) (P5 _ (fr:=fr) (w:=⟨0,0,0⟩) (level:=1) (b:=b5) hw (Nat.le_refl _) ⟨by decide,by decide⟩ ⟨by decide,by decide⟩) (.inl rfl) fun x10 o10 h10=>?_
  obtain⟨rfl,rfl⟩:=h10
  refine Zn (J.seq ?_)
  rw[hW]
  refine Qf (Zd KO rfl (Zl 0 U8 rfl (Zq rfl (QW.neq (.r rfl) .const) (Zn ?_))))
  refine J.cond (.r rfl) (fun c2=>?_) (fun c2=>?_)
  · skip
    have he:¬we=0:=by simpa using c2
    refine J.seq (Ug 4 mixed (by kernel_rfl) (by kernel_rfl) (by kernel_rfl) rfl ?_)
    refine .cons [] rfl rfl rfl (.q rfl (Qg KO (.r rfl) rfl)) ?_
    refine .cons [14] rfl rfl rfl (.q rfl (Qd 0 U8 (.r rfl) rfl rfl)) ?_
    refine .cons [] rfl rfl rfl (.q rfl (QW.assign .const)) ?_
    refine .cons [] rfl rfl rfl (.q rfl (QW.assign .const)) ?_
    refine .nil ?_
    exact Za rfl (Zn (J.ret (thenQ.r (Zr [.k,.k] (UX rfl (REv.tmp rfl lr) (REv.tmp rfl lr) (REv.tmp rfl lr)) rfl ⟨by rw[show KY (.mk tg ky tx ats l)=(0,0,we)from by rw[KY,if_neg (show ¬(TrT.mk tg ky tx ats l).tag=[]from h0),hW,if_pos he]],rfl⟩))))
  obtain rfl:we=0:=by simpa using c2
  refine Zk (J.seq (Ug 5 mixed (by kernel_rfl) (by kernel_rfl) (by kernel_rfl) rfl ?_))
  refine .cons [] rfl rfl rfl (.q rfl (Qg Lk (.r rfl) rfl)) ?_
  refine .cons [16] rfl rfl rfl (.q rfl (Qd 0 Uy (.r rfl) rfl rfl)) ?_
  refine .cons [] rfl rfl rfl (.q rfl (Qg N4 (.r rfl) rfl)) ?_
  refine .cons [18] rfl rfl rfl (.q rfl (Qd 0 Uy (.r rfl) rfl rfl)) ?_
  refine .cons [17] rfl rfl rfl (.q rfl (QW.assign (.r rfl))) ?_
  refine .nil ?_
  exact Za rfl (Zq rfl (QW.assign .const) (Zn (J.ret (Zr [.k,.k] (UX rfl (REv.tmp rfl lr) (REv.tmp rfl lr) (REv.tmp rfl lr)) rfl ⟨by rw[show KY (.mk tg ky tx ats l)=(wn,wd,0)from by rw[KY,if_neg (show ¬(TrT.mk tg ky tx ats l).tag=[]from h0),hW,if_neg (by simp)]],rfl⟩))))
theorem CA{fr:Bool}{t:TrT}(hw:t.wf):Fn Tryz.prog 24 [.agg (t.cs fr)] (.c (.int .i64 t.err)):=by
  refine AC.of_J Tryz.func24 rfl Tryz.ntmps24 rfl fun w0 A0=>?_
  refine Zs (Qq (.r rfl) rfl fun b1=>Zq rfl (QW.assign .const) (Zn (Zs (Zq rfl (by first|exact Qe 0 QT (.r rfl) rfl rfl rfl|exact Qe 0 QT (.r rfl) rfl (Qn (TrT.cs_length _ _) rfl) (TrT.cs_length _ _)) ?_))))
  refine Zq rfl (QW.call gofn57 (.cons (.r rfl) .nil) (FW hw)) (Zm rfl (Zx rfl (Zx rfl (Zx rfl (Za rfl (Za rfl (Za rfl (Zn (Zs ?_)))))))))
  exact Zm rfl (Za rfl (Zn (J.ret (Zr [.k] (RetEv.one rfl (REv.tmp rfl lr)) rfl ⟨by rw[← F8],rfl⟩))))

end
section
/- Walks: templates: may one be? a value as a word. -/
set_option maxRecDepth 10000
set_option maxHeartbeats 4000000
theorem LL{fr:Bool}{e:EX}(hw:e.wf):Fn Tryz.prog 145 [.agg (e.cs fr)] (.c (.bool e.none)):=by
  refine AC.of_J Tryz.func145 rfl Tryz.ntmps145 rfl fun w0 A0=>?_
  refine Zs (Qq (.r rfl) rfl fun b1=>Zq rfl (QW.assign .const) (Zn (Zs (Zq rfl (by first|exact Qe 0 Q6 (.r rfl) rfl rfl rfl|exact Qe 0 Q6 (.r rfl) rfl (Qn xl rfl) xl) ?_))))
  exact Zq rfl (QW.build (idx:=[]) pl36 PT rfl .nil rfl rfl rfl rfl) (Zq rfl (QW.call ET (.cons (.r rfl) (.cons (Ev.le (.r rfl) ((.aggL (.cons lr (.cons lr (.cons lr (.cons (.nil true false _) .nil))))))) .nil)) (Fk (fr:=fr) (fr2:=true) (v:=e) (u:=.nil) Xc.self Xc.self hw EX.wf_nil)) (Za rfl (Zn (J.ret (Zr [.k] (RetEv.one rfl (REv.tmp rfl lr)) rfl ⟨rfl,rfl⟩)))))
theorem Mu{w:Int}{t:QL}{k x:EX}{a:List SetT}{l:List TmT}:(TmT.mk w t k x a l).what=w∧(TmT.mk w t k x a l).tag=t∧(TmT.mk w t k x a l).key=k∧(TmT.mk w t k x a l).ex=x∧(TmT.mk w t k x a l).attrs=a∧(TmT.mk w t k x a l).kids=l:=⟨rfl,rfl,rfl,rfl,rfl,rfl⟩
theorem Sk{w:Int}{t:QL}{k x:EX}{a:List SetT}{l:List TmT}(h1:w=1)(h:(a.map SetT.key).all Un=false∨XC (a.map SetT.key)=false):(TmT.mk w t k x a l).partOk=false:=by
  rw[TmT.partOk,if_pos h1]
  rcases h with h|h<;>simp[h]
theorem Bm{w:Int}{t:QL}{k x:EX}{a:List SetT}{l:List TmT}(h1:w=1)(h2:(a.map SetT.key).all Un=true)(h3:XC (a.map SetT.key)=true):(TmT.mk w t k x a l).partOk=(Un t&&x.none):=by
  rw[TmT.partOk,if_pos h1,h2,h3];simp
theorem SetT.at0{fr:Bool}{s:SetT}:(s.cs fr)[0]? =some (.c (Q8 s.key)):=rfl
theorem all_no{l:List SetT}{j:Nat}(h:j<l.length)(hn:Un l[j].key=false):(l.map SetT.key).all Un=false:=by
  rw[Bool.eq_false_iff];intro hc
  have:=List.all_eq_true.1 hc l[j].key (List.mem_map.2 ⟨_,List.getElem_mem h,rfl⟩)
  rw[hn]at this;cases this
theorem all_yes{l:List SetT}(h:∀i (hi:i<l.length),Un l[i].key=true):(l.map SetT.key).all Un=true:=by
  rw[List.all_eq_true]
  intro x hx
  obtain⟨s,hs,rfl⟩:=List.mem_map.1 hx
  obtain⟨i,hi,rfl⟩:=List.getElem_of_mem hs
  exact h i hi
theorem R5{l:List SetT}{j:Nat}(h:j<l.length){ks:List QL}(hk:∀s,ks.contains s=((l.map SetT.key).take j).contains s):((l.map SetT.key).take j).contains ((l.map SetT.key)[j]'(by simpa using h))=ks.contains l[j].key:=by
  rw[hk];simp
theorem FS{fr:Bool}{t:TmT}(hw:t.wf):Fn Tryz.prog 96 [.agg (t.cs fr)] (.c (.bool t.partOk)):=by
  obtain⟨w,tg,k,x,a,l⟩:=t
  obtain⟨h0,h1,h2,h3,h4,h5,h6,h7⟩:=hw.inv
  have ha:a.length≤9223372036854775805:=by unfold Qs at h4;omega
  have hl:l.length≤9223372036854775805:=by unfold Qs at h6;omega
  refine AC.of_J Tryz.func96 rfl Tryz.ntmps96 rfl fun w0 A0=>?_
  refine Zs (Qq (.r rfl) rfl fun b1=>Zq rfl (QW.assign .const) (Zn (Zs (Zd Dt rfl (Zq rfl (Qd 0 U7 (.r rfl) rfl TmT.at1) (Zq rfl (WO (.r rfl) .const) (Zm rfl (Zg rfl (fun hg=>(Qg Ds (.r rfl) rfl)) ?_))))))))
  refine Zg rfl (fun hg=>(Qe 0 Q6 (.when rfl hg) rfl Ls xl)) (Zg rfl (fun hg=>(QW.call EU (.cons (.when rfl hg) .nil) (LL h2))) (Zq rfl (QW.pick_and (.r rfl) (.r rfl)) (Zm rfl (Zg rfl (fun hg=>(Qg Gn (.r rfl) rfl)) (Zg rfl (fun hg=>(Qd 0 TY (.when rfl hg) rfl YG)) (Zg rfl (fun hg=>(by first|exact Qh W7 (.when rfl hg) (TmT.css_length _ _)|exact Qh W7 (.when rfl hg) (SetT.css_length _ _)|exact QF W7 (.when rfl hg)|exact QW.len_nil W7 (.when rfl hg))) ?_))))))
  refine Zg rfl (fun hg=>(QW.eql (.when rfl hg) .const)) (Zq rfl (QW.pick_and (.r rfl) (.r rfl)) (Za rfl (Zn (J.seq (Zs (Zd N0 rfl (Zq rfl (Qd 0 Uy (.r rfl) rfl TmT.at0) (Zn (J.block ?_)))))))))
  refine Zs (Zq rfl (QW.eql (.r rfl) .const) (Za rfl (Zn ?_)))
  refine J.cond (.r rfl) (fun c1=>?_) (fun c1=>?_)
  · skip
    have hw1:w=1:=by simpa[Mu]using c1
    refine Zs (JL.makeMap rfl fun b25=>Za rfl (Zn (J.seq (Zs (Zd Gn rfl (Zq rfl (Qd 1 TY (.r rfl) rfl YG) (Zq rfl (by first|exact Qh W7 (.r rfl) (TmT.css_length _ _)|exact Qh W7 (.r rfl) (SetT.css_length _ _)|exact QF W7 (.r rfl)|exact QW.len_nil W7 (.r rfl)) ?_)))))))
    refine Zq rfl (QW.move .const) (Zn (J.block (Ua (ι:=Nat×List QL) [1,4,27,28] (fun⟨j,ks⟩=>[(29,.c (.int .i64 (j:Int)))]) (fun⟨j,ks⟩ oo=>List.set oo 0 (mpK b25 ks)) (fun⟨j,ks⟩=>j≤a.length∧(∀s,ks.contains s=((a.map SetT.key).take j).contains s)∧∀i (hi:i<a.length),i<j→Un a[i].key=true∧((a.map SetT.key).take i).contains ((a.map SetT.key)[i]'(by simpa using hi))=false) (fun⟨j,ks⟩=>a.length-j) ⟨0,[]⟩ (⟨Nat.zero_le _,fun s=>rfl,fun i _ hi=>by omega⟩) (QQ (.cons rfl lr (.cons rfl lr (.cons rfl lr (.cons rfl lr (.cons rfl lr .nil))))) (Reown.refl _) (fun _ h=>by first|exact h|simp[h])) ?_)))
    intro⟨j,ks⟩ ⟨hj,hks,hall⟩
    refine J.conv (by(try simp only[nl,Qk,Qv,Qw,Qu,QZ,AV.cellsOf,Qb,Qc,Nat.reduceAdd]);rfl) ?_
    refine Zs (Zq rfl (QW.lss (.r rfl) (.r rfl)) (Zn (J.seq ?_)))
    refine J.cond (.r rfl) (fun c2=>?_) (fun c2=>?_)
    · skip
      have hlt:j<a.length:=by simpa[SetT.css_length,Mu]using c2
      refine Zk (J.seq (J.block (Zs (Zq rfl (Qi W7 U3 rfl (.r rfl) (.r rfl) (by first|rfl|omega|(simp;done)) (by exact SetT.css_getE _ hlt)) ?_))))
      refine Zq rfl (by first|exact Qo U3 (.r rfl) rfl rfl|exact Qo U3 (.r rfl) (QI (SetT.cs_length _ _) rfl) (SetT.cs_length _ _)) ?_
      refine JL.alloc FM rfl rfl fun b6=>?_
      first|refine Qa 0 U3 (.r rfl) rfl (.r rfl) (by first|rfl|assumption) rfl rfl rfl ?_|refine Qa 0 U3 (.r rfl) rfl (.r rfl) (by first|rfl|assumption) rfl (SetT.cs_length _ _) rfl ?_|refine Qa 0 U3 (.r rfl) rfl (.r rfl) (by first|rfl|assumption) (SetT.cs_length _ _) rfl rfl ?_|refine Qa 0 U3 (.r rfl) rfl (.r rfl) (by first|rfl|assumption) (SetT.cs_length _ _) (SetT.cs_length _ _) rfl ?_|refine JL.store_box 0 U3 (.r rfl) rfl (.r rfl) (by first|rfl|assumption) rfl rfl rfl rfl ?_|refine JL.store_box 0 U3 (.r rfl) rfl (.r rfl) (by first|rfl|assumption) (SetT.cs_length _ _) rfl rfl rfl ?_
      refine Zn (J.seq (Zs (Zm rfl (Zd Lm rfl (Zq rfl (Qd 0 U7 (.r rfl) rfl SetT.at0) (Zq rfl (G5 1 Eq Kq (fun w=>by kernel_rfl) (.r rfl) (.r rfl) rfl) ?_))))))
      refine Zm rfl (Zg rfl (fun hg=>(Qg Lm (.r rfl) rfl)) (Zg rfl (fun hg=>(Qd 0 U7 (.when rfl hg) rfl SetT.at0)) (Zg rfl (fun hg=>(QW.call Ld (.cons (.when rfl hg) .nil) (X4 (h5 _ (List.getElem_mem hlt)).key))) (Zg rfl (fun hg=>(QW.not (.when rfl hg))) (Zq rfl (QW.pick_or (.r rfl) (.r rfl)) (Zn ?_))))))
      refine J.cond (.r rfl) (fun c3=>?_) (fun c3=>?_)
      · skip
        have hbad:ks.contains a[j].key=true∨Un a[j].key=false:=by simpa[Mu]using c3
        refine Zs (Zq rfl (QW.assign .const) (Zn (J.ret (thenQ.r (blkQ.r (thenQ.r (thenQ.r (blkQ.r (thenQ.r ?_)))))))))
        exact blkQ.r (thenQ.r (Zr [.k,.k,.k] (RetEv.one rfl (REv.tmp rfl lr)) rfl ⟨Wl (by rw[Sk hw1 (hbad.elim (fun h=>.inr (CQ (by simpa using hlt) ((R5 hlt hks).trans h))) (fun h=>.inl (all_no hlt h)))]),rfl⟩))
      obtain⟨hno,hle⟩:ks.contains a[j].key=false∧Un a[j].key=true:=by simpa[Mu]using c3
      refine Zk (Qf (Zm rfl (Zd Lm rfl (Zq rfl (Qd 0 U7 (.r rfl) rfl SetT.at0) (Np 1 Eq Kq (.r rfl) (.r rfl) .const rfl rfl (JL.nil (blkQ.n (thenQ.n (Qf ?_)))))))))
      refine Zq rfl (QW.add (.r rfl) .const (by first|exact Wj (by first|rfl|omega|(simp;done)) (by omega)|exact Ym (by omega)|rfl)) ?_
      refine Zm rfl (Zn ?_)
      exact⟨⟨j+1,TB ks a[j].key⟩,⟨hlt,fun s=>by rw[TA,List.contains_append,hks,List.take_succ_eq_append_getElem (by simpa using hlt),List.contains_append];simp,fun i hia hi=>by rcases Nat.lt_succ_iff_lt_or_eq.1 hi with h|rfl;exact hall i hia h;exact⟨hle,(R5 hlt hks).trans hno⟩⟩,by show a.length-(j+1)<a.length-j;omega,QQ (.cons rfl lr (.cons rfl lr (.cons rfl lr (.cons rfl lr (.cons rfl lr .nil))))) (Q3 1 _ rfl) (fun _ h=>by first|exact h|simp[h])⟩
    have hge:a.length≤j:=by simpa[SetT.css_length,Mu]using c2
    refine J.exit (Qy (Qy (Q1 (thenQ.n (Zs (Zd Dt rfl (Zq rfl (Qd 1 U7 (.r rfl) rfl TmT.at1) (Zq rfl (QW.call Ld (.cons (.r rfl) .nil) (X4 h1)) (Zm rfl ?_)))))))))
    exact Zg rfl (fun hg=>(Qg NZ (.r rfl) rfl)) (Zg rfl (fun hg=>(Qe 1 Q6 (.when rfl hg) rfl G2 xl)) (Zg rfl (fun hg=>(QW.call EU (.cons (.when rfl hg) .nil) (LL h3))) (Zq rfl (QW.pick_and (.r rfl) (.r rfl)) (Za rfl (Zn (J.ret (blkQ.r (thenQ.r (Zr [.k,.k] (RetEv.one rfl (REv.tmp rfl lr)) rfl ⟨Wl (by rw[Bm hw1 (all_yes fun i hi=>(hall i hi (by omega)).1) (T9 fun i hi=>(hall i (by simpa using hi) (by simp at hi;omega)).2)];exact Iff.rfl),rfl⟩)))))))))
  have hw1:¬w=1:=by simpa[Mu]using c1
  refine Zs (Zq rfl (QW.eql (.r rfl) .const) (Za rfl (Zn ?_)))
  refine J.cond (.r rfl) (fun c2=>?_) (fun c2=>?_)
  · skip
    have hw2:w=2:=by simpa[Mu]using c2
    refine Zs (Zm rfl (Zm rfl (Zg rfl (fun hg=>(Qg KA (.r rfl) rfl)) (Zg rfl (fun hg=>(Qd 0 RA (.when rfl hg) rfl YF)) (Zg rfl (fun hg=>(by first|exact Qh Y5 (.when rfl hg) (TmT.css_length _ _)|exact Qh Y5 (.when rfl hg) (SetT.css_length _ _)|exact QF Y5 (.when rfl hg)|exact QW.len_nil Y5 (.when rfl hg))) ?_)))))
    exact Zg rfl (fun hg=>(QW.eql (.when rfl hg) .const)) (Zq rfl (QW.pick_and (.r rfl) (.r rfl)) (Za rfl (Zn (J.ret (blkQ.r (thenQ.r (Zr [.k] (RetEv.one rfl (REv.tmp rfl lr)) rfl ⟨Wl (by rw[TmT.partOk,if_neg hw1,if_pos hw2,Bool.eq_iff_iff];simp[SetT.css_length,TmT.css_length,Mu]),rfl⟩)))))))
  have hw2:¬w=2:=by simpa[Mu]using c2
  refine J.seq (Zs (Zq rfl (QW.eql (.r rfl) .const) (Za rfl (Zn ?_))))
  refine J.cond (.r rfl) (fun c3=>?_) (fun c3=>?_)
  · skip
    have hw3:w=3:=by simpa[Mu]using c3
    refine Zk ?_
    refine J.cond (.r rfl) (fun c4=>?_) (fun c4=>absurd c4 (by first|(rw[c3];decide)|(simp at*;done)|(simp at*;omega)))
    exact Zs (Zm rfl (Za rfl (Zn (J.ret (blkQ.r (thenQ.r (Zr [.k] (RetEv.one rfl (REv.tmp rfl lr)) rfl ⟨Wl (by rw[TmT.partOk,if_neg hw1,if_neg hw2,if_pos (.inl hw3),Bool.eq_iff_iff];simp[SetT.css_length,Mu]),rfl⟩)))))))
  have hw3:¬w=3:=by simpa[Mu]using c3
  refine Qf (Zq rfl (QW.eql (.r rfl) .const) (Za rfl (Zn ?_)))
  refine J.cond (.r rfl) (fun c4=>?_) (fun c4=>?_)
  · skip
    have hw4:w=4:=by simpa[Mu]using c4
    exact Zs (Zm rfl (Za rfl (Zn (J.ret (blkQ.r (thenQ.r (Zr [.k] (RetEv.one rfl (REv.tmp rfl lr)) rfl ⟨Wl (by rw[TmT.partOk,if_neg hw1,if_neg hw2,if_pos (.inr hw4),Bool.eq_iff_iff];simp[SetT.css_length,Mu]),rfl⟩)))))))
  have hw4:¬w=4:=by simpa[Mu]using c4
  exact J.skip (blkQ.n (thenQ.n (Zs (Zq rfl (QW.assign .const) (Zn (J.ret (Zr [.k] (RetEv.one rfl (REv.tmp rfl lr)) rfl ⟨Wl (by rw[TmT.partOk,if_neg hw1,if_neg hw2,if_neg (fun h=>h.elim hw3 hw4)]),rfl⟩)))))))

end
section
/- Two structs of two texts: are they one? -/
theorem DW{P:Program}{E:WE}{st:St}{t et ty:TypeId}{pos:String}{af:Array Edge}{dd:Option Tmp}{gd:Option (Nat×Bool)}{x y:Operand}{B:Nat}{ys:List AV}{v:AV}{ln m:Nat}{k:IntKind}{i:Int}(hU:P.underlying t=some (.array ln et))(hT:Ui P et=some (false,1,B))
    (h:Ev E st x (.agg ys)) (hi:Ev E st y (.c (.int k i))) (him:i=(m:Int)) (hm:m<ln) (hz:ys[m]? =some v):QW P E st ⟨dd,.index t x y,ty,pos,af,gd⟩ v:=.pure fun A a w hs=>by
  obtain⟨vs,hv,hn,hc⟩:=(h A a w hs).of_agg
  subst him
  have hlt:(m:Int)<(ln:Int):=by omega
  obtain⟨u,k1,_,k2⟩:=hc m v hz
  rw[Nat.zero_add]at k1
  exact⟨u,by simp[execOp,Instr.index,asIntOf,asInt,hi.eq hs,Qp _ hU,hv,Uo hT,CI hT k1,hm],k2⟩

end
section
/- Walks: templates: the walk over parts, which may be; a value as a word. -/
set_option maxRecDepth 10000
set_option maxHeartbeats 4000000
theorem XH(ok:Bool)(e:Int):AC Tryz.prog 83 [] [.c (.bool ok),.c (.int .i64 e)] (PanR (ok=true) (WL e) fun x o=>x=.tup []∧o=[]):=by
  refine AC.of_J Tryz.func83 rfl Tryz.ntmps83 rfl fun w0 A0=>?_
  refine Zs (Zm rfl (Zq rfl (QW.not (.r rfl)) (Zn ?_)))
  refine J.cond (.r rfl) (fun c1=>?_) (fun c1=>?_)
  · skip
    have ho:¬ok=true:=by(simp at c1;simp[c1])
    refine Qf (Zm rfl (Zq rfl (Yv ⟨_,Tryz.underlying47,by intro ms h;cases h⟩ (.r rfl)) ?_))
    refine JL.panic (.r rfl) ?_
    exact⟨_,QC [] _,_,rfl,rfl,Qj [] _,PanR.pan ho⟩
  have ho:ok=true:=by simpa using c1
  exact J.skip (Zr [] (RetEv.none rfl) rfl (.inl ⟨ho,_,rfl,rfl,rfl⟩))
theorem Y3(e:Int):AC Tryz.prog 46 [] [.c (.int .i64 e)] (PanR (e=0) (WL e) fun x o=>x=.tup []∧o=[]):=by
  refine AC.of_J Tryz.func46 rfl Tryz.ntmps46 rfl fun w0 A0=>?_
  refine Qf (Zm rfl (Zq rfl (QW.eql (.r rfl) .const) (Zm rfl ?_)))
  refine Qm [] Hr rfl Lent.nil (fun _=>(.cons (.r rfl) (.cons (.r rfl) .nil))) (XH _ e) (.inl rfl) (fun k5 x5 o5 h5=>?_) (fun k5=>?_)
  rotate_left
  · skip
    exact⟨_,QC [] _,_,rfl,rfl,Qj [] _,PanR.pan (by simpa using k5)⟩
  obtain⟨rfl,rfl⟩:=h5
  exact JL.nil (Zr [] (RetEv.none rfl) rfl (.inl ⟨by simpa using k5,_,rfl,rfl,rfl⟩))
def VwR(r:Int×Int)(b:Nat):Wf→List Own→Prop:=PanR (r.2=0) (WL r.2) fun x o=>x=.tup []∧o=[UA b r.1]
theorem VwR.ok{r:Int×Int}{b:Nat}{n:Int}(h:r=(n,0)):VwR r b (.ret (.tup [])) [UA b n]:=.inl ⟨by rw[h],_,rfl,rfl,by rw[h]⟩
theorem VwR.er{r:Int×Int}{b:Nat}{n c:Int}(h:r=(n,c))(hc:¬c=0):VwR r b (.pan (.iface 47 (.int .i64 c))) []:=.inr ⟨by rw[h];exact hc,by rw[h];rfl,rfl⟩
section
variable {w:Int} {t:QL} {k x:EX} {a:List SetT} {l:List TmT} {level n:Int}
theorem own_10(h:8<level):(TmT.mk w t k x a l).ownE level n=10:=if_pos h
theorem own_3(h:¬8<level)(h2:64≤n∨16<a.length∨16<l.length):(TmT.mk w t k x a l).ownE level n=3:=by rw[TmT.ownE,if_neg h];exact if_pos h2
theorem own_9(h:¬8<level)(h2:¬(64≤n∨16<a.length∨16<l.length))(h3:(TmT.mk w t k x a l).partOk=false):(TmT.mk w t k x a l).ownE level n=9:=by rw[TmT.ownE,if_neg h];exact(if_neg h2).trans (if_pos h3)
theorem Ei(h:¬8<level)(h2:¬(64≤n∨16<a.length∨16<l.length))(h3:(TmT.mk w t k x a l).partOk=true):(TmT.mk w t k x a l).ownE level n=(TmT.mk w t k x a l).exE:=by rw[TmT.ownE,if_neg h];exact(if_neg h2).trans (if_neg (by simp[h3]))
theorem B6:∀{l:List Int} {j:Nat} (h:j<l.length),(∀i (hi:i<l.length),i<j→l[i]=0)→¬l[j]=0→Hs l=l[j]
  |y::r,0,h,_,hn=>by rw[Hs];exact if_pos (show y≠0 from hn)
  |y::r,j+1,h,h0,hn=>by
    have h1:y=0:=h0 0 (by simp) (by omega)
    rw[Hs,if_neg (fun hc=>hc h1)]
    exact B6 (l:=r) (j:=j) (by simpa using h) (fun i hi hij=>h0 (i+1) (by simpa using hi) (by omega)) hn
theorem ex_k(h:¬k.err=0):(TmT.mk w t k x a l).exE=k.err:=if_pos h
theorem ex_x(h:k.err=0)(h2:¬x.err=0):(TmT.mk w t k x a l).exE=x.err:=(if_neg (fun hc=>hc h)).trans (if_pos h2)
theorem ex_a(h:k.err=0)(h2:x.err=0){j:Nat}(hj:j<a.length)(h3:∀i (hi:i<a.length),i<j→a[i].ex.err=0)(h4:¬a[j].ex.err=0):(TmT.mk w t k x a l).exE=a[j].ex.err:=by
  show Hs (k.err::x.err::a.map fun s=>s.ex.err)=_
  rw[Hs,if_neg (fun hc=>hc h),Hs,if_neg (fun hc=>hc h2)]
  have:=B6 (l:=a.map fun s=>s.ex.err) (j:=j) (by simpa using hj) (fun i hi hij=>by simpa using h3 i (by simpa using hi) hij) (by simpa using h4)
  simpa using this
theorem Td:∀{l:List Int},(∀x∈l,x=0)→Hs l=0
  |[],_=>rfl
  |y::r,h=>by rw[Hs,if_neg (fun hc=>hc (h y (by simp)))];exact Td fun x hx=>h x (by simp[hx])
theorem ex_0(h:k.err=0)(h2:x.err=0)(h3:∀i (hi:i<a.length),a[i].ex.err=0):(TmT.mk w t k x a l).exE=0:=Td fun y hy=>by
  rcases List.mem_cons.1 hy with rfl|hy
  · exact h
  · rcases List.mem_cons.1 hy with rfl|hy
    · exact h2
    · obtain⟨s,hs,rfl⟩:=List.mem_map.1 hy
      obtain⟨i,hi,rfl⟩:=List.getElem_of_mem hs
      exact h3 i hi
theorem vw_own(h:¬(TmT.mk w t k x a l).ownE level n=0):(TmT.mk w t k x a l).walk level n=(n,(TmT.mk w t k x a l).ownE level n):=by rw[TmT.walk,if_pos h]
theorem vw_go(h:(TmT.mk w t k x a l).ownE level n=0):(TmT.mk w t k x a l).walk level n=TmT.walks l (level+1) (n+1):=by rw[TmT.walk,if_neg (fun hc=>hc h)]
theorem Cq{c:Int}(h:(TmT.mk w t k x a l).ownE level n=c)(hc:¬c=0):(TmT.mk w t k x a l).walk level n=(n,c):=by rw[vw_own (by rw[h];exact hc),h]
end
theorem vws_go{l:List TmT}{j:Nat}(h:j<l.length){level m:Int}(h2:(l[j].walk level m).2=0):TmT.walks (l.drop j) level m=TmT.walks (l.drop (j+1)) level (l[j].walk level m).1:=by rw[List.drop_eq_getElem_cons h,TmT.walks,if_neg (fun hc=>hc h2)]
theorem vws_no{l:List TmT}{j:Nat}(h:j<l.length){level m:Int}(h2:¬(l[j].walk level m).2=0):TmT.walks (l.drop j) level m=l[j].walk level m:=by rw[List.drop_eq_getElem_cons h,TmT.walks,if_pos h2]
mutual
theorem TmT.walk_bd:∀(t:TmT) (level n:Int),0≤n∧n≤64→0≤(t.walk level n).1∧(t.walk level n).1≤64
  |.mk w t k x a l,level,n,h=>by
    unfold TmT.walk
    split
    · exact h
    · rename_i h1
      obtain⟨-,h2,-⟩:=RO (Decidable.not_not.1 h1)
      exact TmT.walks_bd l _ _ ⟨by omega,by omega⟩
theorem TmT.walks_bd:∀(l:List TmT) (level n:Int),0≤n∧n≤64→0≤(TmT.walks l level n).1∧(TmT.walks l level n).1≤64
  |[],_,_,h=>h
  |x::r,level,n,h=>by
    unfold TmT.walks
    split
    · exact TmT.walk_bd x _ _ h
    · exact TmT.walks_bd r _ _ (TmT.walk_bd x _ _ h)
end
theorem P0:∀(n:Nat) {t:TmT} {fr:Bool} {level n0:Int} {b:Nat},t.wf→t.sz≤n→(0≤n0∧n0≤64)→(1≤level∧level≤9)→
    AC Tryz.prog 53 [UA b n0] [.agg (t.cs fr),.c (.int .i64 level),.c (.pointer (some ⟨b,0,none⟩))] (VwR (t.walk level n0) b):=by
  intro n
  induction n with
  |zero=>intro t fr level n0 b hw hn;exact absurd hn (by have:=t.sz_pos;omega)
  |succ n ih=>
    intro t fr level n0 b hw hn hbd hlv
    obtain⟨w,tg,k,x,a,l⟩:=t
    obtain⟨h0,h1,h2,h3,h4,h5,h6,h7⟩:=hw.inv
    have ha:a.length≤9223372036854775805:=by unfold Qs at h4;omega
    have hl:l.length≤9223372036854775805:=by unfold Qs at h6;omega
    refine AC.of_J Tryz.func53 rfl Tryz.ntmps53 rfl fun w0 A0=>?_
    refine Zs (Qq (.r rfl) rfl fun b3=>Zn (Zs (Zm rfl (Zq rfl (QW.leq (.r rfl) .const) ?_))))
    refine Qm [] Hr rfl Lent.nil (fun _=>(.cons (.r rfl) (.cons .const .nil))) (XH _ _) (.inl rfl) (fun k12 x12 o12 h12=>?_) (fun k12=>?_)
    rotate_left
    · skip
      refine thenQ.p ?_
      exact⟨_,QC [.k,.k] _,_,rfl,rfl,Qj [.k,.k] _,VwR.er (c:=10) (Cq (own_10 (by simp at k12;omega)) (by decide)) (by decide)⟩
    obtain⟨rfl,rfl⟩:=h12
    refine Zn (J.seq ?_)
    have hlv8:¬8<level:=by(simp at k12;omega)
    refine Qf (Zm rfl (Zu rfl (Zl 1 Uy rfl (Zq rfl (QW.lss (.r rfl) .const) (Zm rfl (Zg rfl (fun hg=>(Qg Gn (.r rfl) rfl)) (Zg rfl (fun hg=>(Qd 0 TY (.when rfl hg) rfl YG)) (Zg rfl (fun hg=>(by first|exact Qh W7 (.when rfl hg) (TmT.css_length _ _)|exact Qh W7 (.when rfl hg) (SetT.css_length _ _)|exact QF W7 (.when rfl hg)|exact QW.len_nil W7 (.when rfl hg))) ?_))))))))
    refine Zg rfl (fun hg=>(Qg KA (.r rfl) rfl)) (Zg rfl (fun hg=>(Qd 0 RA (.when rfl hg) rfl YF)) (Zg rfl (fun hg=>(by first|exact Qh Y5 (.when rfl hg) (TmT.css_length _ _)|exact Qh Y5 (.when rfl hg) (SetT.css_length _ _)|exact QF Y5 (.when rfl hg)|exact QW.len_nil Y5 (.when rfl hg))) ?_))
    refine Zg rfl (fun hg=>(QW.max2 (.when rfl hg) (.when rfl hg))) (Zg rfl (fun hg=>(QW.leq (.when rfl hg) .const)) (Zq rfl (QW.pick_and (.r rfl) (.r rfl)) ?_))
    refine Qm [] Hr rfl Lent.nil (fun _=>(.cons (.r rfl) (.cons .const .nil))) (XH _ _) (.inl rfl) (fun k27 x27 o27 h27=>?_) (fun k27=>?_)
    rotate_left
    · skip
      refine thenQ.p ?_
      exact⟨_,QC [.k,.k] _,_,rfl,rfl,Qj [.k,.k] _,VwR.er (c:=3) (Cq (own_3 hlv8 (by simp[SetT.css_length,TmT.css_length,Mu]at k27;omega)) (by decide)) (by decide)⟩
    obtain⟨rfl,rfl⟩:=h27
    refine Zn (J.seq ?_)
    have hct:¬(64≤n0∨16<a.length∨16<l.length):=by(simp[SetT.css_length,TmT.css_length,Mu]at k27;omega)
    refine Qf (Zq rfl (by first|exact Qe 0 UO (.r rfl) rfl rfl rfl|exact Qe 0 UO (.r rfl) rfl (Qn (TmT.cs_length _ _) rfl) (TmT.cs_length _ _)) ?_)
    refine Zq rfl (QW.call gofn96 (.cons (.r rfl) .nil) (FS hw)) ?_
    refine Qm [] Hr rfl Lent.nil (fun _=>(.cons (.r rfl) (.cons .const .nil))) (XH _ _) (.inl rfl) (fun k30 x30 o30 h30=>?_) (fun k30=>?_)
    rotate_left
    · skip
      refine thenQ.p ?_
      exact⟨_,QC [.k,.k] _,_,rfl,rfl,Qj [.k,.k] _,VwR.er (c:=9) (Cq (own_9 hlv8 hct (by simpa using k30)) (by decide)) (by decide)⟩
    obtain⟨rfl,rfl⟩:=h30
    refine Zn (J.seq ?_)
    have hpt:(TmT.mk w tg k x a l).partOk=true:=k30
    refine Qf (Zd Ds rfl (Zq rfl (Qe 0 Q6 (.r rfl) rfl Ls xl) (Zq rfl (QW.call Do (.cons (.r rfl) .nil) (Hx Xc.self h2)) ?_)))
    refine Qm [] Gk rfl Lent.nil (fun _=>(.cons (.r rfl) .nil)) (Y3 _) (.inl rfl) (fun k34 x34 o34 h34=>?_) (fun k34=>?_)
    rotate_left
    · skip
      refine thenQ.p ?_
      exact⟨_,QC [.k,.k] _,_,rfl,rfl,Qj [.k,.k] _,VwR.er (Cq ((Ei hlv8 hct hpt).trans (ex_k k34)) k34) k34⟩
    obtain⟨rfl,rfl⟩:=h34
    refine Zn (Zs (Zd NZ rfl (Zq rfl (Qe 0 Q6 (.r rfl) rfl G2 xl) (Zq rfl (QW.call Do (.cons (.r rfl) .nil) (Hx Xc.self h3)) ?_))))
    refine Qm [] Gk rfl Lent.nil (fun _=>(.cons (.r rfl) .nil)) (Y3 _) (.inl rfl) (fun k38 x38 o38 h38=>?_) (fun k38=>?_)
    rotate_left
    · skip
      refine thenQ.p ?_
      exact⟨_,QC [.k,.k] _,_,rfl,rfl,Qj [.k,.k] _,VwR.er (Cq ((Ei hlv8 hct hpt).trans (ex_x k34 k38)) k38) k38⟩
    obtain⟨rfl,rfl⟩:=h38
    refine Zn (J.seq (Zs (Zd Gn rfl (Zq rfl (Qd 0 TY (.r rfl) rfl YG) (Zq rfl (by first|exact Qh W7 (.r rfl) (TmT.css_length _ _)|exact Qh W7 (.r rfl) (SetT.css_length _ _)|exact QF W7 (.r rfl)|exact QW.len_nil W7 (.r rfl)) ?_)))))
    refine Zq rfl (QW.move .const) (Zn (J.block (Ua (ι:=Nat) [1,2,3,40,41] (fun j=>[(42,.c (.int .i64 (j:Int)))]) (fun _ oo=>oo) (fun j=>j≤a.length∧∀i (hi:i<a.length),i<j→a[i].ex.err=0) (fun j=>a.length-j) 0 (⟨Nat.zero_le _,fun i _ hi=>by omega⟩) (QQ (.cons rfl lr (.cons rfl lr (.cons rfl lr (.cons rfl lr (.cons rfl lr (.cons rfl lr .nil)))))) (Reown.refl _) (fun _ h=>by first|exact h|simp[h])) ?_)))
    intro j ⟨hj,hall⟩
    refine J.conv (by(try simp only[nl,Qk,Qv,Qw,Qu,QZ,AV.cellsOf,Qb,Qc,Nat.reduceAdd]);rfl) ?_
    refine Zs (Zq rfl (QW.lss (.r rfl) (.r rfl)) (Zn (J.seq ?_)))
    refine J.cond (.r rfl) (fun c1=>?_) (fun c1=>?_)
    · skip
      have hlt:j<a.length:=by simpa[SetT.css_length,Mu]using c1
      refine Zk (J.seq (J.block (Zs (Zq rfl (Qi W7 U3 rfl (.r rfl) (.r rfl) (by first|rfl|omega|(simp;done)) (by exact SetT.css_getE _ hlt)) ?_))))
      refine Zq rfl (by first|exact Qo U3 (.r rfl) rfl rfl|exact Qo U3 (.r rfl) (QI (SetT.cs_length _ _) rfl) (SetT.cs_length _ _)) ?_
      refine JL.alloc FM rfl rfl fun b7=>?_
      first|refine Qa 0 U3 (.r rfl) rfl (.r rfl) (by first|rfl|assumption) rfl rfl rfl ?_|refine Qa 0 U3 (.r rfl) rfl (.r rfl) (by first|rfl|assumption) rfl (SetT.cs_length _ _) rfl ?_|refine Qa 0 U3 (.r rfl) rfl (.r rfl) (by first|rfl|assumption) (SetT.cs_length _ _) rfl rfl ?_|refine Qa 0 U3 (.r rfl) rfl (.r rfl) (by first|rfl|assumption) (SetT.cs_length _ _) (SetT.cs_length _ _) rfl ?_|refine JL.store_box 0 U3 (.r rfl) rfl (.r rfl) (by first|rfl|assumption) rfl rfl rfl rfl ?_|refine JL.store_box 0 U3 (.r rfl) rfl (.r rfl) (by first|rfl|assumption) (SetT.cs_length _ _) rfl rfl rfl ?_
      refine Zn (Qf (Zd E5 rfl (Zq rfl (Qe 0 Q6 (.r rfl) rfl SetT.at1 xl) (Zq rfl (QW.call Do (.cons (.r rfl) .nil) (Hx Xc.self (h5 _ (List.getElem_mem hlt)).ex)) ?_))))
      refine Qm [] Gk rfl Lent.nil (fun _=>(.cons (.r rfl) .nil)) (Y3 _) (.inl rfl) (fun k49 x49 o49 h49=>?_) (fun k49=>?_)
      rotate_left
      · skip
        refine blkQ.p (thenQ.p (thenQ.p (blkQ.p (thenQ.p ?_))))
        exact⟨_,QC [.k,.k,.k] _,_,rfl,rfl,Qj [.k,.k,.k] _,VwR.er (Cq ((Ei hlv8 hct hpt).trans (ex_a k34 k38 hlt hall k49)) k49) k49⟩
      obtain⟨rfl,rfl⟩:=h49
      refine JL.nil (blkQ.n (thenQ.n (Qf (Zq rfl (QW.add (.r rfl) .const (by first|exact Wj (by first|rfl|omega|(simp;done)) (by omega)|exact Ym (by omega)|rfl)) ?_))))
      refine Zm rfl (Zn ?_)
      exact⟨j+1,⟨hlt,fun i hi hij=>by rcases Nat.lt_succ_iff_lt_or_eq.1 hij with h|rfl;exact hall i hi h;exact k49⟩,by omega,QQ (.cons rfl lr (.cons rfl lr (.cons rfl lr (.cons rfl lr (.cons rfl lr (.cons rfl lr .nil)))))) (Q3 1 _ rfl) (fun _ h=>by first|exact h|simp[h])⟩
    have hge:a.length≤j:=by simpa[SetT.css_length,Mu]using c1
    refine J.exit (Qy (Qy (Q1 (thenQ.n (J.seq ?_)))))
    have hx0:=ex_0 (w:=w) (t:=tg) (l:=l) k34 k38 fun i hi=>hall i hi (by omega)
    have how:(TmT.mk w tg k x a l).ownE level n0=0:=(Ei hlv8 hct hpt).trans hx0
    have hlv2:1≤level+1∧level+1≤9:=by omega
    refine Qf (Zm rfl (Zu rfl (Zl 1 Uy rfl (Zq rfl (QW.add (.r rfl) .const (by first|exact Wj (by first|rfl|omega|(simp;done)) (by omega)|exact Ym (by omega)|rfl)) ?_))))
    refine Zu rfl (JL.store_box 1 Uy (.r rfl) rfl (.r rfl) (by first|rfl|assumption) rfl rfl rfl rfl ?_)
    refine Zn (Zs (Zd KA rfl (Zq rfl (Qd 0 RA (.r rfl) rfl YF) (Zq rfl (by first|exact Qh Y5 (.r rfl) (TmT.css_length _ _)|exact Qh Y5 (.r rfl) (SetT.css_length _ _)|exact QF Y5 (.r rfl)|exact QW.len_nil Y5 (.r rfl)) ?_))))
    refine Zq rfl (QW.move .const) (Zn (J.block (Ua (ι:=Nat×Int) [1,2,57,58] (fun⟨i,m⟩=>[(59,.c (.int .i64 (i:Int)))]) (fun⟨i,m⟩ oo=>List.set oo 1 (UA b m)) (fun⟨i,m⟩=>i≤l.length∧(0≤m∧m≤64)∧(TmT.mk w tg k x a l).walk level n0=TmT.walks (l.drop i) (level+1) m) (fun⟨i,m⟩=>l.length-i) ⟨0,n0+1⟩ (⟨Nat.zero_le _,by show 0≤n0+1∧n0+1≤64;omega,vw_go how⟩) (QQ (.cons rfl lr (.cons rfl lr (.cons rfl lr (.cons rfl lr (.cons rfl lr .nil))))) (Reown.refl _) (fun _ h=>by first|exact h|simp[h])) ?_)))
    intro⟨i,m⟩ ⟨hi,hm,hwk⟩
    refine J.conv (by(try simp only[nl,Qk,Qv,Qw,Qu,QZ,AV.cellsOf,Qb,Qc,Nat.reduceAdd]);rfl) ?_
    refine Zs (Zq rfl (QW.lss (.r rfl) (.r rfl)) (Zn (J.seq ?_)))
    refine J.cond (.r rfl) (fun c2=>?_) (fun c2=>?_)
    · skip
      have hlt2:i<l.length:=by simpa[TmT.css_length,Mu]using c2
      refine Zk (J.seq (J.block (Zs (Zq rfl (Qi Y5 UO rfl (.r rfl) (.r rfl) (by first|rfl|omega|(simp;done)) (by exact TmT.css_getE _ hlt2)) ?_))))
      refine Zq rfl (by first|exact Qo UO (.r rfl) rfl rfl|exact Qo UO (.r rfl) (QI (TmT.cs_length _ _) rfl) (TmT.cs_length _ _)) ?_
      refine JL.alloc z40 rfl rfl fun b9=>?_
      first|refine Qa 0 UO (.r rfl) rfl (.r rfl) (by first|rfl|assumption) rfl rfl rfl ?_|refine Qa 0 UO (.r rfl) rfl (.r rfl) (by first|rfl|assumption) rfl (TmT.cs_length _ _) rfl ?_|refine Qa 0 UO (.r rfl) rfl (.r rfl) (by first|rfl|assumption) (TmT.cs_length _ _) rfl rfl ?_|refine Qa 0 UO (.r rfl) rfl (.r rfl) (by first|rfl|assumption) (TmT.cs_length _ _) (TmT.cs_length _ _) rfl ?_|refine JL.store_box 0 UO (.r rfl) rfl (.r rfl) (by first|rfl|assumption) rfl rfl rfl rfl ?_|refine JL.store_box 0 UO (.r rfl) rfl (.r rfl) (by first|rfl|assumption) (TmT.cs_length _ _) rfl rfl rfl ?_
      refine Zn (Qf (Zq rfl (by first|exact Qe 0 UO (.r rfl) rfl rfl rfl|exact Qe 0 UO (.r rfl) rfl (Qn (TmT.cs_length _ _) rfl) (TmT.cs_length _ _)) ?_))
      refine Zm rfl (Zq rfl (QW.add (.r rfl) .const (by first|exact Wj (by first|rfl|omega|(simp;done)) (by omega)|exact Ym (by omega)|rfl)) ?_)
      refine Zm rfl ?_
      refine Qm [.k,.k,.p] BY rfl Lent.nil (fun _=>(.cons (.r rfl) (.cons (.r rfl) (.cons (.r rfl) .nil)))) (ih (h7 _ (List.getElem_mem hlt2)) (TmT.sz_get hn hlt2) hm hlv2) (.inl rfl) (fun k67 x67 o67 h67=>?_) (fun k67=>?_)
      rotate_left
      · skip
        refine blkQ.p (thenQ.p (thenQ.p (blkQ.p ?_)))
        exact⟨_,QC [.k,.k] _,_,rfl,rfl,Qj [.k,.k] _,VwR.er (n:=(l[i].walk (level+1) m).1) (hwk.trans (vws_no hlt2 k67)) k67⟩
      obtain⟨rfl,rfl⟩:=h67
      refine JL.nil (blkQ.n (thenQ.n (Qf (Zq rfl (QW.add (.r rfl) .const (by first|exact Wj (by first|rfl|omega|(simp;done)) (by omega)|exact Ym (by omega)|rfl)) ?_))))
      refine Zm rfl (Zn ?_)
      rw[vws_go hlt2 k67]at hwk
      exact⟨⟨i+1,(l[i].walk (level+1) m).1⟩,⟨hlt2,TmT.walk_bd _ _ _ hm,hwk⟩,by show l.length-(i+1)<l.length-i;omega,QQ (.cons rfl lr (.cons rfl lr (.cons rfl lr (.cons rfl lr (.cons rfl lr .nil))))) (Q3 1 _ rfl) (fun _ h=>by first|exact h|simp[h])⟩
    have hge2:l.length≤i:=by simpa[TmT.css_length,Mu]using c2
    exact J.exit (Qy (Qy (Q1 (Zr [.k,.p] (RetEv.none rfl) rfl (VwR.ok (hwk.trans (by rw[List.drop_of_length_le hge2];rfl)))))))
theorem MI(c:Nat)(z:Int):AC Tryz.prog 44 [UA c z] [.c .nilIface,.c (.pointer (some ⟨c,0,none⟩))] (YQ fun x o=>x=.c (.bool false)∧o=[UA c z]):=by
  refine AC.of_J Tryz.func44 rfl Tryz.ntmps44 rfl fun w0 A0=>?_
  refine Zs (Zq rfl (QW.assign .const) (Zn (Zs (Zm rfl (Zn (J.block (Zs (Zq rfl (Yx ⟨_,Tryz.underlying47,by intro ms h;cases h⟩ KG (.r rfl)) ?_))))))))
  refine Zx rfl (Zx rfl (Zn ?_))
  refine J.cond (.r rfl) (fun c1=>absurd c1 (by simp)) (fun c1=>?_)
  refine Zs (Zq rfl (QW.bin (r:=.bool true) (.r rfl) .const (fun w=>by kernel_rfl) (fun w=>by kernel_rfl)) ?_)
  refine Zn ?_
  refine J.cond (.r rfl) (fun c2=>?_) (fun c2=>absurd c2 (by simp))
  exact Zs (Za rfl (Zn (Zs (Zq rfl (QW.assign .const) (Zn (J.ret (blkQ.r (Zr [.p] (RetEv.one rfl (REv.tmp rfl lr)) rfl ⟨_,rfl,rfl,rfl⟩))))))))
theorem Ry(c:Nat)(z e:Int):AC Tryz.prog 44 [UA c z] [.c (WL e),.c (.pointer (some ⟨c,0,none⟩))] (YQ fun x o=>x=.c (.bool true)∧o=[UA c e]):=by
  refine AC.of_J Tryz.func44 rfl Tryz.ntmps44 rfl fun w0 A0=>?_
  refine Zs (Zq rfl (QW.assign .const) (Zn (Zs (Zm rfl (Zn (J.block (Zs (Zq rfl (Yy ⟨_,Tryz.underlying47,by intro ms h;cases h⟩ (.r rfl)) ?_))))))))
  refine Zx rfl (Zx rfl (Zn ?_))
  refine J.cond (.r rfl) (fun c1=>?_) (fun c1=>absurd c1 (by simp))
  refine Zs (Za rfl (Zn (Zs (Zm rfl (Zm rfl (Zu rfl (JL.store_box 0 U8 (.r rfl) rfl (.r rfl) (by first|rfl|assumption) rfl rfl rfl rfl ?_)))))))
  exact Zn (Zs (Zq rfl (QW.assign .const) (Zn (J.ret (blkQ.r (Zr [.p] (RetEv.one rfl (REv.tmp rfl lr)) rfl ⟨_,rfl,rfl,rfl⟩))))))
theorem Ct(c:Nat)(z:Int):DC Tryz.prog 52 [UA c z] [.c (.pointer (some ⟨c,0,none⟩))] .returning fun r u' o=>r=.ret (.tup [])∧u'=.returning∧o=[UA c z]:=by
  refine DC.of_JD Tryz.func52 rfl Tryz.ntmps52 rfl fun w0 A0=>?_
  refine Q9 rfl rfl (.inl ⟨rfl,rfl,rfl⟩) rfl (JL.callRF [.p] NN rfl Lent.nil (fun _=>(.cons (.r rfl) (.cons (.r rfl) .nil))) (MI c z) (.inl rfl) fun x2 o2 h2=>?_)
  obtain⟨rfl,rfl⟩:=h2
  refine JL.nil ?_
  exact⟨_,QC [.p] _,_,RetEv.none rfl,rfl,Qj [.p] _,⟨rfl,rfl,rfl⟩⟩
theorem Cu(c:Nat)(z e:Int):DC Tryz.prog 52 [UA c z] [.c (.pointer (some ⟨c,0,none⟩))] (.panicking [{v:=WL e,recovered:=false}]) fun r u' o=>r=.ret (.tup [])∧u'=.panicking [{v:=WL e,recovered:=true}]∧o=[UA c e]:=by
  refine DC.of_JD Tryz.func52 rfl Tryz.ntmps52 rfl fun w0 A0=>?_
  refine Q9 rfl rfl (.inr ⟨[],rfl,rfl⟩) rfl (JL.callRF [.p] NN rfl Lent.nil (fun _=>(.cons (.r rfl) (.cons (.r rfl) .nil))) (Ry c z e) (.inl rfl) fun x2 o2 h2=>?_)
  obtain⟨rfl,rfl⟩:=h2
  refine JL.nil ?_
  exact⟨_,QC [.p] _,_,RetEv.none rfl,rfl,Qj [.p] _,⟨rfl,rfl,rfl⟩⟩

end
section
/- Walks: may a template be? a value as a word. -/
set_option maxRecDepth 10000
set_option maxHeartbeats 4000000
theorem F1{t:TmT}(h:t.what=1):t.err=(t.walk 1 0).2:=if_neg (fun hc=>hc h)
theorem terr_9{t:TmT}(h:¬t.what=1):t.err=9:=if_pos h
def Kl(r:QL×Int):AV:=.tup [.c (Q8 r.1),.c (.int .i64 r.2)]
theorem Dy:Xd (fun i=>some (i*1,1)) [AV.c (Q8 []),AV.c (Q8 [])] [(0,[AV.c (Q8 Hf)]),(1,[AV.c (Q8 MO)])]=some [AV.c (Q8 Hf),AV.c (Q8 MO)]:=rfl
section
variable {v:V}
theorem wk_0(h:v.kind=0):Kf v=([],0):=if_pos h
theorem wk_1(h0:¬v.kind=0)(h:v.kind=1):Kf v=(if v.bits=1 then MO else Hf,0):=(if_neg h0).trans (if_pos h)
theorem wk_2(h0:¬v.kind=0)(h1:¬v.kind=1)(h:v.kind=2)(hi:Yd v.bits=0):Kf v=(Wc (Yn v.bits),0):=(if_neg h0).trans ((if_neg h1).trans ((if_pos h).trans (if_pos hi)))
theorem wk_2n(h0:¬v.kind=0)(h1:¬v.kind=1)(h:v.kind=2)(hi:¬Yd v.bits=0):Kf v=([],81):=(if_neg h0).trans ((if_neg h1).trans ((if_pos h).trans (if_neg hi)))
theorem wk_3(h0:¬v.kind=0)(h1:¬v.kind=1)(h2:¬v.kind=2)(h:v.kind=3):Kf v=(v.text,0):=(if_neg h0).trans ((if_neg h1).trans ((if_neg h2).trans (if_pos h)))
theorem wk_n(h0:¬v.kind=0)(h1:¬v.kind=1)(h2:¬v.kind=2)(h:¬v.kind=3):Kf v=([],81):=(if_neg h0).trans ((if_neg h1).trans ((if_neg h2).trans (if_neg h)))
theorem wt_e(h:¬v.err=0):YS v=([],v.err):=if_pos h
theorem Cm(h:v.err=0){r:QL×Int}(hk:Kf v=r):YS v=r:=(if_neg (fun hc=>hc h)).trans hk
end
theorem TZ{v:V}(h:v.err=0)(hk:v.kind=1):v.bits≤1:=by
  have:=(V.fine_of h).part
  obtain⟨k,b,t,ks,is⟩:=v
  obtain rfl:k=1:=hk
  simp[Q7]at this
  exact this.1.1.1
theorem Cv{fr:Bool}{t:TmT}(hw:t.wf):Fn Tryz.prog 19 [.agg (t.cs fr)] (.c (.int .i64 t.err)):=by
  refine TU Tryz.func19 rfl Tryz.ntmps19 rfl fun w0 A0=>?_
  refine Zs (Qq (.r rfl) rfl fun b1=>JL.alloc z47 rfl rfl fun b2=>Zn (J.seq (Zs (Zd N0 rfl (Zq rfl (Qd 1 Uy (.r rfl) rfl TmT.at0) (Zq rfl (QW.neq (.r rfl) .const) (Zn ?_)))))))
  refine J.cond (.r rfl) (fun c1=>?_) (fun c1=>?_)
  · skip
    have h1:¬t.what=1:=by simpa using c1
    refine Zs (JL.store_box 0 U8 (.r rfl) rfl .const (by first|rfl|assumption) rfl rfl rfl rfl ?_)
    refine Zn (J.ret (thenQ.r ?_))
    exact retE.none [.k,.k] (RetEv.one rfl (QO 0 U8 rfl rfl rfl lr)) rfl ⟨(congrArg (fun n=>Wf.ret (.c (.int .i64 n))) (terr_9 h1).symm),rfl⟩
  have h1:t.what=1:=by simpa using c1
  refine Zk (Zs (Zq rfl (WH .nil (.cons (.r rfl) .nil)) (JL.defer rfl (.r rfl) (Zn (Zs (JL.alloc z3 rfl rfl fun b3=>JL.store_box 0 Uy (.r rfl) rfl .const (by first|rfl|assumption) rfl rfl rfl rfl ?_))))))
  refine Zn (Zs (Zq rfl (by first|exact Qe 2 UO (.r rfl) rfl rfl rfl|exact Qe 2 UO (.r rfl) rfl (Qn (TmT.cs_length _ _) rfl) (TmT.cs_length _ _)) ?_))
  refine Qm [.p] BY rfl Lent.nil (fun _=>(.cons (.r rfl) (.cons .const (.cons (.r rfl) .nil)))) (P0 _ (fr:=fr) (t:=t) (level:=1) (n0:=0) (b:=b3) hw (Nat.le_refl _) ⟨by decide,by decide⟩ ⟨by decide,by decide⟩) (.inl rfl) (fun k9 x9 o9 h9=>?_) (fun k9=>?_)
  rotate_left
  · skip
    refine thenQ.p ?_
    exact .inl ⟨_,_,[],[_],QC [.p,.k] _,_,rfl,rfl,BZ,Qj [.p,.k] _,DC.mono (Cu _ _ _) fun r u' o ⟨h1,h2,h3⟩=>by subst h1 h2 h3;exact⟨⟨_,rfl⟩,rfl,_,[],_,RetEv.one rfl (QO 0 U8 rfl rfl rfl lr),List.Perm.refl _,(congrArg (fun n=>Wf.ret (.c (.int .i64 n))) (F1 h1).symm),rfl⟩⟩
  obtain⟨rfl,rfl⟩:=h9
  refine Zn (Zs (JL.store_box 1 U8 (.r rfl) rfl .const (by first|rfl|assumption) rfl rfl rfl rfl ?_))
  refine Zn (J.ret ?_)
  exact .inl ⟨_,_,[],[_],QC [.k,.p,.k] _,_,rfl,rfl,BZ,Qj [.k,.p,.k] _,DC.mono (Ct _ _) fun r u' o ⟨h1,h2,h3⟩=>by subst h1 h2 h3;exact⟨⟨_,rfl⟩,rfl,_,[],_,RetEv.one rfl (QO 0 U8 rfl rfl rfl lr),List.Perm.refl _,(congrArg (fun n=>Wf.ret (.c (.int .i64 n))) ((F1 h1).trans k9).symm),rfl⟩⟩
theorem Rw{fr:Bool}{v:V}(hw:v.wf):Fn Tryz.prog 16 [.agg (v.cs fr)] (Kl (YS v)):=by
  obtain⟨vk,vb,vt,vks,vis⟩:=v
  obtain⟨-,hb64,-⟩:=hw.inv
  refine AC.of_J Tryz.func16 rfl Tryz.ntmps16 rfl fun w0 A0=>?_
  refine Zs (Qq (.r rfl) rfl fun b1=>Zq rfl (QW.assign .const) (Zq rfl (QW.assign .const) (Zn (J.seq (Zs (Zq rfl (by first|exact Qe 0 Ql (.r rfl) rfl rfl rfl|exact Qe 0 Ql (.r rfl) rfl (Qn vl rfl) vl) ?_))))))
  refine Zq rfl (QW.call X6 (.cons (.r rfl) .nil) (Yh (fr:=fr) (v:=.mk vk vb vt vks vis) Vc.self hw)) (Za rfl (Zn (Zs (Zm rfl (Zq rfl (QW.neq (.r rfl) .const) (Zn ?_))))))
  refine J.cond (.r rfl) (fun c1=>?_) (fun c1=>?_)
  · skip
    have he:¬(V.mk vk vb vt vks vis).err=0:=by simpa using c1
    exact Zs (Zm rfl (Zq rfl (QW.assign .const) (Za rfl (Zn (J.ret (thenQ.r (Zr [.k] (Qr rfl (REv.tmp rfl lr) (REv.tmp rfl lr)) rfl ⟨congrArg (fun r=>Wf.ret (Kl r)) (wt_e he).symm,rfl⟩)))))))
  have he:(V.mk vk vb vt vks vis).err=0:=by simpa using c1
  refine Zk (J.seq (Zs (Zd UW rfl (Zl 0 Uy rfl (Zn (J.block (Zs (Zq rfl (QW.eql (.r rfl) .const) (Za rfl ?_)))))))))
  refine Zn ?_
  refine J.cond (.r rfl) (fun c2=>?_) (fun c2=>?_)
  · skip
    have k0:vk=0:=by simpa using c2
    exact Zs (Zq rfl (QW.assign .const) (Zq rfl (QW.assign .const) (Zn (J.ret (blkQ.r (thenQ.r (Zr [.k] (Qr rfl (REv.tmp rfl lr) (REv.tmp rfl lr)) rfl ⟨congrArg (fun r=>Wf.ret (Kl r)) (Cm he (wk_0 k0)).symm,rfl⟩)))))))
  have k0:¬vk=0:=by simpa using c2
  refine Zs (Zq rfl (QW.eql (.r rfl) .const) (Za rfl (Zn ?_)))
  refine J.cond (.r rfl) (fun c3=>?_) (fun c3=>?_)
  · skip
    have k1:vk=1:=by simpa using c3
    have hb1:vb≤1:=TZ he k1
    refine Zs (Zq rfl (Nn (idx:=[0,1]) (sz:=1) (by kernel_rfl) z132 rfl (.cons .const (.cons .const .nil)) rfl rfl rfl Dy) ?_)
    refine Zd UD rfl (Zl 0 WK rfl (Zq rfl (DW (v:=.c (Q8 (if vb=1 then MO else Hf))) (ln:=2) (et:=9) (by kernel_rfl) U7 (.r rfl) (.r rfl) rfl (by omega) (by rcases(show vb=0∨vb=1 by omega)with rfl|rfl<;>rfl)) ?_))
    exact Za rfl (Zq rfl (QW.assign .const) (Zn (J.ret (blkQ.r (thenQ.r (Zr [.k] (Qr rfl (REv.tmp rfl lr) (REv.tmp rfl lr)) rfl ⟨congrArg (fun r=>Wf.ret (Kl r)) (Cm he (wk_1 k0 k1)).symm,rfl⟩))))))
  have k1:¬vk=1:=by simpa using c3
  refine Zs (Zq rfl (QW.eql (.r rfl) .const) (Za rfl (Zn ?_)))
  refine J.cond (.r rfl) (fun c4=>?_) (fun c4=>?_)
  · skip
    have k2:vk=2:=by simpa using c4
    refine Zs (Zd UD rfl (Zl 0 WK rfl (Zq rfl (QW.call B0 (.cons (.r rfl) .nil) (Nd vb hb64)) (Zm rfl (Zx rfl (Zx rfl (Za rfl (Za rfl (Zn ?_)))))))))
    refine Zs (Zm rfl (Zq rfl (QW.eql (.r rfl) .const) (Zn ?_)))
    refine J.cond (.r rfl) (fun c5=>?_) (fun c5=>?_)
    · skip
      have hi:Yd vb=0:=by(simp at c5;by_cases hc:Yd vb=0;exact hc;simp[hc]at c5)
      exact Zs (Zm rfl (Za rfl (Zq rfl (QW.assign .const) (Zn (J.ret (blkQ.r (thenQ.r (Zr [.k] (Qr rfl (REv.tmp rfl lr) (REv.tmp rfl lr)) rfl ⟨by rw[Cm he (wk_2 k0 k1 k2 hi)];show _=Wf.ret (Kl (Wc (Yn vb),0));rw[if_pos hi];rfl,rfl⟩))))))))
    have hi:¬Yd vb=0:=by(intro hc;simp[hc]at c5)
    exact J.skip (blkQ.n (thenQ.n (Zs (Zq rfl (QW.assign .const) (Zq rfl (QW.assign .const) (Zn (J.ret (Zr [.k] (Qr rfl (REv.tmp rfl lr) (REv.tmp rfl lr)) rfl ⟨congrArg (fun r=>Wf.ret (Kl r)) (Cm he (wk_2n k0 k1 k2 hi)).symm,rfl⟩))))))))
  have k2:¬vk=2:=by simpa using c4
  refine Zs (Zq rfl (QW.eql (.r rfl) .const) (Za rfl (Zn ?_)))
  refine J.cond (.r rfl) (fun c5=>?_) (fun c5=>?_)
  · skip
    have k3:vk=3:=by simpa using c5
    exact Zs (Zd Xb rfl (Zl 0 U7 rfl (Za rfl (Zq rfl (QW.assign .const) (Zn (J.ret (blkQ.r (thenQ.r (Zr [.k] (Qr rfl (REv.tmp rfl lr) (REv.tmp rfl lr)) rfl ⟨congrArg (fun r=>Wf.ret (Kl r)) (Cm he (wk_3 k0 k1 k2 k3)).symm,rfl⟩)))))))))
  have k3:¬vk=3:=by simpa using c5
  exact J.skip (blkQ.n (thenQ.n (Zs (Zq rfl (QW.assign .const) (Zq rfl (QW.assign .const) (Zn (J.ret (Zr [.k] (Qr rfl (REv.tmp rfl lr) (REv.tmp rfl lr)) rfl ⟨congrArg (fun r=>Wf.ret (Kl r)) (Cm he (wk_n k0 k1 k2 k3)).symm,rfl⟩))))))))

end
section
/- Walks: the renderer: what it reckons; words. -/
set_option maxRecDepth 10000
set_option maxHeartbeats 4000000
theorem Rz{e:EX}{s:ScT}{f:Int}{b:Nat}{fr:Bool}(hw:e.wf)(hf:e.Fine)(hs:s.good)(h0:G8 f):
    AC Tryz.prog 126 [mb b s f] [pb b,.agg (e.cs fr)] (EvS (e.ev s f) b s):=by
  obtain⟨⟨v,g,c⟩,hR⟩:∃p,Mv e s f=p:=⟨_,rfl⟩
  have hrun:=hR▸run_ok (fr:=fr) Xc.self hw hf hs h0
  refine AC.of_J Tryz.func126 rfl Tryz.ntmps126 rfl fun w0 A0=>?_
  refine Zs (Qq (.r rfl) rfl fun b3=>JL.alloc W6 rfl rfl fun b4=>Zn (J.seq (QY mixed (Zo 0 1 [] rfl (fun _ ho_=>by first|exact Qe 1 Q6 (.r rfl) ho_ rfl rfl|exact Qe 1 Q6 (.r rfl) ho_ (Qn xl rfl) xl) ?_))))
  refine Zf 1 [] rfl (fun _=>QW.move (.r rfl)) (Zf 2 [10] rfl (fun _=>WZ (.r rfl)) (Zf 3 [11] rfl (fun _=>Qg Ll (.r rfl) rfl) (Zo 4 2 [12] rfl (fun _ ho_=>Qe 2 ty120 (.r rfl) ho_ BD (Mk _)) (Zf 5 [] rfl (fun _=>QW.move (.r rfl)) (Zf 6 [14] rfl (fun _=>WZ (.r rfl)) (Zf 7 [15] rfl (fun _=>Qg E4 (.r rfl) rfl) (Zo 8 2 [16] rfl (fun _ ho_=>Qd 2 Uy (.r rfl) ho_ NG) (Zf 9 [9,13,17] rfl (fun _=>QW.call Qau (.cons (.r rfl) (.cons (.r rfl) (.cons (.r rfl) .nil))) (hrun)) (Zf 10 [18] rfl (fun _=>QW.move (.r rfl)) ?_)))))))))
  refine Zf 11 [8] rfl (fun _=>QW.extract (.r rfl) rfl) (Zf 12 [8] rfl (fun _=>QW.extract (.r rfl) rfl) (Zf 13 [8] rfl (fun _=>QW.extract (.r rfl) rfl) (JX.a 14 rfl (AllocOp.mk W6 rfl) rfl rfl rfl rfl rfl (JX.one 15 [true,false,false,true,true,true,true,true,true,true,true,true,true,true,true] rfl (by kernel_rfl) (by kernel_rfl) rfl rfl (by kernel_rfl) rfl fun bs15_ pe_ ex_=>?_))))
  refine JL.conv (by(try simp only[Ub,Uk,Q5,QV,Flt.val,Flt.bx,nx,nl,Qk,Qv,Qw,Qu,QZ,AV.cellsOf,Qb,Qc,Nat.reduceAdd]);rfl) ?_
  first|refine Qa 3 Ql (.r rfl) rfl (.r rfl) (by first|rfl|assumption) rfl rfl rfl ?_|refine Qa 3 Ql (.r rfl) rfl (.r rfl) (by first|rfl|assumption) rfl vl rfl ?_|refine Qa 3 Ql (.r rfl) rfl (.r rfl) (by first|rfl|assumption) vl rfl rfl ?_|refine Qa 3 Ql (.r rfl) rfl (.r rfl) (by first|rfl|assumption) vl vl rfl ?_|refine JL.store_box 3 Ql (.r rfl) rfl (.r rfl) (by first|rfl|assumption) rfl rfl rfl rfl ?_|refine JL.store_box 3 Ql (.r rfl) rfl (.r rfl) (by first|rfl|assumption) vl rfl rfl rfl ?_
  refine JL.nil ?_
  refine thenQ.n ⟨[],_,rfl,rfl,rfl,rfl,rfl,QJ 4 rfl,trivial,⟨trivial,⟨trivial,trivial⟩⟩,?_⟩
  refine JX.conv (S':=[15,14,11,10,9,8,7,6,5,4,3,2,1,0]) rfl (by(try simp only[QV]);rfl) (by(try simp only[Ub,Uk,Q5,QV,Flt.val,Flt.bx,nx,nl,Qk,Qv,Qw,Qu,QZ,AV.cellsOf,Qb,Qc,Nat.reduceAdd]);rfl) ?_
  refine Zf 16 [20] rfl (fun _=>QW.assign (.r rfl)) (Zf 17 [21] rfl (fun _=>QW.assign (.r rfl)) (JX.fin (by kernel_rfl) (by kernel_rfl) fun bs_=>?_))
  refine QX.conv (by(try simp only[Ub,Uk,Q5,QV,Flt.val,Flt.bx,nx,nl,Qk,Qv,Qw,Qu,QZ,AV.cellsOf,Qb,Qc,Nat.reduceAdd]);rfl) ?_
  refine thenQ.n (Zs (Zm rfl ?_))
  refine Qm [] Gk rfl Lent.nil (fun _=>(.cons (.r rfl) .nil)) (Y3 _) (.inl rfl) (fun k23 x23 o23 h23=>?_) (fun k23=>?_)
  rotate_left
  · skip
    refine thenQ.p ?_
    exact⟨_,QC [.k,.k,.k,.k] _,_,rfl,rfl,Qj [.k,.k,.k,.k] _,EvS.er (Sg hR k23) k23⟩
  obtain⟨rfl,rfl⟩:=h23
  refine Zn (J.seq ?_)
  obtain rfl:c=0:=k23
  have hv:=Bd (Yk e s f hf) hR
  refine Qf (Zm rfl (Zm rfl (Zu rfl (Zd E4 rfl (JL.store_box 2 Uy (.r rfl) rfl (.r rfl) rfl rfl (by rw[Gh];rfl) Er rfl ?_)))))
  refine Zn (Zs (Zq rfl (by first|exact Qe 3 Ql (.r rfl) rfl rfl rfl|exact Qe 3 Ql (.r rfl) rfl (Qn vl rfl) vl) ?_))
  first|refine Qa 0 Ql (.r rfl) rfl (.r rfl) (by first|rfl|assumption) rfl rfl rfl ?_|refine Qa 0 Ql (.r rfl) rfl (.r rfl) (by first|rfl|assumption) rfl vl rfl ?_|refine Qa 0 Ql (.r rfl) rfl (.r rfl) (by first|rfl|assumption) vl rfl rfl ?_|refine Qa 0 Ql (.r rfl) rfl (.r rfl) (by first|rfl|assumption) vl vl rfl ?_|refine JL.store_box 0 Ql (.r rfl) rfl (.r rfl) (by first|rfl|assumption) rfl rfl rfl rfl ?_|refine JL.store_box 0 Ql (.r rfl) rfl (.r rfl) (by first|rfl|assumption) vl rfl rfl rfl ?_
  exact Zn (J.ret (Zr [.k,.k,.p,.k] (RetEv.one rfl (by first|exact REv.cell 0 Ql rfl rfl rfl rfl lr|exact REv.cell 0 Ql rfl rfl (Qn vl rfl) vl lr)) rfl (EvS.ok hv)))
def WdS(r:ER QL)(b:Nat)(s:ScT):Wf→List Own→Prop:=PanR (Xh r=0) (WL (Xh r)) fun x o=>∃v f',r=.ok (v,f')∧x=.c (Q8 v)∧o=[mb b s f']
theorem WdS.ok{r:ER QL}{b:Nat}{s:ScT}{v:QL}{f':Int}(h:r=.ok (v,f')):WdS r b s (.ret (.c (Q8 v))) [mb b s f']:=.inl ⟨by rw[h];rfl,_,rfl,v,f',h,rfl,rfl⟩
theorem WdS.er{r:ER QL}{b:Nat}{s:ScT}{c:Int}(h:r=.error c)(hc:¬c=0):WdS r b s (.pan (.iface 47 (.int .i64 c))) []:=.inr ⟨by rw[h];exact hc,by rw[h];rfl,rfl⟩
theorem FQ{r:ER V}{c:Int}(h:r=.error c):W2 r=.error c:=by rw[h];rfl
theorem FP{r:ER V}{v:V}{f:Int}(h:r=.ok (v,f))(h2:¬(YS v).2=0):W2 r=.error (YS v).2:=by rw[h];exact if_neg h2
theorem Co{r:ER V}{v:V}{f:Int}(h:r=.ok (v,f))(h2:(YS v).2=0):W2 r=.ok ((YS v).1,f):=by rw[h];exact if_pos h2
theorem G9{e:EX}{s:ScT}{f:Int}{b:Nat}{fr:Bool}(hw:e.wf)(hf:e.Fine)(hs:s.good)(h0:G8 f):
    AC Tryz.prog 82 [mb b s f] [pb b,.agg (e.cs fr)] (WdS (W2 (e.ev s f)) b s):=by
  refine AC.of_J Tryz.func82 rfl Tryz.ntmps82 rfl fun w0 A0=>?_
  refine Zs (Qq (.r rfl) rfl fun b3=>Zq rfl (QW.assign .const) (Zn (Zs (Zm rfl (Zq rfl (by first|exact Qe 0 Q6 (.r rfl) rfl rfl rfl|exact Qe 0 Q6 (.r rfl) rfl (Qn xl rfl) xl) ?_)))))
  refine Qm [.k,.p] EV rfl Lent.nil (fun _=>(.cons (.r rfl) (.cons (.r rfl) .nil))) (Rz (fr:=fr) hw hf hs h0) (.inl rfl) (fun k10 x10 o10 h10=>?_) (fun k10=>?_)
  rotate_left
  · skip
    refine thenQ.p ?_
    exact⟨_,QC [.k] _,_,rfl,rfl,Qj [.k] _,WdS.er (FQ (UK k10)) k10⟩
  obtain⟨v10,f10,hv10,rfl,rfl⟩:=h10
  obtain⟨hgv,hfv⟩:=Hw hw hf hs h0 hv10
  refine Zq rfl (QW.call B3 (.cons (.r rfl) .nil) (Rw (fr:=true) (v:=v10) hgv.wf)) (Zm rfl (Zx rfl (Zx rfl (Za rfl (Za rfl (Zn (Zs (Zm rfl ?_))))))))
  refine Qm [] Gk rfl Lent.nil (fun _=>(.cons (.r rfl) .nil)) (Y3 _) (.inl rfl) (fun k15 x15 o15 h15=>?_) (fun k15=>?_)
  rotate_left
  · skip
    refine thenQ.p ?_
    exact⟨_,QC [.k,.k] _,_,rfl,rfl,Qj [.k,.k] _,WdS.er (FP hv10 k15) k15⟩
  obtain⟨rfl,rfl⟩:=h15
  exact Zn (Zs (Zm rfl (Za rfl (Zn (J.ret (Zr [.k,.p] (RetEv.one rfl (REv.tmp rfl lr)) rfl (WdS.ok (Co hv10 k15))))))))

end
section
/- Walks: the renderer: kids, from the parts. -/
set_option maxRecDepth 10000
set_option maxHeartbeats 4000000
def okQ(f:Int):Prop:=0≤f∧f≤4096
theorem okQ.F{f:Int}(h:okQ f):G8 f:=⟨h.1,Int.le_trans h.2 (by decide)⟩
def VkS(r:ER (List TrT))(b:Nat)(s:ScT):Wf→List Own→Prop:=PanR (Xh r=0) (WL (Xh r)) fun x o=>∃l f',r=.ok (l,f')∧x=.sl true false eTr (TrT.css true l)∧o=[mb b s f']
theorem VkS.ok{r:ER (List TrT)}{b:Nat}{s:ScT}{l:List TrT}{f':Int}(h:r=.ok (l,f')):VkS r b s (.ret (.sl true false eTr (TrT.css true l))) [mb b s f']:=.inl ⟨by rw[h];rfl,_,rfl,l,f',h,rfl,rfl⟩
theorem VkS.er{r:ER (List TrT)}{b:Nat}{s:ScT}{c:Int}(h:r=.error c)(hc:¬c=0):VkS r b s (.pan (.iface 47 (.int .i64 c))) []:=.inr ⟨by rw[h];exact hc,by rw[h];rfl,rfl⟩
def VeS(r:ER TrT)(b:Nat)(s:ScT):Wf→List Own→Prop:=PanR (Xh r=0) (WL (Xh r)) fun x o=>∃y f',r=.ok (y,f')∧x=.agg (y.cs true)∧o=[mb b s f']
theorem VeS.ok{r:ER TrT}{b:Nat}{s:ScT}{y:TrT}{f':Int}(h:r=.ok (y,f')):VeS r b s (.ret (.agg (y.cs true))) [mb b s f']:=.inl ⟨by rw[h];rfl,_,rfl,y,f',h,rfl,rfl⟩
theorem VeS.er{r:ER TrT}{b:Nat}{s:ScT}{c:Int}(h:r=.error c)(hc:¬c=0):VeS r b s (.pan (.iface 47 (.int .i64 c))) []:=.inr ⟨by rw[h];exact hc,by rw[h];rfl,rfl⟩
def Rm(n:Nat):Prop:=∀(t:TmT) (s:ScT) (f:Int) (b:Nat) (fr:Bool),t.sz≤n→t.wf→t.Fine→s.good→okQ f→AC Tryz.prog 130 [mb b s f] [pb b,.agg (t.cs fr)] (VkS (t.partE s f) b s)
def YC(ts:List TrT):ER (List TrT)→ER (List TrT)
  |.error c=>.error c
  |.ok (l,f)=>.ok (ts++l,f)
theorem M0(r:ER (List TrT)):r=YC [] r:=by rcases r with c|⟨l,f⟩<;>rfl
theorem C2{s:ScT}{ts:List TrT}{g:Int}:YC ts (QH [] s g)=.ok (ts,g):=by rw[QH];simp[YC]
theorem C1{l:List TmT}{s:ScT}{j:Nat}{ts a:List TrT}{g f1:Int}(hj:j<l.length)(h:l[j].partE s g=.ok (a,f1)):YC ts (QH (l.drop j) s g)=YC (ts++a) (QH (l.drop (j+1)) s f1):=by
  rw[List.drop_eq_getElem_cons hj,QH,h]
  show YC ts (US (QH (l.drop (j+1)) s f1) fun b f2=>.ok (a++b,f2))=_
  rcases QH (l.drop (j+1)) s f1 with c|⟨b,f2⟩
  · rfl
  · simp[YC,US]
theorem BK{l:List TmT}{s:ScT}{j:Nat}{ts:List TrT}{g c:Int}(hj:j<l.length)(h:l[j].partE s g=.error c):YC ts (QH (l.drop j) s g)=.error c:=by
  rw[List.drop_eq_getElem_cons hj,QH,h];rfl
theorem Lx{n:Nat}(ih:Rm n){l:List TmT}{s:ScT}{f:Int}{b:Nat}{fr:Bool}(h16:l.length≤16)(hn:∀x∈l,x.sz≤n)(hw:∀x∈l,x.wf)(hf:∀x∈l,x.Fine)(hs:s.good)(h0:okQ f):
    AC Tryz.prog 87 [mb b s f] [pb b,.sl fr false eTm (TmT.css fr l)] (VkS (QH l s f) b s):=by
  refine AC.of_J Tryz.func87 rfl Tryz.ntmps87 rfl fun w0 A0=>?_
  refine Zs (Zq rfl (QW.assign .const) (Zn (J.seq (Zs (Zm rfl (Zq rfl (by first|exact Qh Y5 (.r rfl) wl|exact Qh Y5 (.r rfl) (TmT.css_length _ _)|exact Qh Y5 (.r rfl) (SetT.css_length _ _)|exact Qh Y5 (.r rfl) (TrT.css_length _ _)|exact QF Y5 (.r rfl)|exact QW.len_nil Y5 (.r rfl)) ?_))))))
  refine Zq rfl (QW.move .const) (Zn (J.block (J.reown (Up eTr _) (Ua (ι:=Nat×Value×List TrT×Int) [0,7,8] (fun⟨j,v,ts,g⟩=>[(9,.c (.int .i64 (j:Int))),(4,.c v)]) (fun⟨j,v,ts,g⟩ oo=>List.set (List.set oo 1 (.arr v eTr (TrT.css true ts))) 0 (mb b s g)) (fun⟨j,v,ts,g⟩=>j≤l.length∧(ts.length:Int)+g≤f∧okQ g∧QH l s f=YC ts (QH (l.drop j) s g)) (fun⟨j,v,ts,g⟩=>l.length-j) ⟨0,.slice none 0 0,[],f⟩ (⟨Nat.zero_le _,by show((0:Nat):Int)+f≤f;omega,h0,M0 _⟩) (QQ (.cons rfl lr (.cons rfl lr (.cons rfl lr (.cons rfl lr (.cons rfl lr .nil))))) (Reown.refl _) (fun _ h=>by first|exact h|simp[h])) ?_))))
  intro⟨j,v,ts,g⟩ ⟨hj,hts,hg,hk⟩
  refine J.conv (by(try simp only[nl,Qk,Qv,Qw,Qu,QZ,AV.cellsOf,Qb,Qc,Nat.reduceAdd]);rfl) ?_
  refine Zs (Zq rfl (QW.lss (.r rfl) (.r rfl)) (Zn (J.seq ?_)))
  refine J.cond (.r rfl) (fun c1=>?_) (fun c1=>?_)
  · skip
    have hlt:j<l.length:=by simpa[TmT.css_length]using c1
    refine Zk (J.seq (J.block (Zs (Zq rfl (Qi Y5 UO rfl (.r rfl) (.r rfl) (by first|rfl|omega|(simp;done)) (by exact TmT.css_getE _ hlt)) ?_))))
    refine Zq rfl (by first|exact Qo UO (.r rfl) rfl rfl|exact Qo UO (.r rfl) (QI (TmT.cs_length _ _) rfl) (TmT.cs_length _ _)) ?_
    refine JL.alloc z40 rfl rfl fun b6=>?_
    first|refine Qa 0 UO (.r rfl) rfl (.r rfl) (by first|rfl|assumption) rfl rfl rfl ?_|refine Qa 0 UO (.r rfl) rfl (.r rfl) (by first|rfl|assumption) rfl (TmT.cs_length _ _) rfl ?_|refine Qa 0 UO (.r rfl) rfl (.r rfl) (by first|rfl|assumption) (TmT.cs_length _ _) rfl rfl ?_|refine Qa 0 UO (.r rfl) rfl (.r rfl) (by first|rfl|assumption) (TmT.cs_length _ _) (TmT.cs_length _ _) rfl ?_|refine JL.store_box 0 UO (.r rfl) rfl (.r rfl) (by first|rfl|assumption) rfl rfl rfl rfl ?_|refine JL.store_box 0 UO (.r rfl) rfl (.r rfl) (by first|rfl|assumption) (TmT.cs_length _ _) rfl rfl rfl ?_
    refine Zn (Qf (Zm rfl (Zm rfl (Zq rfl (by first|exact Qe 0 UO (.r rfl) rfl rfl rfl|exact Qe 0 UO (.r rfl) rfl (Qn (TmT.cs_length _ _) rfl) (TmT.cs_length _ _)) ?_))))
    refine Qm [.k,.p] QaA rfl Lent.nil (fun _=>(.cons (.r rfl) (.cons (.r rfl) .nil))) (ih l[j] s g b fr (hn _ (List.getElem_mem hlt)) (hw _ (List.getElem_mem hlt)) (hf _ (List.getElem_mem hlt)) hs hg) (.inl rfl) (fun k16 x16 o16 h16=>?_) (fun k16=>?_)
    rotate_left
    · skip
      refine blkQ.p (thenQ.p (thenQ.p (blkQ.p (thenQ.p ?_))))
      exact⟨_,QC [.k,.k] _,_,rfl,rfl,Qj [.k,.k] _,VkS.er (hk.trans (BK hlt (UK k16))) k16⟩
    obtain⟨v16,f16,hv16,rfl,rfl⟩:=h16
    obtain⟨-,hlv,hf0⟩:=K5 _ (hf _ (List.getElem_mem hlt)) (hw _ (List.getElem_mem hlt)) hs hg.1 hg.2 _ _ hv16
    refine JL.append 2 U0 QaT rfl (.r rfl) rfl (Wv U0 (.r rfl)) (by rw[TrT.css_length,TrT.css_length];show(_+_)*96≤_;unfold Qs;have:=h0.2;omega) rfl fun v17=>?_
    refine Za rfl (JL.nil (blkQ.n (thenQ.n (Qf (Zq rfl (QW.add (.r rfl) .const (by first|exact Wj (by first|rfl|omega|(simp;done)) (by omega)|exact Ym (by omega)|rfl)) ?_)))))
    refine Zm rfl (Zn ?_)
    rw[← TrT.css_append]
    exact⟨⟨j+1,v17,ts++v16,f16⟩,⟨hlt,by simp;omega,⟨hf0,by have:=hg.2;omega⟩,hk.trans (C1 hlt hv16)⟩,by show l.length-(j+1)<l.length-j;omega,QQ (.cons rfl lr (.cons rfl lr (.cons rfl lr (.cons rfl lr (.cons rfl lr .nil))))) (Q3 1 _ rfl) (fun _ h=>by first|exact h|simp[h])⟩
  have hge:l.length≤j:=by simpa[TmT.css_length]using c1
  rw[List.drop_of_length_le hge,C2]at hk
  refine J.exit (Qy (Qy (Q1 (thenQ.n (J.seq (J.closeArr 1 rfl (by rw[TrT.css_length];show _*96≤_;unfold Qs;have:=h0.2;have:=hg.1;omega) rfl (fun z hz=>by simp only[mb,QP,UT,Own.fp,List.append_nil,List.mem_singleton]at hz;subst hz;simp[mb,QP,Own.fp]) ?_))))))
  exact Qf (Zm rfl (Za rfl (Zn (J.ret (Zr [.p] (RetEv.one rfl (REv.tmp rfl (.fact (by simp) lr))) rfl (VkS.ok hk))))))

end
section
/- The sort of attributes by their names, by the kit's contract of slices.SortFunc. -/
set_option maxRecDepth 10000
set_option maxHeartbeats 4000000
open Go.Shelf Go.Lib Go.Sort
def RH:Go.Shelf.Ren:=⟨fun|6=>84|15=>128|14=>127|28=>178|29=>179|20=>170|21=>171|22=>172|23=>173|24=>174|25=>175|26=>176|27=>177|46=>211|47=>212|48=>213|49=>214|50=>215|57=>237|n=>n,fun|22=>43|24=>191|25=>194|3=>3|39=>247|0=>0|53=>289|55=>22|4=>4|46=>282|45=>281|50=>286|5=>5|9=>9|66=>312|70=>136|76=>333|77=>137|n=>n,fun|n=>n⟩
theorem Eb:Go.Proofs.SlLaysF0.n6 Tryz.prog RH:={
  mixed:=by kernel_rfl
  f6:=⟨Tryz.f84.name,by decide,Tryz.func84.trans (congrArg some (by kernel_rfl))⟩
  f14:=⟨Tryz.f127.name,by decide,Tryz.func127.trans (congrArg some (by kernel_rfl))⟩
  f15:=Tryz.func128.trans (congrArg some (by kernel_rfl))
  f20:=⟨Tryz.f170.name,by decide,Tryz.func170.trans (congrArg some (by kernel_rfl))⟩
  f21:=⟨Tryz.f171.name,by decide,Tryz.func171.trans (congrArg some (by kernel_rfl))⟩
  f22:=⟨Tryz.f172.name,by decide,Tryz.func172.trans (congrArg some (by kernel_rfl))⟩
  f23:=⟨Tryz.f173.name,by decide,Tryz.func173.trans (congrArg some (by kernel_rfl))⟩
  f24:=⟨Tryz.f174.name,by decide,Tryz.func174.trans (congrArg some (by kernel_rfl))⟩
  f25:=⟨Tryz.f175.name,by decide,Tryz.func175.trans (congrArg some (by kernel_rfl))⟩
  f26:=⟨Tryz.f176.name,by decide,Tryz.func176.trans (congrArg some (by kernel_rfl))⟩
  f27:=⟨Tryz.f177.name,by decide,Tryz.func177.trans (congrArg some (by kernel_rfl))⟩
  f28:=Tryz.func178.trans (congrArg some (by kernel_rfl))
  f29:=Tryz.func179.trans (congrArg some (by kernel_rfl))
  f46:=⟨Tryz.f211.name,by decide,Tryz.func211.trans (congrArg some (by kernel_rfl))⟩
  f47:=Tryz.func212.trans (congrArg some (by kernel_rfl))
  f48:=Tryz.func213.trans (congrArg some (by kernel_rfl))
  f49:=⟨Tryz.f214.name,by decide,Tryz.func214.trans (congrArg some (by kernel_rfl))⟩
  f50:=⟨Tryz.f215.name,by decide,Tryz.func215.trans (congrArg some (by kernel_rfl))⟩
  f57:=⟨Tryz.f237.name,by decide,Tryz.func237.trans (congrArg some (by kernel_rfl))⟩
  t0:=Tryz.underlying0
  a0:=Tryz.isAgg0
  z0:=Tryz.sizeOf0
  v0:=Tryz.zeroValue0
  t3:=Tryz.underlying3
  a3:=Tryz.isAgg3
  z3:=Tryz.sizeOf3
  v3:=Tryz.zeroValue3
  t4:=Tryz.underlying4
  a4:=Tryz.isAgg4
  z4:=Tryz.sizeOf4
  v4:=Tryz.zeroValue4
  t5:=Tryz.underlying5
  a5:=Tryz.isAgg5
  z5:=Tryz.sizeOf5
  v5:=Tryz.zeroValue5
  t9:=Tryz.underlying9
  a9:=Tryz.isAgg9
  z9:=Tryz.sizeOf9
  v9:=Tryz.zeroValue9
  t22:=Tryz.underlying43
  a22:=Tryz.isAgg43
  z22:=Tryz.sizeOf43
  v22:=Tryz.zeroValue43
  t25:=Tryz.underlying194
  a25:=Tryz.isAgg194
  z25:=Tryz.sizeOf194
  v25:=Tryz.zeroValue194
  t39:=Tryz.underlying247
  a39:=Tryz.isAgg247
  z39:=Tryz.sizeOf247
  v39:=Tryz.zeroValue247
  t45:=Tryz.underlying281
  a45:=Tryz.isAgg281
  z45:=Tryz.sizeOf281
  v45:=Tryz.zeroValue281
  t46:=Tryz.underlying282
  a46:=Tryz.isAgg282
  z46:=Tryz.sizeOf282
  v46:=Tryz.zeroValue282
  t50:=Tryz.underlying286
  a50:=Tryz.isAgg286
  z50:=Tryz.sizeOf286
  v50:=Tryz.zeroValue286
  t53:=Tryz.underlying289
  a53:=Tryz.isAgg289
  z53:=Tryz.sizeOf289
  v53:=Tryz.zeroValue289
  t55:=Tryz.underlying22
  a55:=Tryz.isAgg22
  z55:=Tryz.sizeOf22
  v55:=Tryz.zeroValue22
  t66:=Tryz.underlying312
  a66:=Tryz.isAgg312
  z66:=Tryz.sizeOf312
  v66:=Tryz.zeroValue312
  t70:=Tryz.underlying136
  a70:=Tryz.isAgg136
  z70:=Tryz.sizeOf136
  v70:=Tryz.zeroValue136
  t76:=Tryz.underlying333
  a76:=Tryz.isAgg333
  z76:=Tryz.sizeOf333
  v76:=Tryz.zeroValue333
  t77:=Tryz.underlying137
  a77:=Tryz.isAgg137
  z77:=Tryz.sizeOf137
  v77:=Tryz.zeroValue137}
theorem Dd(x:ByteArray)(W:World):Calls Tryz.prog 129 #[.string x] W fun e w'=>e=.returned (.bool false)∧w'=W:=by
  go_enter Tryz.func129,Tryz.ntmps129
  go_wp2
  go_ret
  exact⟨by simp,rfl⟩
theorem DG(x y:ByteArray)(W:World):Calls Tryz.prog 86 #[.string x,.string y] W fun e w'=>e=.returned (.int .i64 (XO x.toList y.toList))∧w'=W:=by
  have hcon:=fun z W'=>Dd z W'
  go_enter Tryz.func86,Tryz.ntmps86
  go_wp2_with (go_at_call 129;refine(hcon _ _).mono ?_;rintro e w' ⟨rfl,rfl⟩)
  all_goals go_ret
  all_goals (refine⟨?_,rfl⟩;unfold XO;rename_i h;first|(simp_all [WN];done)|(rcases GE x.toList y.toList with k|k|k<;>simp_all [GF]))
theorem Fs(a b c d:QL)(W:World):Calls Tryz.prog 85 #[.agg #[Q8 a,Q8 b],.agg #[Q8 c,Q8 d]] W fun e w'=>e=.returned (.int .i64 (XO a c))∧∃q os',w'=grow (W.drewN q) os':=by
  have hcon:=fun W'=>DG ⟨a.toArray⟩ ⟨c.toArray⟩ W'
  rw[UG,UG]at hcon
  generalize XO a c=r at hcon⊢
  go_enter Tryz.func85,Tryz.ntmps85
  go_wp2_with (go_at_call 86;refine(hcon _).mono ?_;rintro e w' ⟨rfl,rfl⟩)
  go_ret
  exact⟨rfl,0,_,by rw[alloc_eq_grow,alloc_eq_grow,grow_grow];rfl⟩
def Ki(a:AtT):List Value:=[Q8 a.name,Q8 a.value]
theorem SG(x y:AtT):ltOf (fun x y:AtT=>XO x.name y.name) x y=Op.bytesLess x.name y.name:=by
  unfold ltOf
  rw[Bool.eq_iff_iff,decide_eq_true_eq]
  exact cmpS_lt
theorem swoAt:SWO (ltOf fun x y:AtT=>XO x.name y.name) where
  irrefl x:=by rw[SG];exact GF _
  trans x y z h1 h2:=by rw[SG]at*;exact WW h1 h2
  ntrans x y z h1 h2:=by
    rw[SG]at*
    cases h3:Op.bytesLess x.name z.name with
    |false=>rfl
    |true=>
      rcases GE x.name y.name with k|k|k
      · rw[h1]at k;cases k
      · rw[← k,h3]at h2;cases h2
      · have:=WW k h3;rw[h2]at this;cases this
instance:Inhabited AtT:=⟨⟨[],[]⟩⟩
theorem Ce(a:AtT)(k:Nat):((Ki a)[k%2]!).oneCell'=true:=by
  rcases Nat.mod_two_eq_zero_or_one k with h|h<;>rw[h]<;>rfl
theorem N9:∀(l:List AtT) (t:Nat),t<l.length*2→(AtT.css l).flatten[t]? =some (.c ((Ki l[t / 2]!)[t%2]!))
  |a::r,0,_=>rfl
  |a::r,1,_=>rfl
  |a::r,t+2,h=>by
    have h1:=N9 r t (by simp only[List.length_cons]at h;omega)
    have h2:(t+2) / 2=t / 2+1:=by omega
    rw[h2,Nat.add_mod_right]
    show(a.cs++(AtT.css r).flatten)[t+2]? =_
    rw[List.getElem?_append_right (by show 2≤t+2;omega)]
    show(AtT.css r).flatten[t+2-2]? =_
    rw[Nat.add_sub_cancel,h1]
    rfl
theorem Pe(l:List AtT):(AtT.css l).flatten.length=l.length*2:=by
  induction l with
  |nil=>rfl
  |cons a r ih=>
    show(a.cs++(AtT.css r).flatten).length=_
    rw[List.length_append,ih,List.length_cons]
    show 2+r.length*2=_
    omega
theorem Hp.more{n0:Nat}{fp0:List Nat}{A0 A:QS}{own:List Own}{w w':World}(h:Hp n0 fp0 A0 own w A)(hk:Keep [] w w'):Hp n0 fp0 A0 own w' A:=
  ⟨h.mono,h.sup,h.sub,fun fr b hb=>Nat.lt_of_lt_of_le (h.lt fr b hb) hk.size,fun b hb=>let ⟨h1,h2,h3⟩:=h.fp b hb;⟨Nat.lt_of_lt_of_le h1 hk.size,h2,h3⟩,h.nodup,fun o ho=>
    (h.own o ho).move (fun _ _ h _=>h) (fun fr b _ hlt=>hk.block b hlt (by simp)) fun b hb=>hk.block b (h.fp b (Us ho hb)).1 (by simp)⟩
theorem F6{l:List AtT}(hl:l.length*32≤Qs)(v:Value):AC Tryz.prog 84 [.arr v Fp (AtT.css l)] [.c v,.c (.func (.func 85) #[] #[])] (YQ fun x o=>x=.tup []∧∃l',l.Perm l'∧FL l'∧o=[.arr v Fp (AtT.css l')]):=fun w A0 vs hp hargs=>by
  obtain⟨hsz,hrd⟩:=hargs
  have h0:=(hrd 0 _ rfl).eq
  have h1:=(hrd 1 _ rfl).eq
  obtain rfl:vs= #[v,.func (.func 85) #[] #[]]:=by
    apply Array.ext_getElem?
    intro i
    match i with
    |0=>rw[Array.getD_eq_getD_getElem?]at h0;rw[Array.getElem?_eq_getElem (by simp at hsz;omega)]at h0⊢;simpa using h0
    |1=>rw[Array.getD_eq_getD_getElem?]at h1;rw[Array.getElem?_eq_getElem (by simp at hsz;omega)]at h1⊢;simpa using h1
    |i+2=>rw[Array.getElem?_eq_none (by simp at hsz;omega),Array.getElem?_eq_none (by simp)]
  have hok:=hp.own _ (List.mem_cons_self)
  simp only[Own.ok]at hok
  by_cases hl0:l=[]
  · subst hl0
    obtain⟨a,c,rfl⟩:∃a c,v=.slice a 0 c:=by
      rcases hok with ⟨a,rfl,-⟩|⟨b,cap,us,t,rfl,-⟩
      · exact⟨_,_,rfl⟩
      · exact⟨_,_,rfl⟩
    refine(AnyF.slices_SortFunc_none Eb a c (.func (.func 85) #[] #[]) w).mono fun e w' ⟨he,hw⟩=>?_
    subst he hw
    exact⟨.ret (.tup []),_,A0,⟨_,rfl,rfl,[],.refl _,List.Pairwise.nil,rfl⟩,.refl _ _,hp,⟨_,rfl,.mk_tup rfl fun k y hk=>by cases hk⟩⟩
  rcases hok with ⟨a,rfl,hnil⟩|⟨b,cap,us,t,rfl,hb,hle,hrow,hel,hc⟩
  · exact absurd (by simpa[AtT.css]using hnil) hl0
  · have hlen:(AtT.css l).length=l.length:=AtT.css_length l
    have hn:l.length*2≤us.size:=by rw[hrow.size];show _≤(cap+1)*2;rw[hlen]at hle;omega
    have hlt:=X5 hb
    have hH:HoldsK Ki 2 w b 0 l.toArray:=fun j hj=>by
      have hj2:j<l.length*2:=by simpa using hj
      obtain⟨u,g1,g2,g3⟩:=hc j _ (N9 l j hj2)
      have hu:=g3.eq
      rw[get_flatK Ki 2 l.toArray j (by simpa using hj2)]
      refine⟨?_,by simp[World.frozen?,hb]⟩
      rw[KS hb,g1,hu]
      simp
    have hcall:=AnyQ.slices_SortFunc Eb 2 (fun w=>XI RB) (fun w=>Uo RB) Ki (fun _=>rfl) (fun x v hv=>by simp[Ki]at hv;rcases hv with rfl|rfl<;>rfl) (fun x y=>XO x.name y.name) swoAt 85 #[] b 0 (cap+1) l.toArray w
      (enters_of Tryz.func85 (by kernel_rfl) rfl) (fun _ _ _ _ x y=>Fs x.name x.value y.name y.value _) hH hlt (by simp;unfold Qs at hl;omega)
    rw[show l.toArray.size=(AtT.css l).length by simp[hlen]]at hcall
    refine hcall.mono fun e w' ⟨he,d',n,os,hpm,hst,hw⟩=>?_
    subst he hw
    obtain⟨p1,-,p3⟩:=hpm
    have hsz2:d'.size=l.length:=by simpa using p1
    have hpl:l.Perm d'.toList:=by
      have e1:d'.extract 0 (AtT.css l).length=d':=by rw[hlen,← hsz2];exact Array.extract_size
      have e2:l.toArray.extract 0 (AtT.css l).length=l.toArray:=by rw[hlen];simp
      rw[e1,e2]at p3
      simpa using p3.symm
    have hsrt:FL d'.toList:=by
      unfold FL
      rw[List.pairwise_iff_getElem]
      intro i j hi hj hij
      have:=hst i j (Nat.zero_le _) hij (by rw[hlen,← hsz2];simpa using hj)
      rw[SG]at this
      simp only[Array.length_toList]at hi hj
      simpa[getElem!_pos d' i hi,getElem!_pos d' j hj]using this
    have hF:(flatK Ki 2 d').size=l.length*2:=by rw[size_flatK,hsz2]
    obtain⟨us',hus⟩:∃us',us'=putCells id 0 (flatK Ki 2 d') us:=⟨_,rfl⟩
    have hs':us'.size=us.size:=by rw[hus,putCells];simp
    have hget:∀k,k<us.size→us'[k]? =some (if k<l.length*2 then(Ki d'.toList[k / 2]!)[k%2]! else us[k]!):=fun k hk=>by
      rw[hus,putCells,Array.getElem?_mapIdx,Array.getElem?_eq_getElem hk]
      simp only[Option.map_some,Nat.zero_le,true_and,Nat.zero_add,hF,Nat.sub_zero,id]
      congr 1
      by_cases h:k<l.length*2
      · have hk2:k / 2<d'.size:=by omega
        rw[if_pos h,if_pos h,get_flatK Ki 2 d' k (by rw[hsz2];exact h),getElem!_pos d' _ hk2,getElem!_pos d'.toList _ (by simpa using hk2)]
        simp
      · rw[if_neg h,if_neg h,getElem!_pos us k hk]
    obtain⟨w1,hw1⟩:∃w1,w1=mapBlock (Go.Sort.ahead w n) b (putCells id 0 (flatK Ki 2 d')):=⟨_,rfl⟩
    have hb1:w1.heap[b]? =some (.cells us' t (0,0)):=by
      rw[hw1,hus]
      show(w.heap.modify b _)[b]? =_
      rw[Array.getElem?_modify,if_pos rfl,hb];rfl
    have hk1:Keep [b] w w1:=by
      rw[hw1]
      refine⟨rfl,rfl,rfl,by show _≤(w.heap.modify b _).size;simp,fun k _ hk=>?_⟩
      show(w.heap.modify b _)[k]? =_
      rw[Array.getElem?_modify,if_neg (by simpa using fun h=>hk (by simp[h]))]
    have hz1:w1.heap.size=w.heap.size:=by rw[hw1];show(w.heap.modify b _).size=_;simp
    have hlen2:(AtT.css d'.toList).length=l.length:=by rw[AtT.css_length];simpa using hsz2
    have hnew:(Own.arr (.slice (some ⟨b,0,none⟩) (AtT.css l).length (cap+1)) Fp (AtT.css d'.toList)).ok w1 A0:=by
      simp only[Own.ok]
      refine .inr ⟨b,cap,us',t,by rw[hlen,hlen2],hb1,by rw[hlen2];rw[hlen]at hle;exact hle,⟨by rw[hs'];exact hrow.size,fun k u hu=>?_⟩,AtT.css_sz _,fun k y hk=>?_⟩
      · have hku:k<us.size:=by rw[← hs'];exact(Array.getElem?_eq_some_iff.1 hu).1
        rw[hget k hku]at hu
        cases hu
        split
        · exact Ce _ k
        · exact hrow.one k _ (by rw[getElem!_pos us k hku];exact Array.getElem?_eq_getElem hku)
      · have hkl:k<l.length*2:=by
          have:=(List.getElem?_eq_some_iff.1 hk).1
          rw[Pe]at this
          simpa[hsz2]using this
        rw[N9 _ _ (by simpa[hsz2]using hkl)]at hk
        cases hk
        refine⟨_,by rw[Nat.zero_add];exact hget k (by omega),?_,?_⟩
        · rw[if_pos hkl];exact Ce _ k
        · rw[if_pos hkl];exact .c _
    have hfp:(Own.arr (.slice (some ⟨b,0,none⟩) (AtT.css l).length (cap+1)) Fp (AtT.css l)).fp=[b]:=by
      rw[hlen]
      obtain⟨m,hm⟩:∃m,l.length=m+1:=⟨l.length-1,by have:=List.length_pos_iff.2 hl0;omega⟩
      rw[hm];rfl
    have hfps:UM [Own.arr (.slice (some ⟨b,0,none⟩) (AtT.css l).length (cap+1)) Fp (AtT.css l)]=[b]:=by simp[QP,UT,hfp]
    have hp1:=hp.upd (i:=0) (o':=.arr (.slice (some ⟨b,0,none⟩) (AtT.css l).length (cap+1)) Fp (AtT.css d'.toList)) rfl rfl (by rw[hfp];exact hk1) hz1 hnew
    have hk2:Keep [] w1 (grow w1 os):=⟨rfl,rfl,rfl,by rw[size_grow];omega,fun k hk _=>by show(w1.heap++os)[k]? =_;rw[Array.getElem?_append_left hk]⟩
    have hww:sortWorldK Ki 2 w b 0 n d' os=grow w1 os:=by rw[hw1];rfl
    rw[hww]
    exact⟨.ret (.tup []),_,A0,⟨_,rfl,rfl,d'.toList,hpl,hsrt,rfl⟩,(hfps▸hk1).trans hk2 (fun x hx=>by cases hx),hp1.more hk2,⟨_,rfl,.mk_tup rfl fun k y hk=>by cases hk⟩⟩

end
section
/- Walks: the renderer: an element. -/
set_option maxRecDepth 10000
set_option maxHeartbeats 4000000
def GG(ts:List AtT):ER (List AtT)→ER (List AtT)
  |.error c=>.error c
  |.ok (l,f)=>.ok (ts++l,f)
theorem C4(r:ER (List AtT)):r=GG [] r:=by rcases r with c|⟨l,f⟩<;>rfl
theorem PB{s:ScT}{ts:List AtT}{g:Int}:GG ts (Xi s [] g)=.ok (ts,g):=by rw[Xi];simp[GG]
theorem PA{a:List SetT}{s:ScT}{j:Nat}{ts:List AtT}{g f1:Int}{w:QL}(hj:j<a.length)(h:W2 (a[j].ex.ev s g)=.ok (w,f1)):GG ts (Xi s (a.drop j) g)=GG (ts++[⟨a[j].key,w⟩]) (Xi s (a.drop (j+1)) f1):=by
  rw[List.drop_eq_getElem_cons hj,Xi,h]
  show GG ts (US (Xi s (a.drop (j+1)) f1) fun b f2=>.ok (⟨a[j].key,w⟩::b,f2))=_
  rcases Xi s (a.drop (j+1)) f1 with c|⟨b,f2⟩
  · rfl
  · simp[GG,US]
theorem ats_bad{a:List SetT}{s:ScT}{j:Nat}{ts:List AtT}{g c:Int}(hj:j<a.length)(h:W2 (a[j].ex.ev s g)=.error c):GG ts (Xi s (a.drop j) g)=.error c:=by
  rw[List.drop_eq_getElem_cons hj,Xi,h];rfl
section
variable {t:QL} {k:EX} {a:List SetT} {q:ScT→Int→ER (List TrT)} {s:ScT} {f f1 f2 f3 c:Int} {key:QL} {ats:List AtT} {ks:List TrT}
theorem elem_w(h:W2 (k.ev s f)=.error c):YT t k a q s f=.error c:=by rw[YT,h];rfl
theorem elem_5(h:W2 (k.ev s f)=.ok (key,f1))(h2:16<key.length):YT t k a q s f=.error 5:=by rw[YT,h];exact if_pos h2
theorem DE(h:W2 (k.ev s f)=.ok (key,f1))(h2:¬16<key.length):YT t k a q s f=US (Xi s a f1) fun ats f2=>US (q s f2) fun ks f3=>.ok (.mk t key [] (HH ats) ks,f3):=by rw[YT,h];exact if_neg h2
theorem elem_a(h:W2 (k.ev s f)=.ok (key,f1))(h2:¬16<key.length)(h3:Xi s a f1=.error c):YT t k a q s f=.error c:=by rw[DE h h2,h3];rfl
theorem elem_k(h:W2 (k.ev s f)=.ok (key,f1))(h2:¬16<key.length)(h3:Xi s a f1=.ok (ats,f2))(h4:q s f2=.error c):YT t k a q s f=.error c:=by rw[DE h h2,h3];show US (q s f2) _=_;rw[h4];rfl
theorem elem_y(h:W2 (k.ev s f)=.ok (key,f1))(h2:¬16<key.length)(h3:Xi s a f1=.ok (ats,f2))(h4:q s f2=.ok (ks,f3)):YT t k a q s f=.ok (.mk t key [] (HH ats) ks,f3):=by rw[DE h h2,h3];show US (q s f2) _=_;rw[h4];rfl
end
theorem HE{n:Nat}(ih:Rm n){t:QL}{k x:EX}{a:List SetT}{l:List TmT}{s:ScT}{f:Int}{b:Nat}{fr:Bool}(hn:∀x∈l,x.sz≤n)(hw:(TmT.mk 1 t k x a l).wf)(hf:(TmT.mk 1 t k x a l).Fine)(hs:s.good)(h0:okQ f):
    AC Tryz.prog 45 [mb b s f] [pb b,.agg ((TmT.mk 1 t k x a l).cs fr)] (VeS (YT t k a (fun s f=>QH l s f) s f) b s):=by
  obtain⟨-,htw,hkw,hxw,haw,hws,hlw,hwl⟩:=hw.inv
  obtain⟨-,ha16,hl16,hkf,hxf,hsf,hlf⟩:=hf.inv
  obtain⟨-,-,-,hnd⟩:=Ra hf
  have hal:a.length≤9223372036854775805:=by omega
  refine AC.of_J Tryz.func45 rfl Tryz.ntmps45 rfl fun w0 A0=>?_
  refine Zs (Qq (.r rfl) rfl fun b3=>JL.alloc z46 rfl rfl fun b4=>Zn (J.seq (QY mixed (Zf 0 [] rfl (fun _=>Qg Dt (.r rfl) rfl) (Zo 1 1 [8] rfl (fun _ ho_=>Qd 1 U7 (.r rfl) ho_ TmT.at1) (Zf 2 [] rfl (fun _=>QW.move (.r rfl)) (Zf 3 [] rfl (fun _=>Qg Ds (.r rfl) rfl) ?_)))))))
  refine Zo 4 1 [11] rfl (fun _ ho_=>Qe 1 Q6 (.r rfl) ho_ Ls xl) (JX.a 7 rfl (AllocOp.mk z46 rfl) rfl rfl rfl rfl rfl (JX.one 5 [false,true,true,true,false,false] rfl (by kernel_rfl) (by kernel_rfl) rfl rfl (by kernel_rfl) rfl fun bs5_ pe_ ex_=>?_))
  refine JL.conv (by(try simp only[Ub,Uk,Q5,QV,Flt.val,Flt.bx,nx,nl,Qk,Qv,Qw,Qu,QZ,AV.cellsOf,Qb,Qc,Nat.reduceAdd]);rfl) ?_
  refine Qm [.k,.k,.p] Dq rfl Lent.nil (fun _=>(.cons (.r rfl) (.cons (.r rfl) .nil))) (G9 (fr:=fr) (b:=b) hkw hkf hs h0.F) (.inl rfl) (fun k13 x13 o13 h13=>?_) (fun k13=>?_)
  rotate_left
  · skip
    refine thenQ.p (thenQ.p ?_)
    exact⟨_,QC [.k,.k] _,_,rfl,rfl,Qj [.k,.k] _,VeS.er (elem_w (UK k13)) k13⟩
  obtain⟨v13,f13,hv13,rfl,rfl⟩:=h13
  refine JL.nil ?_
  refine thenQ.n ⟨[_],_,rfl,rfl,rfl,rfl,rfl,UZ 3 rfl rfl,⟨rfl,rfl⟩,⟨trivial,⟨rfl,⟨trivial,trivial⟩⟩⟩,?_⟩
  refine JX.conv (S':=[5,4,3,2]) rfl (by(try simp only[QV]);rfl) (by(try simp only[Ub,Uk,Q5,QV,Flt.val,Flt.bx,nx,nl,Qk,Qv,Qw,Qu,QZ,AV.cellsOf,Qb,Qc,Nat.reduceAdd]);rfl) ?_
  refine Zf 6 [9,13] rfl (fun _=>QW.build (idx:=[0,1]) CN z46 rfl (.cons (.r rfl) (.cons (.r rfl) .nil)) rfl rfl rfl rfl) (JX.one 8 [true,true,true,true] rfl (by kernel_rfl) (by kernel_rfl) rfl rfl (by kernel_rfl) rfl fun bs8_ pe_ ex_=>?_)
  refine JL.conv (by(try simp only[Ub,Uk,Q5,QV,Flt.val,Flt.bx,nx,nl,Qk,Qv,Qw,Qu,QZ,AV.cellsOf,Qb,Qc,Nat.reduceAdd]);rfl) ?_
  first|refine Qa 3 QT (.r rfl) rfl (.r rfl) (by first|rfl|assumption) rfl rfl rfl ?_|refine Qa 3 QT (.r rfl) rfl (.r rfl) (by first|rfl|assumption) rfl (TrT.cs_length _ _) rfl ?_|refine Qa 3 QT (.r rfl) rfl (.r rfl) (by first|rfl|assumption) (TrT.cs_length _ _) rfl rfl ?_|refine Qa 3 QT (.r rfl) rfl (.r rfl) (by first|rfl|assumption) (TrT.cs_length _ _) (TrT.cs_length _ _) rfl ?_|refine JL.store_box 3 QT (.r rfl) rfl (.r rfl) (by first|rfl|assumption) rfl rfl rfl rfl ?_|refine JL.store_box 3 QT (.r rfl) rfl (.r rfl) (by first|rfl|assumption) (TrT.cs_length _ _) rfl rfl rfl ?_
  refine JL.nil ?_
  refine thenQ.n ⟨[],_,rfl,rfl,rfl,rfl,rfl,QJ 4 rfl,trivial,trivial,?_⟩
  refine JX.conv (S':=[8,6,7,1,0,5,4,3,2]) rfl (by(try simp only[QV]);rfl) (by(try simp only[Ub,Uk,Q5,QV,Flt.val,Flt.bx,nx,nl,Qk,Qv,Qw,Qu,QZ,AV.cellsOf,Qb,Qc,Nat.reduceAdd]);rfl) ?_
  refine JX.fin (by kernel_rfl) (by kernel_rfl) fun bs_=>?_
  refine QX.conv (by(try simp only[Ub,Uk,Q5,QV,Flt.val,Flt.bx,nx,nl,Qk,Qv,Qw,Qu,QZ,AV.cellsOf,Qb,Qc,Nat.reduceAdd]);rfl) ?_
  refine thenQ.n (J.seq ?_)
  have hq:=XG hkf hkw hs hv13
  have hq13:okQ f13:=⟨hq.2.2,by have:=h0.2;omega⟩
  refine Qf (Zd LY rfl (Zl 3 U7 rfl (Zq rfl (Um Kq (.r rfl)) (Zq rfl (QW.leq (.r rfl) .const) ?_))))
  refine Qm [] Hr rfl Lent.nil (fun _=>(.cons (.r rfl) (.cons .const .nil))) (XH _ _) (.inl rfl) (fun k19 x19 o19 h19=>?_) (fun k19=>?_)
  rotate_left
  · skip
    refine thenQ.p ?_
    exact⟨_,QC [.k,.k,.k,.k] _,_,rfl,rfl,Qj [.k,.k,.k,.k] _,VeS.er (c:=5) (elem_5 hv13 (by simp at k19;omega)) (by decide)⟩
  obtain⟨rfl,rfl⟩:=h19
  refine Zn (J.seq (J.seq ?_))
  have h16:¬16<v13.length:=by simp at k19;omega
  refine Qf (Zd Gn rfl (Zq rfl (Qd 1 TY (.r rfl) rfl YG) (Zq rfl (by first|exact Qh W7 (.r rfl) wl|exact Qh W7 (.r rfl) (TmT.css_length _ _)|exact Qh W7 (.r rfl) (SetT.css_length _ _)|exact Qh W7 (.r rfl) (TrT.css_length _ _)|exact Qh W7 (.r rfl) (AtT.css_length _)|exact QF W7 (.r rfl)|exact QW.len_nil W7 (.r rfl)) ?_)))
  refine Zq rfl (QW.move .const) (Zn (J.block (J.reown (Up Fp _) (Ua (ι:=Nat×Value×List AtT×Int) [0,3,4,5,21,22] (fun⟨j,v,ats,g⟩=>[(23,.c (.int .i64 (j:Int)))]) (fun⟨j,v,ats,g⟩ oo=>List.set (List.set (List.set oo 4 (.arr v Fp (AtT.css ats))) 2 (mb b s g)) 3 (.box (bs8_ 7) [.c (Q8 t),.c (Q8 v13),.c (Q8 []),.c v,.c (.slice none 0 0)])) (fun⟨j,v,ats,g⟩=>j≤a.length∧ats.length=j∧okQ g∧Xi s a f13=GG ats (Xi s (a.drop j) g)) (fun⟨j,v,ats,g⟩=>a.length-j) ⟨0,.slice none 0 0,[],f13⟩ (⟨Nat.zero_le _,rfl,hq13,C4 _⟩) (QQ (.cons rfl lr (.cons rfl lr (.cons rfl lr (.cons rfl lr (.cons rfl lr (.cons rfl lr (.cons rfl lr .nil))))))) (Reown.refl _) (fun _ h=>by first|exact h|simp[h])) ?_))))
  intro⟨j,v,ats,g⟩ ⟨hj,hjl,hg,hk⟩
  refine J.conv (by(try simp only[nl,Qk,Qv,Qw,Qu,QZ,AV.cellsOf,Qb,Qc,Nat.reduceAdd]);rfl) ?_
  refine Zs (Zq rfl (QW.lss (.r rfl) (.r rfl)) (Zn (J.seq ?_)))
  refine J.cond (.r rfl) (fun c1=>?_) (fun c1=>?_)
  · skip
    have hlt:j<a.length:=by simpa[SetT.css_length,TmT.attrs]using c1
    refine Zk (J.seq (J.block (Zs (Zq rfl (Qi W7 U3 rfl (.r rfl) (.r rfl) (by first|rfl|omega|(simp;done)) (by exact SetT.css_getE _ hlt)) ?_))))
    refine Zq rfl (by first|exact Qo U3 (.r rfl) rfl rfl|exact Qo U3 (.r rfl) (QI (SetT.cs_length _ _) rfl) (SetT.cs_length _ _)) ?_
    refine JL.alloc FM rfl rfl fun b7=>?_
    first|refine Qa 0 U3 (.r rfl) rfl (.r rfl) (by first|rfl|assumption) rfl rfl rfl ?_|refine Qa 0 U3 (.r rfl) rfl (.r rfl) (by first|rfl|assumption) rfl (SetT.cs_length _ _) rfl ?_|refine Qa 0 U3 (.r rfl) rfl (.r rfl) (by first|rfl|assumption) (SetT.cs_length _ _) rfl rfl ?_|refine Qa 0 U3 (.r rfl) rfl (.r rfl) (by first|rfl|assumption) (SetT.cs_length _ _) (SetT.cs_length _ _) rfl ?_|refine JL.store_box 0 U3 (.r rfl) rfl (.r rfl) (by first|rfl|assumption) rfl rfl rfl rfl ?_|refine JL.store_box 0 U3 (.r rfl) rfl (.r rfl) (by first|rfl|assumption) (SetT.cs_length _ _) rfl rfl rfl ?_
    refine Zn (QY mixed (Zf 0 [] rfl (fun _=>Qg NY (.r rfl) rfl) (Zo 1 4 [27] rfl (fun _ ho_=>Qd 4 P3 (.r rfl) ho_ rfl) (Zf 2 [] rfl (fun _=>Qg Lm (.r rfl) rfl) (Zo 3 0 [29] rfl (fun _ ho_=>Qd 0 U7 (.r rfl) ho_ rfl) (Zf 4 [] rfl (fun _=>QW.move (.r rfl)) (Zf 5 [] rfl (fun _=>Qg E5 (.r rfl) rfl) (Zo 6 0 [32] rfl (fun _ ho_=>Qe 0 Q6 (.r rfl) ho_ SetT.at1 xl) (JX.one 7 [true,true,true,false,false,false,false] rfl (by kernel_rfl) (by kernel_rfl) rfl rfl (by kernel_rfl) rfl fun bs7_ pe_ ex_=>?_)))))))))
    refine JL.conv (by(try simp only[Ub,Uk,Q5,QV,Flt.val,Flt.bx,nx,nl,Qk,Qv,Qw,Qu,QZ,AV.cellsOf,Qb,Qc,Nat.reduceAdd]);rfl) ?_
    refine Qm [.k,.k,.k,.p] Dq rfl Lent.nil (fun _=>(.cons (.r rfl) (.cons (.r rfl) .nil))) (G9 (fr:=fr) (b:=b) (hws _ (List.getElem_mem hlt)).ex (hsf _ (List.getElem_mem hlt)) hs hg.F) (.inl rfl) (fun k34 x34 o34 h34=>?_) (fun k34=>?_)
    rotate_left
    · skip
      refine thenQ.p (blkQ.p (thenQ.p (thenQ.p (blkQ.p (thenQ.p ?_)))))
      exact⟨_,QC [.k,.k,.k,.k,.k] _,_,rfl,rfl,Qj [.k,.k,.k,.k,.k] _,VeS.er (elem_a hv13 h16 (hk.trans (ats_bad hlt (UK k34)))) k34⟩
    obtain⟨v34,f34,hv34,rfl,rfl⟩:=h34
    refine JL.nil ?_
    refine thenQ.n ⟨[_],_,rfl,rfl,rfl,rfl,rfl,UZ 6 rfl rfl,⟨rfl,rfl⟩,⟨rfl,⟨trivial,⟨rfl,⟨trivial,trivial⟩⟩⟩⟩,?_⟩
    refine JX.conv (S':=[7,6,5,4]) rfl (by(try simp only[QV]);rfl) (by(try simp only[Ub,Uk,Q5,QV,Flt.val,Flt.bx,nx,nl,Qk,Qv,Qw,Qu,QZ,AV.cellsOf,Qb,Qc,Nat.reduceAdd]);rfl) ?_
    refine Zf 8 [30,34] rfl (fun _=>QW.build (idx:=[0,1]) pl191 z191 rfl (.cons (.r rfl) (.cons (.r rfl) .nil)) rfl rfl rfl rfl) (Zf 9 [35] rfl (fun _=>QW.buildSlice (idx:=[0]) (xs:=[AtT.cs ⟨a[j].key,v34⟩]) XX el191 z191 rfl (.cons (.r rfl) .nil) rfl rfl rfl rfl rfl rfl rfl rfl rfl) (JX.one 10 [true,true,true,true,true,true] rfl (by kernel_rfl) (by kernel_rfl) rfl rfl (by kernel_rfl) rfl fun bs10_ pe_ ex_=>?_))
    refine JL.conv (by(try simp only[Ub,Uk,Q5,QV,Flt.val,Flt.bx,nx,nl,Qk,Qv,Qw,Qu,QZ,AV.cellsOf,Qb,Qc,Nat.reduceAdd]);rfl) ?_
    refine JL.append 5 XX el191 rfl (.r rfl) rfl (Wv XX (.r rfl)) (by rw[AtT.css_length];show(_+1)*32≤_;unfold Qs;omega) rfl fun v37=>?_
    refine JL.nil ?_
    refine thenQ.n ⟨[_],_,rfl,rfl,rfl,rfl,rfl,QJ 6 rfl,⟨rfl,rfl⟩,trivial,?_⟩
    refine JX.conv (S':=[10,9,8,3,2,1,0,7,6,5,4]) rfl (by(try simp only[QV]);rfl) (by(try simp only[Ub,Uk,Q5,QV,Flt.val,Flt.bx,nx,nl,Qk,Qv,Qw,Qu,QZ,AV.cellsOf,Qb,Qc,Nat.reduceAdd]);rfl) ?_
    refine Zf 11 [] rfl (fun _=>Qg NY (.r rfl) rfl) (JX.one 12 [true] rfl (by kernel_rfl) (by kernel_rfl) rfl rfl (by kernel_rfl) rfl fun bs12_ pe_ ex_=>?_)
    refine JL.conv (by(try simp only[Ub,Uk,Q5,QV,Flt.val,Flt.bx,nx,nl,Qk,Qv,Qw,Qu,QZ,AV.cellsOf,Qb,Qc,Nat.reduceAdd]);rfl) ?_
    refine JL.isSlice 5 rfl fun hs1=>JL.store_box 4 P3 (.r rfl) rfl (.r rfl) (by first|rfl|assumption) rfl rfl rfl rfl ?_
    refine JL.nil ?_
    refine thenQ.n ⟨[],_,rfl,rfl,rfl,rfl,rfl,QJ 6 rfl,trivial,trivial,?_⟩
    refine JX.conv (S':=[12,11,10,9,8,3,2,1,0,7,6,5,4]) rfl (by(try simp only[QV]);rfl) (by(try simp only[Ub,Uk,Q5,QV,Flt.val,Flt.bx,nx,nl,Qk,Qv,Qw,Qu,QZ,AV.cellsOf,Qb,Qc,Nat.reduceAdd]);rfl) ?_
    refine JX.fin (by kernel_rfl) (by kernel_rfl) fun bs_=>?_
    refine QX.conv (by(try simp only[Ub,Uk,Q5,QV,Flt.val,Flt.bx,nx,nl,Qk,Qv,Qw,Qu,QZ,AV.cellsOf,Qb,Qc,Nat.reduceAdd]);rfl) ?_
    refine blkQ.n (thenQ.n (Qf (Zq rfl (QW.add (.r rfl) .const (by first|exact Wj (by first|rfl|omega|(simp;done)) (by omega)|exact Ym (by omega)|rfl)) ?_)))
    refine Zm rfl (Zn ?_)
    rw[AtT.css_snoc]
    have hq34:=XG (hsf _ (List.getElem_mem hlt)) (hws _ (List.getElem_mem hlt)).ex hs hv34
    exact⟨⟨j+1,v37,ats++[⟨a[j].key,v34⟩],f34⟩,⟨hlt,by simp;omega,⟨hq34.2.2,by have:=hg.2;omega⟩,hk.trans (PA hlt hv34)⟩,by show a.length-(j+1)<a.length-j;omega,QQ (.cons rfl lr (.cons rfl lr (.cons rfl lr (.cons rfl lr (.cons rfl lr (.cons rfl lr (.cons rfl lr .nil))))))) (Q3 1 _ rfl) (fun _ h=>by first|exact h|simp[h])⟩
  have hge:a.length≤j:=by simpa[SetT.css_length,TmT.attrs]using c1
  rw[List.drop_of_length_le hge,PB]at hk
  refine J.exit (Qy (Qy (Q1 (thenQ.n (Zs (Zd NY rfl (Zl 3 P3 rfl (JL.callRF [.k,.k,.k,.k,.p] gofn84 rfl Lent.nil (fun _=>(.cons (.r rfl) (.cons .func .nil))) (F6 (l:=ats) (by omega) v) (.inl rfl) fun x42 o42 h42=>?_))))))))
  obtain⟨rfl,l2,hpm,hsr,rfl⟩:=h42
  refine Zn (Zs (Zm rfl (Zd KA rfl (Zq rfl (Qd 1 RA (.r rfl) rfl YF) ?_))))
  refine Qm [.k,.k,.p] Dp rfl Lent.nil (fun _=>(.cons (.r rfl) (.cons (.r rfl) .nil))) (Lx (fr:=fr) ih hl16 hn hwl hlf hs hg) (.inl rfl) (fun k46 x46 o46 h46=>?_) (fun k46=>?_)
  rotate_left
  · skip
    refine thenQ.p ?_
    exact⟨_,QC [.k,.k,.k,.k] _,_,rfl,rfl,Qj [.k,.k,.k,.k] _,VeS.er (elem_k hv13 h16 hk (UK k46)) k46⟩
  obtain⟨v46,f46,hv46,rfl,rfl⟩:=h46
  refine Zd Xa rfl (JL.store_box 3 Ly (.r rfl) rfl (.r rfl) (by first|rfl|assumption) rfl rfl rfl rfl ?_)
  refine Zn (J.seq ?_)
  obtain rfl:=Ny hpm (by rw[(L8 hs hsf hws hq13.1 hk).1];exact X2.1 hnd) hsr
  refine J.closeArr 4 rfl (by rw[AtT.css_length,Gv];show _*32≤_;unfold Qs;omega) rfl (fun z hz=>by simp only[mb,QP,UT,Own.fp,List.append_nil,List.mem_singleton]at hz;subst hz;simp[mb,QP,Own.fp,QZ]) ?_
  refine Qf (Zq rfl (by first|exact Qe 3 QT (.r rfl) rfl rfl rfl|exact Qe 3 QT (.r rfl) rfl (Qn (TrT.cs_length _ _) rfl) (TrT.cs_length _ _)) ?_)
  first|refine Qa 0 QT (.r rfl) rfl (.r rfl) (by first|rfl|assumption) rfl rfl rfl ?_|refine Qa 0 QT (.r rfl) rfl (.r rfl) (by first|rfl|assumption) rfl (TrT.cs_length _ _) rfl ?_|refine Qa 0 QT (.r rfl) rfl (.r rfl) (by first|rfl|assumption) (TrT.cs_length _ _) rfl rfl ?_|refine Qa 0 QT (.r rfl) rfl (.r rfl) (by first|rfl|assumption) (TrT.cs_length _ _) (TrT.cs_length _ _) rfl ?_|refine JL.store_box 0 QT (.r rfl) rfl (.r rfl) (by first|rfl|assumption) rfl rfl rfl rfl ?_|refine JL.store_box 0 QT (.r rfl) rfl (.r rfl) (by first|rfl|assumption) (TrT.cs_length _ _) rfl rfl rfl ?_
  exact Zn (J.ret (Zr [.k,.k,.p,.k] (RetEv.one rfl (by first|exact REv.cell 0 QT rfl rfl rfl rfl (.aggL (.cons lr (.cons lr (.cons lr (.cons (.fact (by simp) lr) (.cons lr .nil))))))|exact REv.cell 0 QT rfl rfl (Qn (TrT.cs_length _ _) rfl) (TrT.cs_length _ _) (.aggL (.cons lr (.cons lr (.cons lr (.cons (.fact (by simp) lr) (.cons lr .nil)))))))) rfl (VeS.ok (elem_y hv13 h16 hk hv46))))

end
section
/- Walks: the renderer: a part. -/
set_option maxRecDepth 10000
set_option maxHeartbeats 4000000
section
variable {w:Int} {t:QL} {k x:EX} {a:List SetT} {l:List TmT} {s:ScT} {f f1 c:Int}
theorem Bo(h:w=1):(TmT.mk w t k x a l).partE s f=US (YT t k a (fun s f=>QH l s f) s f) fun y f1=>.ok ([y],f1):=by rw[TmT.partE,if_pos h]
theorem Bn(h:w=2):(TmT.mk w t k x a l).partE s f=US (W2 (x.ev s f)) fun y f1=>.ok ([.txt y],f1):=by rw[TmT.partE,if_neg (by omega),if_pos h]
theorem part_x(h:¬w=1)(h2:¬w=2)(h3:x.ev s f=.error c):(TmT.mk w t k x a l).partE s f=.error c:=by rw[TmT.partE,if_neg h,if_neg h2,h3];rfl
theorem LJ{v:V}(h:¬w=1)(h2:¬w=2)(h3:x.ev s f=.ok (v,f1)):(TmT.mk w t k x a l).partE s f=if w=3 then(if(Yo v).2≠0 then .error (Yo v).2 else if(Yo v).1 then QH l s f1 else .ok ([],f1))
      else if v.kind=4 then WI (fun y f=>QH l {s with it:=y} f) v.items f1 else .error 81:=by rw[TmT.partE,if_neg h,if_neg h2,h3];rfl
theorem So{v:V}(h:w=3)(h3:x.ev s f=.ok (v,f1))(h4:¬(Yo v).2=0):(TmT.mk w t k x a l).partE s f=.error (Yo v).2:=by rw[LJ (by omega) (by omega) h3,if_pos h,if_pos h4]
theorem Eh{v:V}(h:w=3)(h3:x.ev s f=.ok (v,f1))(h4:(Yo v).2=0)(h5:(Yo v).1=true):(TmT.mk w t k x a l).partE s f=QH l s f1:=by rw[LJ (by omega) (by omega) h3,if_pos h,if_neg (fun hc=>hc h4),if_pos h5]
theorem Sn{v:V}(h:w=3)(h3:x.ev s f=.ok (v,f1))(h4:(Yo v).2=0)(h5:(Yo v).1=false):(TmT.mk w t k x a l).partE s f=.ok ([],f1):=by rw[LJ (by omega) (by omega) h3,if_pos h,if_neg (fun hc=>hc h4),if_neg (by simp[h5])]
theorem Sm{v:V}(h:¬w=1)(h2:¬w=2)(h0:¬w=3)(h3:x.ev s f=.ok (v,f1))(h4:¬v.kind=4):(TmT.mk w t k x a l).partE s f=.error 81:=by rw[LJ h h2 h3,if_neg h0,if_neg h4]
theorem Eg{v:V}(h:¬w=1)(h2:¬w=2)(h0:¬w=3)(h3:x.ev s f=.ok (v,f1))(h4:v.kind=4):(TmT.mk w t k x a l).partE s f=WI (fun y f=>QH l {s with it:=y} f) v.items f1:=by rw[LJ h h2 h3,if_neg h0,if_pos h4]
end
theorem Pz{α β:Type}{r:ER α}{q:α→Int→ER β}{c:Int}(h:r=.error c):US r q=.error c:=by rw[h];rfl
theorem Py{α β:Type}{r:ER α}{q:α→Int→ER β}{v:α}{f:Int}(h:r=.ok (v,f)):US r q=q v f:=by rw[h];rfl
theorem Yc{F:List (Value×AV)}{fr:Bool}{e:Wr}{xs:List (List AV)}(hs:∀y∈xs,y.length=e.sz):Le F (.sl fr true e xs) (.sl fr false e xs):=.sl id (fun h=>by cases h) rfl hs (fun k x y hx hy=>by rw[hx]at hy;cases hy;exact .refl _) rfl
section
variable {g:V→Int→ER (List TrT)} {is:List V} {j:Nat} {ts a:List TrT} {f f1 c:Int}
theorem Fo:YC ts (WI g [] f)=.ok (ts,f):=by rw[WI];simp[YC]
theorem Fm(hj:j<is.length)(h:g is[j] f=.ok (a,f1)):YC ts (WI g (is.drop j) f)=YC (ts++a) (WI g (is.drop (j+1)) f1):=by
  rw[List.drop_eq_getElem_cons hj,WI,h]
  show YC ts (US (WI g (is.drop (j+1)) f1) fun b f2=>.ok (a++b,f2))=_
  rcases WI g (is.drop (j+1)) f1 with c|⟨b,f2⟩
  · rfl
  · simp[YC,US]
theorem Ps(hj:j<is.length)(h:g is[j] f=.error c):YC ts (WI g (is.drop j) f)=.error c:=by
  rw[List.drop_eq_getElem_cons hj,WI,h];rfl
end
theorem P1:∀(n:Nat),Rm n:=by
  intro n
  induction n with
  |zero=>intro t s f b fr h;exact absurd h (by have:=t.sz_pos;omega)
  |succ n ih=>
    intro t s f b fr hn hw hf hs h0
    obtain⟨w,tg,k,x,a,l⟩:=t
    obtain⟨-,htw,hkw,hxw,haw,hws,hlw,hwl⟩:=hw.inv
    obtain⟨-,ha16,hl16,hkf,hxf,hsf,hlf⟩:=hf.inv
    have hkn:∀y∈l,y.sz≤n:=fun y hy=>by
      have:=TmT.szs_mem hy
      unfold TmT.sz at hn;omega
    refine AC.of_J Tryz.func130 rfl Tryz.ntmps130 rfl fun w0 A0=>?_
    refine Zs (Qq (.r rfl) rfl fun b3=>Zq rfl (QW.assign .const) (Zn (J.seq (Zs (Zd N0 rfl (Zq rfl (Qd 0 Uy (.r rfl) rfl TmT.at0) (Zn (J.block ?_))))))))
    refine Zs (Zq rfl (QW.eql (.r rfl) .const) (Za rfl (Zn ?_)))
    refine J.cond (.r rfl) (fun c1=>?_) (fun c1=>?_)
    · skip
      have w1:w=1:=by simpa[TmT.what]using c1
      subst w1
      refine Zs (Zm rfl (Zq rfl (by first|exact Qe 0 UO (.r rfl) rfl rfl rfl|exact Qe 0 UO (.r rfl) rfl (Qn (TmT.cs_length _ _) rfl) (TmT.cs_length _ _)) ?_))
      refine Qm [.k,.p] B1 rfl Lent.nil (fun _=>(.cons (.r rfl) (.cons (.r rfl) .nil))) (HE (fr:=fr) ih hkn hw hf hs h0) (.inl rfl) (fun k17 x17 o17 h17=>?_) (fun k17=>?_)
      rotate_left
      · skip
        refine thenQ.p (blkQ.p (thenQ.p ?_))
        exact⟨_,QC [.k] _,_,rfl,rfl,Qj [.k] _,VkS.er ((Bo rfl).trans (Pz (UK k17))) k17⟩
      obtain⟨v17,f17,hv17,rfl,rfl⟩:=h17
      refine Zq rfl (QW.buildSlice (idx:=[0]) (xs:=[TrT.cs true v17]) U0 QaT z46 rfl (.cons (.r rfl) .nil) rfl rfl rfl rfl rfl (by exact Ln (TrT.cs_length _ _)) rfl (Re (TrT.cs_length _ _)) rfl) ?_
      exact Za rfl (Zn (J.ret (blkQ.r (thenQ.r (Zr [.k,.p] (RetEv.one rfl (REv.tmp rfl (Yc (TrT.css_sz true [v17])))) rfl (VkS.ok ((Bo rfl).trans (Py hv17))))))))
    have w1:¬w=1:=by simpa[TmT.what]using c1
    refine Zs (Zq rfl (QW.eql (.r rfl) .const) (Za rfl (Zn ?_)))
    refine J.cond (.r rfl) (fun c2=>?_) (fun c2=>?_)
    · skip
      have w2:w=2:=by simpa[TmT.what]using c2
      refine Zs (Zm rfl (Zd NZ rfl (Zq rfl (Qe 0 Q6 (.r rfl) rfl G2 xl) ?_)))
      refine Qm [.k,.p] Dq rfl Lent.nil (fun _=>(.cons (.r rfl) (.cons (.r rfl) .nil))) (G9 (fr:=fr) (b:=b) hxw hxf hs h0.F) (.inl rfl) (fun k24 x24 o24 h24=>?_) (fun k24=>?_)
      rotate_left
      · skip
        refine thenQ.p (blkQ.p (thenQ.p ?_))
        exact⟨_,QC [.k] _,_,rfl,rfl,Qj [.k] _,VkS.er ((Bn w2).trans (Pz (UK k24))) k24⟩
      obtain⟨v24,f24,hv24,rfl,rfl⟩:=h24
      exact Zq rfl (QW.build (idx:=[2]) CN z46 rfl (.cons (.r rfl) .nil) rfl rfl rfl rfl) (Zq rfl (QW.buildSlice (xs:=[TrT.cs true (.txt v24)]) (idx:=[0]) U0 QaT z46 rfl (.cons (Ev.le (y:=.agg [AV.c (Q8 []),AV.c (Q8 []),AV.c (Q8 v24),AV.c (.slice none 0 0),AV.c (.slice none 0 0)]) (z:=.agg (TrT.cs true (.txt v24))) (.r rfl) (.aggL (.cons lr (.cons lr (.cons lr (.cons (.nil true false _) (.cons (.nil true false _) .nil))))))) .nil) rfl rfl rfl rfl rfl rfl rfl rfl rfl) (Za rfl (Zn (J.ret (blkQ.r (thenQ.r (Zr [.k,.p] (RetEv.one rfl (REv.tmp rfl (Yc (TrT.css_sz true [.txt v24])))) rfl (VkS.ok ((Bn w2).trans (Py hv24))))))))))
    have w2:¬w=2:=by simpa[TmT.what]using c2
    refine J.skip (blkQ.n (thenQ.n (Zs (Zm rfl (Zd NZ rfl (Zq rfl (Qe 0 Q6 (.r rfl) rfl G2 xl) ?_))))))
    refine Qm [.k,.p] EV rfl Lent.nil (fun _=>(.cons (.r rfl) (.cons (.r rfl) .nil))) (Rz (fr:=fr) (b:=b) hxw hxf hs h0.F) (.inl rfl) (fun k30 x30 o30 h30=>?_) (fun k30=>?_)
    rotate_left
    · skip
      refine thenQ.p ?_
      exact⟨_,QC [.k] _,_,rfl,rfl,Qj [.k] _,VkS.er (part_x w1 w2 (UK k30)) k30⟩
    obtain⟨v30,f30,hv30,rfl,rfl⟩:=h30
    refine JL.alloc W6 rfl rfl fun b5=>?_
    first|refine Qa 0 Ql (.r rfl) rfl (.r rfl) (by first|rfl|assumption) rfl rfl rfl ?_|refine Qa 0 Ql (.r rfl) rfl (.r rfl) (by first|rfl|assumption) rfl vl rfl ?_|refine Qa 0 Ql (.r rfl) rfl (.r rfl) (by first|rfl|assumption) vl rfl rfl ?_|refine Qa 0 Ql (.r rfl) rfl (.r rfl) (by first|rfl|assumption) vl vl rfl ?_|refine JL.store_box 0 Ql (.r rfl) rfl (.r rfl) (by first|rfl|assumption) rfl rfl rfl rfl ?_|refine JL.store_box 0 Ql (.r rfl) rfl (.r rfl) (by first|rfl|assumption) vl rfl rfl rfl ?_
    refine Zn (J.seq (J.seq ?_))
    obtain⟨hgv,hfl,hfn⟩:=(UJ x s f hxf hxw hs).fuel hv30
    have hq30:okQ f30:=⟨hfn,by have:=h0.2;omega⟩
    obtain⟨vk,vb,vt,vks,vis⟩:=v30
    have hvl:vis.length≤9223372036854775805:=by(have:=hgv.wf.inv.2.2.2.2;unfold Qs at this;omega)
    refine Qf (Zd N0 rfl (Zq rfl (Qd 1 Uy (.r rfl) rfl TmT.at0) (Zq rfl (QW.eql (.r rfl) .const) (Zn ?_))))
    refine J.cond (.r rfl) (fun c3=>?_) (fun c3=>?_)
    · skip
      have w3:w=3:=by simpa[TmT.what]using c3
      refine Zs (Zq rfl (by first|exact Qe 0 Ql (.r rfl) rfl rfl rfl|exact Qe 0 Ql (.r rfl) rfl (Qn vl rfl) vl) ?_)
      refine Zq rfl (QW.call Qat (.cons (.r rfl) .nil) (Pm Vc.self hgv.wf)) (Zm rfl (Zx rfl (Zx rfl (Za rfl (Za rfl (Zn (Zs (Zm rfl ?_))))))))
      refine Qm [] Gk rfl Lent.nil (fun _=>(.cons (.r rfl) .nil)) (Y3 _) (.inl rfl) (fun k40 x40 o40 h40=>?_) (fun k40=>?_)
      rotate_left
      · skip
        refine thenQ.p (thenQ.p ?_)
        exact⟨_,QC [.k,.k,.k] _,_,rfl,rfl,Qj [.k,.k,.k] _,VkS.er (So w3 hv30 k40) k40⟩
      obtain⟨rfl,rfl⟩:=h40
      refine Zn (J.seq (Zs (Zm rfl (Zn ?_))))
      refine J.cond (.r rfl) (fun c4=>?_) (fun c4=>?_)
      · skip
        have htr:(Yo (.mk vk vb vt vks vis)).1=true:=c4
        refine Zs (Zm rfl (Zd KA rfl (Zq rfl (Qd 1 RA (.r rfl) rfl YF) ?_)))
        refine Qm [.k,.k,.p] Dp rfl Lent.nil (fun _=>(.cons (.r rfl) (.cons (.r rfl) .nil))) (Lx (fr:=fr) ih hl16 hkn hwl hlf hs hq30) (.inl rfl) (fun k45 x45 o45 h45=>?_) (fun k45=>?_)
        rotate_left
        · skip
          refine thenQ.p (thenQ.p (thenQ.p ?_))
          exact⟨_,QC [.k,.k] _,_,rfl,rfl,Qj [.k,.k] _,VkS.er ((Eh w3 hv30 k40 htr).trans (UK k45)) k45⟩
        obtain⟨v45,f45,hv45,rfl,rfl⟩:=h45
        exact Za rfl (Zn (J.ret (thenQ.r (thenQ.r (Zr [.k,.k,.p] (RetEv.one rfl (REv.tmp rfl lr)) rfl (VkS.ok ((Eh w3 hv30 k40 htr).trans hv45)))))))
      have htr:(Yo (.mk vk vb vt vks vis)).1=false:=by simpa using c4
      exact Zk (Zs (Zq rfl (QW.assign .const) (Zn (J.ret (thenQ.r (Zr [.k,.k,.p] (RetEv.one rfl (REv.tmp rfl (.nil true false eTr))) rfl (VkS.ok (l:=[]) (Sn w3 hv30 k40 htr))))))))
    have w3:¬w=3:=by simpa[TmT.what]using c3
    refine Zk (Zs (Zd UW rfl (Zl 0 Uy rfl (Zq rfl (QW.eql (.r rfl) .const) ?_))))
    refine Qm [] Hr rfl Lent.nil (fun _=>(.cons (.r rfl) (.cons .const .nil))) (XH _ _) (.inl rfl) (fun k49 x49 o49 h49=>?_) (fun k49=>?_)
    rotate_left
    · skip
      refine thenQ.p ?_
      exact⟨_,QC [.k,.k,.k] _,_,rfl,rfl,Qj [.k,.k,.k] _,VkS.er (c:=81) (Sm w1 w2 w3 hv30 (by simpa[V.kind]using k49)) (by decide)⟩
    obtain⟨rfl,rfl⟩:=h49
    refine Zn (Zs (Zm rfl (Zu rfl (Zd Ll rfl (Zd Xu rfl (Zq rfl (Qe 2 Ql (.r rfl) rfl (RW 2) vl) (JL.alloc W6 rfl rfl fun b8=>?_)))))))
    first|refine Qa 0 Ql (.r rfl) rfl (.r rfl) (by first|rfl|assumption) rfl rfl rfl ?_|refine Qa 0 Ql (.r rfl) rfl (.r rfl) (by first|rfl|assumption) rfl vl rfl ?_|refine Qa 0 Ql (.r rfl) rfl (.r rfl) (by first|rfl|assumption) vl rfl rfl ?_|refine Qa 0 Ql (.r rfl) rfl (.r rfl) (by first|rfl|assumption) vl vl rfl ?_|refine JL.store_box 0 Ql (.r rfl) rfl (.r rfl) (by first|rfl|assumption) rfl rfl rfl rfl ?_|refine JL.store_box 0 Ql (.r rfl) rfl (.r rfl) (by first|rfl|assumption) vl rfl rfl rfl ?_
    refine Zn (J.seq (Zs (Zd Uu rfl (Zl 1 WJ rfl (Zq rfl (by first|exact Qh QR (.r rfl) wl|exact Qh QR (.r rfl) (TmT.css_length _ _)|exact Qh QR (.r rfl) (SetT.css_length _ _)|exact Qh QR (.r rfl) (TrT.css_length _ _)|exact Qh QR (.r rfl) (AtT.css_length _)|exact QF QR (.r rfl)|exact QW.len_nil QR (.r rfl)) ?_)))))
    refine Zq rfl (QW.move .const) (Zn (J.block (J.reown (Up eTr _) (Ua (ι:=Nat×Value×List TrT×Int×V) [0,3,8,56,57] (fun⟨j,v,ts,g,it⟩=>[(58,.c (.int .i64 (j:Int))),(4,.c v)]) (fun⟨j,v,ts,g,it⟩ oo=>List.set (List.set oo 4 (.arr v eTr (TrT.css true ts))) 3 (mb b {s with it:=it} g)) (fun⟨j,v,ts,g,it⟩=>j≤vis.length∧(ts.length:Int)+g≤f30∧okQ g∧WI (fun y f=>QH l {s with it:=y} f) vis f30=YC ts (WI (fun y f=>QH l {s with it:=y} f) (vis.drop j) g)) (fun⟨j,v,ts,g,it⟩=>vis.length-j) ⟨0,.slice none 0 0,[],f30,s.it⟩ (⟨Nat.zero_le _,by show((0:Nat):Int)+f30≤f30;omega,hq30,M0 _⟩) (QQ (.cons rfl lr (.cons rfl lr (.cons rfl lr (.cons rfl lr (.cons rfl lr (.cons rfl lr (.cons rfl lr .nil))))))) (Reown.refl _) (fun _ h=>by first|exact h|simp[h])) ?_))))
    intro⟨j,v,ts,g,it⟩ ⟨hj,hts,hg,hk⟩
    refine J.conv (by(try simp only[nl,Qk,Qv,Qw,Qu,QZ,AV.cellsOf,Qb,Qc,Nat.reduceAdd]);rfl) ?_
    refine Zs (Zq rfl (QW.lss (.r rfl) (.r rfl)) (Zn (J.seq ?_)))
    refine J.cond (.r rfl) (fun c4=>?_) (fun c4=>?_)
    · skip
      have hlt:j<vis.length:=by simpa[V.css_length]using c4
      refine Zk (J.seq (J.block (Zs (Zq rfl (Qi QR Ql rfl (.r rfl) (.r rfl) (by first|rfl|omega|(simp;done)) (by exact V.css_getE _ hlt)) ?_))))
      refine Zq rfl (by first|exact Qo Ql (.r rfl) rfl rfl|exact Qo Ql (.r rfl) (QI vl rfl) vl) ?_
      refine JL.alloc W6 rfl rfl fun b10=>?_
      first|refine Qa 0 Ql (.r rfl) rfl (.r rfl) (by first|rfl|assumption) rfl rfl rfl ?_|refine Qa 0 Ql (.r rfl) rfl (.r rfl) (by first|rfl|assumption) rfl vl rfl ?_|refine Qa 0 Ql (.r rfl) rfl (.r rfl) (by first|rfl|assumption) vl rfl rfl ?_|refine Qa 0 Ql (.r rfl) rfl (.r rfl) (by first|rfl|assumption) vl vl rfl ?_|refine JL.store_box 0 Ql (.r rfl) rfl (.r rfl) (by first|rfl|assumption) rfl rfl rfl rfl ?_|refine JL.store_box 0 Ql (.r rfl) rfl (.r rfl) (by first|rfl|assumption) vl rfl rfl rfl ?_
      refine Zn (Zs (Zm rfl (Zq rfl (by first|exact Qe 0 Ql (.r rfl) rfl rfl rfl|exact Qe 0 Ql (.r rfl) rfl (Qn vl rfl) vl) ?_)))
      refine Zu rfl (Zd Ll rfl (Zd Xu rfl (JL.store_box 4 Ql (.r rfl) rfl (Ev.le (.r rfl) (G0 _)) rfl vl (by rw[Gh];rfl) Ky rfl ?_)))
      refine Zn (Qf (Zm rfl (Zm rfl (Zd KA rfl (Zq rfl (Qd 3 RA (.r rfl) rfl YF) ?_)))))
      refine Qm [.k,.k,.k,.k,.p] Dp rfl Lent.nil (fun _=>(.cons (.r rfl) (.cons (.r rfl) .nil))) (Lx (fr:=fr) (b:=b) (s:={s with it:=vis[j]}) ih hl16 hkn hwl hlf (hs.item (hgv.kid (List.getElem_mem hlt))) hg) (.inl rfl) (fun k71 x71 o71 h71=>?_) (fun k71=>?_)
      rotate_left
      · skip
        refine blkQ.p (thenQ.p (thenQ.p (blkQ.p (thenQ.p ?_))))
        exact⟨_,QC [.k,.k,.k,.k,.k] _,_,rfl,rfl,Qj [.k,.k,.k,.k,.k] _,VkS.er ((Eg w1 w2 w3 hv30 (by simpa[V.kind]using k49)).trans (hk.trans (Ps hlt (UK k71)))) k71⟩
      obtain⟨v71,f71,hv71,rfl,rfl⟩:=h71
      obtain⟨-,hlv,hf0⟩:=Wq l hlf hwl (hs.item (hgv.kid (List.getElem_mem hlt))) hg.1 hg.2 _ _ hv71
      refine JL.append 5 U0 QaT rfl (.r rfl) rfl (Wv U0 (.r rfl)) (by rw[TrT.css_length,TrT.css_length];show(_+_)*96≤_;unfold Qs;have:=h0.2;omega) rfl fun v72=>?_
      refine Za rfl (JL.nil (blkQ.n (thenQ.n (Qf (Zq rfl (QW.add (.r rfl) .const (by first|exact Wj (by first|rfl|omega|(simp;done)) (by omega)|exact Ym (by omega)|rfl)) ?_)))))
      refine Zm rfl (Zn ?_)
      rw[← TrT.css_append]
      exact⟨⟨j+1,v72,ts++v71,f71,vis[j]⟩,⟨hlt,by simp;omega,⟨hf0,by have:=hg.2;omega⟩,hk.trans (Fm hlt hv71)⟩,by show vis.length-(j+1)<vis.length-j;omega,QQ (.cons rfl lr (.cons rfl lr (.cons rfl lr (.cons rfl lr (.cons rfl lr (.cons rfl lr (.cons rfl lr .nil))))))) (Q3 1 _ rfl) (fun _ h=>by first|exact h|simp[h])⟩
    have hge:vis.length≤j:=by simpa[V.css_length]using c4
    rw[List.drop_of_length_le hge,Fo]at hk
    refine J.exit (Qy (Qy (Q1 (thenQ.n (J.seq (J.closeArr 4 rfl (by rw[TrT.css_length];show _*96≤_;unfold Qs;have:=h0.2;have:=hg.1;omega) rfl (fun z hz=>by simp only[mb,QP,UT,Own.fp,List.append_nil,List.mem_singleton]at hz;subst hz;simp[mb,QP,Own.fp,QZ]) ?_))))))
    refine Qf (Zm rfl (Zq rfl (by first|exact Qe 0 Ql (.r rfl) rfl rfl rfl|exact Qe 0 Ql (.r rfl) rfl (Qn vl rfl) vl) ?_))
    refine Zu rfl (Zd Ll rfl (Zd Xu rfl (JL.store_box 3 Ql (.r rfl) rfl (.r rfl) rfl vl (by rw[Gh];rfl) Ky rfl ?_)))
    exact Zn (Zs (Zm rfl (Za rfl (Zn (J.ret (Zr [.k,.k,.k,.p] (RetEv.one rfl (REv.tmp rfl (.fact (by simp) lr))) rfl (VkS.ok ((Eg w1 w2 w3 hv30 (by simpa[V.kind]using k49)).trans hk))))))))
theorem Cr(n:Nat):Rm n:=P1 n

end
section
/- Walks: the tree of a state. -/
set_option maxRecDepth 10000
set_option maxHeartbeats 4000000
def HN(r:TrT×Int):AV:=.tup [.agg (r.1.cs true),.c (.int .i64 r.2)]
def zT:List AV:=[.c (Q8 []),.c (Q8 []),.c (Q8 []),.c (.slice none 0 0),.c (.slice none 0 0)]
theorem ren_le{F:List (Value×AV)}{k1:Int}{b1:Nat}{t1:QL}{ks1:List QL}{is1:List V}{fr:Bool}{f:Int}:
    Le F (.agg ((V.mk k1 b1 t1 ks1 is1).cs fr++(zV++(zV++[AV.c (.int .i64 f)])))) (.agg ((V.mk k1 b1 t1 ks1 is1).cs false++V.nil.cs false++V.nil.cs false++[AV.c (.int .i64 f)])):=
  .aggL (by
    rw[List.append_assoc,List.append_assoc]
    have h:LeL F zV (V.nil.cs false):=.cons (.refl _) (.cons (.refl _) (.cons (.refl _) (.cons (.nil false false _) (.cons (.nil false false _) .nil))))
    exact LeL.append (Rg fr false (fun h=>by cases h) _) (LeL.append h (LeL.append h (.cons (.refl _) .nil))))
section
variable {t:TmT} {st:V} {f:Int}
theorem ren_t(h:¬t.err=0):t.renT st f=(.nil,t.err):=if_pos h
theorem ren_s(h:t.err=0)(h2:¬st.err=0):t.renT st f=(.nil,st.err):=(if_neg (fun hc=>hc h)).trans (if_pos h2)
theorem ren_f(h:t.err=0)(h2:st.err=0)(h3:f<0∨4096<f):t.renT st f=(.nil,4):=(if_neg (fun hc=>hc h)).trans ((if_neg (fun hc=>hc h2)).trans (if_pos h3))
theorem Bh(h:t.err=0)(h2:st.err=0)(h3:¬(f<0∨4096<f)):t.renT st f=t.treeT st f:=(if_neg (fun hc=>hc h)).trans ((if_neg (fun hc=>hc h2)).trans (if_neg h3))
theorem tree_e{c:Int}(h:t.elE ⟨st,.nil,.nil⟩ f=.error c):t.treeT st f=(.nil,c):=by unfold TmT.treeT;rw[h]
theorem tree_c{y:TrT}{g:Int}(h:t.elE ⟨st,.nil,.nil⟩ f=.ok (y,g))(h2:¬y.err=0):t.treeT st f=(.nil,y.err):=by unfold TmT.treeT;rw[h];exact if_pos h2
theorem tree_y{y:TrT}{g:Int}(h:t.elE ⟨st,.nil,.nil⟩ f=.ok (y,g))(h2:y.err=0):t.treeT st f=(y,0):=by unfold TmT.treeT;rw[h];exact if_neg (fun hc=>hc h2)
end
theorem RM(c a:Nat)(zs:List AV)(z:Int):DC Tryz.prog 43 [UA c z,.box a zs] [.c (.pointer (some ⟨c,0,none⟩)),.c (.pointer (some ⟨a,0,none⟩))] .returning fun r u' o=>r=.ret (.tup [])∧u'=.returning∧o=[UA c z,.box a zs]:=by
  refine DC.of_JD Tryz.func43 rfl Tryz.ntmps43 rfl fun w0 A0=>?_
  refine JD.seq (Q9 rfl rfl (.inl ⟨rfl,rfl,rfl⟩) rfl (JL.callRF [.p] NN rfl Lent.nil (fun _=>(.cons (.r rfl) (.cons (.r rfl) .nil))) (MI c z) (.inl rfl) fun x3 o3 h3=>?_))
  obtain⟨rfl,rfl⟩:=h3
  refine JL.nil ?_
  refine Yz ?_
  refine JD.of_J rfl ?_
  refine J.cond (.r rfl) (fun c1=>absurd c1 (by simp)) (fun c1=>?_)
  refine J.skip ?_
  exact⟨_,QC [.p,.p] _,_,RetEv.none rfl,rfl,Qj [.p,.p] _,⟨rfl,rfl,rfl⟩⟩
theorem HM(c a:Nat)(zs:List AV)(hz:zs.length=5)(z e:Int):DC Tryz.prog 43 [UA c z,.box a zs] [.c (.pointer (some ⟨c,0,none⟩)),.c (.pointer (some ⟨a,0,none⟩))] (.panicking [{v:=WL e,recovered:=false}]) fun r u' o=>r=.ret (.tup [])∧u'=.panicking [{v:=WL e,recovered:=true}]∧o=[UA c e,.box a zT]:=by
  refine DC.of_JD Tryz.func43 rfl Tryz.ntmps43 rfl fun w0 A0=>?_
  refine JD.seq (Q9 rfl rfl (.inr ⟨[],rfl,rfl⟩) rfl (JL.callRF [.p] NN rfl Lent.nil (fun _=>(.cons (.r rfl) (.cons (.r rfl) .nil))) (Ry c z e) (.inl rfl) fun x3 o3 h3=>?_))
  obtain⟨rfl,rfl⟩:=h3
  refine JL.nil ?_
  refine Yz ?_
  refine JD.of_J rfl ?_
  refine J.cond (.r rfl) (fun c1=>?_) (fun c1=>absurd c1 (by simp))
  refine Qf (Zq rfl (QW.build (idx:=[]) CN z46 rfl .nil rfl rfl rfl rfl) (JL.store_box 1 QT (.r rfl) rfl (.r rfl) rfl rfl (by rw[hz];rfl) (UY (by rw[hz];rfl)) rfl ?_))
  refine JL.nil ?_
  exact⟨_,QC [.p,.p] _,_,RetEv.none rfl,rfl,Qj [.p,.p] _,⟨rfl,rfl,rfl⟩⟩
theorem TX{fr fr2:Bool}{t:TmT}(hw:t.wf){st:V}(hs:st.wf){f:Int}(h64: -9223372036854775808≤f∧f≤9223372036854775807):Fn Tryz.prog 14 [.agg (t.cs fr),.agg (st.cs fr2),.c (.int .i64 f)] (HN (t.renT st f)):=by
  obtain⟨ka,ua,ta,va,ia⟩:=st
  obtain⟨w,tg,k,x,a,l⟩:=t
  refine TU Tryz.func14 rfl Tryz.ntmps14 rfl fun w0 A0=>?_
  refine Zs (Qq (.r rfl) rfl fun b3=>Qq (.r rfl) rfl fun b4=>JL.alloc z46 rfl rfl fun b6=>JL.alloc z47 rfl rfl fun b7=>Zn (J.seq (Zs (Zq rfl (by first|exact Qe 3 UO (.r rfl) rfl rfl rfl|exact Qe 3 UO (.r rfl) rfl (Qn (TmT.cs_length _ _) rfl) (TmT.cs_length _ _)) ?_))))
  refine Zq rfl (QW.call gofn19 (.cons (.r rfl) .nil) (Cv (fr:=fr) hw)) (Za rfl (Zn (Zs (Zm rfl (Zq rfl (QW.neq (.r rfl) .const) (Zn ?_))))))
  refine J.cond (.r rfl) (fun c1=>?_) (fun c1=>?_)
  · skip
    have hte:¬(TmT.mk w tg k x a l).err=0:=by simpa using c1
    refine Zs (Zq rfl (QW.build (idx:=[]) CN z46 rfl .nil rfl rfl rfl rfl) (Zm rfl ?_))
    first|refine Qa 1 QT (.r rfl) rfl (.r rfl) (by first|rfl|assumption) rfl rfl rfl ?_|refine Qa 1 QT (.r rfl) rfl (.r rfl) (by first|rfl|assumption) rfl (TrT.cs_length _ _) rfl ?_|refine Qa 1 QT (.r rfl) rfl (.r rfl) (by first|rfl|assumption) (TrT.cs_length _ _) rfl rfl ?_|refine Qa 1 QT (.r rfl) rfl (.r rfl) (by first|rfl|assumption) (TrT.cs_length _ _) (TrT.cs_length _ _) rfl ?_|refine JL.store_box 1 QT (.r rfl) rfl (.r rfl) (by first|rfl|assumption) rfl rfl rfl rfl ?_|refine JL.store_box 1 QT (.r rfl) rfl (.r rfl) (by first|rfl|assumption) (TrT.cs_length _ _) rfl rfl rfl ?_
    refine JL.store_box 0 U8 (.r rfl) rfl (.r rfl) (by first|rfl|assumption) rfl rfl rfl rfl ?_
    refine Zn (J.ret (thenQ.r ?_))
    exact retE.none [.k,.k] (by first|exact Qr rfl (REv.cell 1 QT rfl rfl rfl rfl (.aggL (.cons lr (.cons lr (.cons lr (.cons (.nil true false _) (.cons (.nil true false _) .nil))))))) (QO 0 U8 rfl rfl rfl lr)|exact Qr rfl (REv.cell 1 QT rfl rfl (Qn (TrT.cs_length _ _) rfl) (TrT.cs_length _ _) (.aggL (.cons lr (.cons lr (.cons lr (.cons (.nil true false _) (.cons (.nil true false _) .nil))))))) (QO 0 U8 rfl rfl rfl lr)) rfl ⟨(congrArg (fun r=>Wf.ret (HN r)) (ren_t hte).symm),rfl⟩
  have hte:(TmT.mk w tg k x a l).err=0:=by simpa using c1
  obtain rfl:w=1:=TF hte
  have hfine:=TmT.fine_of hte
  refine Zk (J.seq (Zs (Zq rfl (by first|exact Qe 2 Ql (.r rfl) rfl rfl rfl|exact Qe 2 Ql (.r rfl) rfl (Qn vl rfl) vl) ?_)))
  refine Zq rfl (QW.call X6 (.cons (.r rfl) .nil) (Yh (fr:=fr2) Vc.self hs)) (Za rfl (Zn (Zs (Zm rfl (Zq rfl (QW.neq (.r rfl) .const) (Zn ?_))))))
  refine J.cond (.r rfl) (fun c2=>?_) (fun c2=>?_)
  · skip
    have hse:¬(V.mk ka ua ta va ia).err=0:=by simpa using c2
    refine Zs (Zq rfl (QW.build (idx:=[]) CN z46 rfl .nil rfl rfl rfl rfl) (Zm rfl ?_))
    first|refine Qa 1 QT (.r rfl) rfl (.r rfl) (by first|rfl|assumption) rfl rfl rfl ?_|refine Qa 1 QT (.r rfl) rfl (.r rfl) (by first|rfl|assumption) rfl (TrT.cs_length _ _) rfl ?_|refine Qa 1 QT (.r rfl) rfl (.r rfl) (by first|rfl|assumption) (TrT.cs_length _ _) rfl rfl ?_|refine Qa 1 QT (.r rfl) rfl (.r rfl) (by first|rfl|assumption) (TrT.cs_length _ _) (TrT.cs_length _ _) rfl ?_|refine JL.store_box 1 QT (.r rfl) rfl (.r rfl) (by first|rfl|assumption) rfl rfl rfl rfl ?_|refine JL.store_box 1 QT (.r rfl) rfl (.r rfl) (by first|rfl|assumption) (TrT.cs_length _ _) rfl rfl rfl ?_
    refine JL.store_box 0 U8 (.r rfl) rfl (.r rfl) (by first|rfl|assumption) rfl rfl rfl rfl ?_
    refine Zn (J.ret (thenQ.r ?_))
    exact retE.none [.k,.k] (by first|exact Qr rfl (REv.cell 1 QT rfl rfl rfl rfl (.aggL (.cons lr (.cons lr (.cons lr (.cons (.nil true false _) (.cons (.nil true false _) .nil))))))) (QO 0 U8 rfl rfl rfl lr)|exact Qr rfl (REv.cell 1 QT rfl rfl (Qn (TrT.cs_length _ _) rfl) (TrT.cs_length _ _) (.aggL (.cons lr (.cons lr (.cons lr (.cons (.nil true false _) (.cons (.nil true false _) .nil))))))) (QO 0 U8 rfl rfl rfl lr)) rfl ⟨(congrArg (fun r=>Wf.ret (HN r)) (ren_s hte hse).symm),rfl⟩
  have hse:(V.mk ka ua ta va ia).err=0:=by simpa using c2
  refine Zk (J.seq (Zs (Zm rfl (Zq rfl (QW.lss (.r rfl) .const) (Zm rfl (Zg rfl (fun hg=>(QW.move (.r rfl))) (Zg rfl (fun hg=>(QW.gtr (.when rfl hg) .const)) (Zq rfl (QW.pick_or (.r rfl) (.r rfl)) (Zn ?_)))))))))
  refine J.cond (.r rfl) (fun c3=>?_) (fun c3=>?_)
  · skip
    have hr:f<0∨4096<f:=by simpa using c3
    refine Zs (Zq rfl (QW.build (idx:=[]) CN z46 rfl .nil rfl rfl rfl rfl) ?_)
    first|refine Qa 1 QT (.r rfl) rfl (.r rfl) (by first|rfl|assumption) rfl rfl rfl ?_|refine Qa 1 QT (.r rfl) rfl (.r rfl) (by first|rfl|assumption) rfl (TrT.cs_length _ _) rfl ?_|refine Qa 1 QT (.r rfl) rfl (.r rfl) (by first|rfl|assumption) (TrT.cs_length _ _) rfl rfl ?_|refine Qa 1 QT (.r rfl) rfl (.r rfl) (by first|rfl|assumption) (TrT.cs_length _ _) (TrT.cs_length _ _) rfl ?_|refine JL.store_box 1 QT (.r rfl) rfl (.r rfl) (by first|rfl|assumption) rfl rfl rfl rfl ?_|refine JL.store_box 1 QT (.r rfl) rfl (.r rfl) (by first|rfl|assumption) (TrT.cs_length _ _) rfl rfl rfl ?_
    refine JL.store_box 0 U8 (.r rfl) rfl .const (by first|rfl|assumption) rfl rfl rfl rfl ?_
    refine Zn (J.ret (thenQ.r ?_))
    exact retE.none [.k,.k] (by first|exact Qr rfl (REv.cell 1 QT rfl rfl rfl rfl (.aggL (.cons lr (.cons lr (.cons lr (.cons (.nil true false _) (.cons (.nil true false _) .nil))))))) (QO 0 U8 rfl rfl rfl lr)|exact Qr rfl (REv.cell 1 QT rfl rfl (Qn (TrT.cs_length _ _) rfl) (TrT.cs_length _ _) (.aggL (.cons lr (.cons lr (.cons lr (.cons (.nil true false _) (.cons (.nil true false _) .nil))))))) (QO 0 U8 rfl rfl rfl lr)) rfl ⟨(congrArg (fun r=>Wf.ret (HN r)) (ren_f hte hse hr).symm),rfl⟩
  have hr:¬(f<0∨4096<f):=by(simp at c3;omega)
  have hq:okQ f:=⟨by omega,by omega⟩
  refine Zk (Zs (Zq rfl (WH .nil (.cons (.r rfl) (.cons (.r rfl) .nil))) (JL.defer rfl (.r rfl) (Zn (Zs (Zq rfl (by first|exact Qe 2 Ql (.r rfl) rfl rfl rfl|exact Qe 2 Ql (.r rfl) rfl (Qn vl rfl) vl) ?_))))))
  refine Zq rfl (QW.build (idx:=[0]) pl120 z120 rfl (.cons (.r rfl) .nil) rfl rfl rfl rfl) (Zm rfl (Zq rfl (QW.build (idx:=[0,1]) pl122 z122 rfl (.cons (.r rfl) (.cons (.r rfl) .nil)) rfl rfl rfl rfl) (Qq (Ev.le (.r rfl) ren_le) rfl fun b35=>Za rfl (Zn (Zs (Zm rfl (Zq rfl (by first|exact Qe 4 UO (.r rfl) rfl rfl rfl|exact Qe 4 UO (.r rfl) rfl (Qn (TmT.cs_length _ _) rfl) (TmT.cs_length _ _)) ?_)))))))
  refine Qm [.p] B1 rfl Lent.nil (fun _=>(.cons (.r rfl) (.cons (.r rfl) .nil))) (HE (fr:=fr) (s:=⟨.mk ka ua ta va ia,.nil,.nil⟩) (Cr _) (fun y hy=>TmT.szs_mem hy) hw hfine ⟨⟨hs,hse⟩,Xe,Xe⟩ hq) (.inl rfl) (fun k38 x38 o38 h38=>?_) (fun k38=>?_)
  rotate_left
  · skip
    refine thenQ.p ?_
    exact .inl ⟨_,_,[],[_,_],QC [.p,.p] _,_,rfl,rfl,Dr,Qj [.p,.p] _,DC.mono (HM _ _ _ rfl _ _) fun r u' o ⟨h1,h2,h3⟩=>by subst h1 h2 h3;exact⟨⟨_,rfl⟩,rfl,_,[],_,(by first|exact Qr rfl (REv.cell 1 QT rfl rfl rfl rfl (.aggL (.cons lr (.cons lr (.cons lr (.cons (.nil true false _) (.cons (.nil true false _) .nil))))))) (QO 0 U8 rfl rfl rfl lr)|exact Qr rfl (REv.cell 1 QT rfl rfl (Qn (TrT.cs_length _ _) rfl) (TrT.cs_length _ _) (.aggL (.cons lr (.cons lr (.cons lr (.cons (.nil true false _) (.cons (.nil true false _) .nil))))))) (QO 0 U8 rfl rfl rfl lr)),List.Perm.refl _,(congrArg (fun r=>Wf.ret (HN r)) ((Bh hte hse hr).trans (tree_e (UK k38))).symm),rfl⟩⟩
  obtain⟨v38,f38,hv38,rfl,rfl⟩:=h38
  first|refine Qa 2 QT (.r rfl) rfl (.r rfl) (by first|rfl|assumption) rfl rfl rfl ?_|refine Qa 2 QT (.r rfl) rfl (.r rfl) (by first|rfl|assumption) rfl (TrT.cs_length _ _) rfl ?_|refine Qa 2 QT (.r rfl) rfl (.r rfl) (by first|rfl|assumption) (TrT.cs_length _ _) rfl rfl ?_|refine Qa 2 QT (.r rfl) rfl (.r rfl) (by first|rfl|assumption) (TrT.cs_length _ _) (TrT.cs_length _ _) rfl ?_|refine JL.store_box 2 QT (.r rfl) rfl (.r rfl) (by first|rfl|assumption) rfl rfl rfl rfl ?_|refine JL.store_box 2 QT (.r rfl) rfl (.r rfl) (by first|rfl|assumption) (TrT.cs_length _ _) rfl rfl rfl ?_
  refine Zn (Zs (Zq rfl (by first|exact Qe 2 QT (.r rfl) rfl rfl rfl|exact Qe 2 QT (.r rfl) rfl (Qn (TrT.cs_length _ _) rfl) (TrT.cs_length _ _)) ?_))
  have hyw:=(TG hfine hw rfl ⟨⟨hs,hse⟩,Xe,Xe⟩ hq.2 hv38).1
  refine Zq rfl (QW.call gofn24 (.cons (.r rfl) .nil) (CA hyw)) ?_
  refine Qm [] Gk rfl Lent.nil (fun _=>(.cons (.r rfl) .nil)) (Y3 _) (.inl rfl) (fun k41 x41 o41 h41=>?_) (fun k41=>?_)
  rotate_left
  · skip
    refine thenQ.p ?_
    exact .inl ⟨_,_,[],[_,_],QC [.k,.p,.p] _,_,rfl,rfl,Dr,Qj [.k,.p,.p] _,DC.mono (HM _ _ _ (TrT.cs_length _ _) _ _) fun r u' o ⟨h1,h2,h3⟩=>by subst h1 h2 h3;exact⟨⟨_,rfl⟩,rfl,_,[],_,(by first|exact Qr rfl (REv.cell 1 QT rfl rfl rfl rfl (.aggL (.cons lr (.cons lr (.cons lr (.cons (.nil true false _) (.cons (.nil true false _) .nil))))))) (QO 0 U8 rfl rfl rfl lr)|exact Qr rfl (REv.cell 1 QT rfl rfl (Qn (TrT.cs_length _ _) rfl) (TrT.cs_length _ _) (.aggL (.cons lr (.cons lr (.cons lr (.cons (.nil true false _) (.cons (.nil true false _) .nil))))))) (QO 0 U8 rfl rfl rfl lr)),List.Perm.refl _,(congrArg (fun r=>Wf.ret (HN r)) ((Bh hte hse hr).trans (tree_c hv38 k41)).symm),rfl⟩⟩
  obtain⟨rfl,rfl⟩:=h41
  refine Zn (Zs (Zq rfl (by first|exact Qe 2 QT (.r rfl) rfl rfl rfl|exact Qe 2 QT (.r rfl) rfl (Qn (TrT.cs_length _ _) rfl) (TrT.cs_length _ _)) ?_))
  first|refine Qa 2 QT (.r rfl) rfl (.r rfl) (by first|rfl|assumption) rfl rfl rfl ?_|refine Qa 2 QT (.r rfl) rfl (.r rfl) (by first|rfl|assumption) rfl (TrT.cs_length _ _) rfl ?_|refine Qa 2 QT (.r rfl) rfl (.r rfl) (by first|rfl|assumption) (TrT.cs_length _ _) rfl rfl ?_|refine Qa 2 QT (.r rfl) rfl (.r rfl) (by first|rfl|assumption) (TrT.cs_length _ _) (TrT.cs_length _ _) rfl ?_|refine JL.store_box 2 QT (.r rfl) rfl (.r rfl) (by first|rfl|assumption) rfl rfl rfl rfl ?_|refine JL.store_box 2 QT (.r rfl) rfl (.r rfl) (by first|rfl|assumption) (TrT.cs_length _ _) rfl rfl rfl ?_
  refine JL.store_box 1 U8 (.r rfl) rfl .const (by first|rfl|assumption) rfl rfl rfl rfl ?_
  refine Zn (J.ret ?_)
  exact .inl ⟨_,_,[],[_,_],QC [.k,.p,.p] _,_,rfl,rfl,Dr,Qj [.k,.p,.p] _,DC.mono (RM _ _ _ _) fun r u' o ⟨h1,h2,h3⟩=>by subst h1 h2 h3;exact⟨⟨_,rfl⟩,rfl,_,[],_,(by first|exact Qr rfl (REv.cell 1 QT rfl rfl rfl rfl lr) (QO 0 U8 rfl rfl rfl lr)|exact Qr rfl (REv.cell 1 QT rfl rfl (Qn (TrT.cs_length _ _) rfl) (TrT.cs_length _ _) lr) (QO 0 U8 rfl rfl rfl lr)),List.Perm.refl _,(congrArg (fun r=>Wf.ret (HN r)) ((Bh hte hse hr).trans (tree_y hv38 k41)).symm),rfl⟩⟩

end
section
/- Walks: a template, in memory of its own. -/
set_option maxRecDepth 10000
set_option maxHeartbeats 4000000
theorem SetT.css_tk{fr:Bool}{l:List SetT}{j:Nat}(h:j<l.length):SetT.css fr (l.take j)++[l[j].cs fr]=SetT.css fr (l.take (j+1)):=by rw[List.take_succ_eq_append_getElem h,SetT.css_snoc]
theorem TmT.css_tk{fr:Bool}{l:List TmT}{j:Nat}(h:j<l.length):TmT.css fr (l.take j)++[l[j].cs fr]=TmT.css fr (l.take (j+1)):=by rw[List.take_succ_eq_append_getElem h,TmT.css_append];rfl
theorem QaP{c a0 a1 a2 a3 a4:AV}{z:List AV}(hz:z.length=4):Xd ([(0,1),(1,4)].toArray[·]?) [a0,a1,a2,a3,a4] [(0,[c]),(1,z)]=some (c::z):=by
  have h1:QU [c,a1,a2,a3,a4] 1 z=c::z:=by
    rw[Qc,UY (by rw[hz];rfl)]
  simp[Xd,Qb,hz,h1]
theorem of17_n:∀(n:Nat) {t:TmT} {fr:Bool},t.wf→t.sz≤n→Fn Tryz.prog 12 [.agg (t.cs fr)] (.agg (t.cs true)):=by
  intro n
  induction n with
  |zero=>intro t fr hw hn;exact absurd hn (by have:=t.sz_pos;omega)
  |succ n ih=>
    intro t fr hw hn
    obtain⟨w,tg,⟨ko,kb,kt,kls⟩,⟨xo,xb,xt,xls⟩,a,l⟩:=t
    obtain⟨-,htw,hkw,hxw,haw,hws,hlw,hwl⟩:=hw.inv
    have hal:a.length≤9223372036854775805:=by unfold Qs at haw;omega
    have hll:l.length≤9223372036854775805:=by unfold Qs at hlw;omega
    refine AC.of_J Tryz.func12 rfl Tryz.ntmps12 rfl fun w0 A0=>?_
    refine Zs (Qq (.r rfl) rfl fun b1=>JL.alloc z40 rfl rfl fun b2=>Zn (J.seq (QY mixed (Zf 0 [] rfl (fun _=>Qg fo29_0 (.r rfl) rfl) (Zo 1 1 [6] rfl (fun _ ho_=>Qd 1 Uy (.r rfl) ho_ rfl) (Zf 2 [] rfl (fun _=>Qg fo29_1 (.r rfl) rfl) (Zo 3 1 [8] rfl (fun _ ho_=>Qd 1 U7 (.r rfl) ho_ TmT.at1) ?_)))))))
    refine Zf 4 [] rfl (fun _=>Qg fo29_2 (.r rfl) rfl) (Zo 5 1 [10] rfl (fun _ ho_=>Qe 1 Ha (.r rfl) ho_ Ls xl) (Zf 6 [11] rfl (fun _=>QW.call NO (.cons (.r rfl) .nil) (NE Xc.self hkw)) (Zf 7 [] rfl (fun _=>Qg fo29_3 (.r rfl) rfl) (Zo 8 1 [13] rfl (fun _ ho_=>Qe 1 Ha (.r rfl) ho_ G2 xl) (Zf 9 [14] rfl (fun _=>QW.call NO (.cons (.r rfl) .nil) (NE Xc.self hxw)) (Zf 10 [7,9,12,15] rfl (fun _=>QW.build (idx:=[0,1,2,3]) pl40 z40 rfl (.cons (.r rfl) (.cons (.r rfl) (.cons (.r rfl) (.cons (.r rfl) .nil)))) rfl rfl rfl rfl) (JX.a 11 rfl (AllocOp.mk z40 rfl) rfl rfl rfl rfl rfl (JX.one 12 [true,true,true,true,true,true,true,true,true,true,true,true] rfl (by kernel_rfl) (by kernel_rfl) rfl rfl (by kernel_rfl) rfl fun bs12_ pe_ ex_=>?_))))))))
    refine JL.conv (by(try simp only[Ub,Uk,Q5,QV,Flt.val,Flt.bx,nx,nl,Qk,Qv,Qw,Qu,QZ,AV.cellsOf,Qb,Qc,Nat.reduceAdd]);rfl) ?_
    first|refine Qa 2 UO (.r rfl) rfl (.r rfl) (by first|rfl|assumption) rfl rfl rfl ?_|refine Qa 2 UO (.r rfl) rfl (.r rfl) (by first|rfl|assumption) rfl (TmT.cs_length _ _) rfl ?_|refine Qa 2 UO (.r rfl) rfl (.r rfl) (by first|rfl|assumption) (TmT.cs_length _ _) rfl rfl ?_|refine Qa 2 UO (.r rfl) rfl (.r rfl) (by first|rfl|assumption) (TmT.cs_length _ _) (TmT.cs_length _ _) rfl ?_|refine JL.store_box 2 UO (.r rfl) rfl (.r rfl) (by first|rfl|assumption) rfl rfl rfl rfl ?_|refine JL.store_box 2 UO (.r rfl) rfl (.r rfl) (by first|rfl|assumption) (TmT.cs_length _ _) rfl rfl rfl ?_
    refine JL.nil ?_
    refine thenQ.n ⟨[],_,rfl,rfl,rfl,rfl,rfl,QJ 3 rfl,trivial,trivial,?_⟩
    refine JX.conv (S':=[12,11,10,9,8,7,6,5,4,3,2,1,0]) rfl (by(try simp only[QV]);rfl) (by(try simp only[Ub,Uk,Q5,QV,Flt.val,Flt.bx,nx,nl,Qk,Qv,Qw,Qu,QZ,AV.cellsOf,Qb,Qc,Nat.reduceAdd]);rfl) ?_
    refine JX.fin (by kernel_rfl) (by kernel_rfl) fun bs_=>?_
    refine QX.conv (by(try simp only[Ub,Uk,Q5,QV,Flt.val,Flt.bx,nx,nl,Qk,Qv,Qw,Qu,QZ,AV.cellsOf,Qb,Qc,Nat.reduceAdd]);rfl) ?_
    refine thenQ.n (J.seq (Zs (Zq rfl (QW.assign .const) (Zn (J.block (J.reown (Up eSe _) (Ua (ι:=Nat×Value) [1,2,3] (fun⟨j,v1⟩=>[(4,.c (.int .i64 (j:Int)))]) (fun⟨j,v1⟩ oo=>List.set (List.set oo 3 (.arr v1 eSe (SetT.css true (a.take j)))) 2 (.box (bs12_ 11) [.c (.int .i64 w),.c (Q8 tg),.c (.int .i64 ko),.c (.int .u64 kb),.c (Q8 kt),.sl true false Ru (EX.css true kls),.c (.int .i64 xo),.c (.int .u64 xb),.c (Q8 xt),.sl true false Ru (EX.css true xls),.c v1,.c (.slice none 0 0)])) (fun⟨j,v1⟩=>j≤a.length) (fun⟨j,v1⟩=>a.length-j) ⟨0,.slice none 0 0⟩ (Nat.zero_le _) (QQ (.cons rfl lr (.cons rfl lr (.cons rfl lr (.cons rfl lr .nil)))) (Reown.refl _) (fun _ h=>by first|exact h|simp[h])) ?_)))))))
    intro⟨j,v1⟩ hj
    refine J.conv (by(try simp only[nl,Qk,Qv,Qw,Qu,QZ,AV.cellsOf,Qb,Qc,Nat.reduceAdd]);rfl) ?_
    refine J.seq (Zs (Zm rfl (Zd Du rfl (Zq rfl (Qd 1 ty26 (.r rfl) rfl YG) (Zq rfl (by first|exact Qh NA (.r rfl) wl|exact Qh NA (.r rfl) (TmT.css_length _ _)|exact Qh NA (.r rfl) (SetT.css_length _ _)|exact Qh NA (.r rfl) (TrT.css_length _ _)|exact Qh NA (.r rfl) (AtT.css_length _)|exact QF NA (.r rfl)|exact QW.len_nil NA (.r rfl)) ?_)))))
    refine Zq rfl (QW.lss (.r rfl) (.r rfl)) (Zn ?_)
    refine J.cond (.r rfl) (fun c1=>?_) (fun c1=>?_)
    · skip
      have hlt:j<a.length:=by simpa[SetT.css_length,TmT.attrs]using c1
      refine Zk (J.seq (J.block (QY mixed (Zf 0 [] rfl (fun _=>Qg Gn (.r rfl) rfl) (Zo 1 2 [24] rfl (fun _ ho_=>Qd 2 TY (.r rfl) ho_ rfl) (Zf 2 [] rfl (fun _=>Qg Du (.r rfl) rfl) (Zo 3 1 [26] rfl (fun _ ho_=>Qd 1 ty26 (.r rfl) ho_ YG) (Zf 4 [] rfl (fun _=>QW.move (.r rfl)) (Zf 5 [27,28] rfl (fun _=>Qi NA ty112 rfl (.r rfl) (.r rfl) (by first|rfl|omega|(simp;done)) (by exact SetT.css_getE _ hlt)) ?_)))))))))
      refine Zf 6 [29] rfl (fun _=>QM QaN (.r rfl) rfl) (Zf 7 [30] rfl (fun _=>QA U7 (.r rfl) rfl) (Zf 8 [] rfl (fun _=>Qg Du (.r rfl) rfl) (Zo 9 1 [32] rfl (fun _ ho_=>Qd 1 ty26 (.r rfl) ho_ YG) (Zf 10 [] rfl (fun _=>QW.move (.r rfl)) (Zf 11 [33,34] rfl (fun _=>Qi NA ty112 rfl (.r rfl) (.r rfl) (by first|rfl|omega|(simp;done)) (by exact SetT.css_getE _ hlt)) ?_)))))
      refine Zf 12 [35] rfl (fun _=>QM QaM (.r rfl) rfl) (Zf 13 [36] rfl (fun _=>Qo Ha (.r rfl) SetT.at1 xl) (Zf 14 [37] rfl (fun _=>QW.call NO (.cons (.r rfl) .nil) (NE Xc.self (hws _ (List.getElem_mem hlt)).ex)) (Zf 15 [31,38] rfl (fun _=>QW.build (idx:=[0,1]) pl114 FM rfl (.cons (.r rfl) (.cons (.r rfl) .nil)) rfl rfl rfl (by exact QaP xl)) ?_)))
      refine Zf 16 [39] rfl (fun _=>QW.buildSlice (idx:=[0]) (xs:=[SetT.cs true a[j]]) (zs:=[AV.agg (SetT.cs true a[j])]) W7 el114 FM rfl (.cons (.r rfl) .nil) rfl rfl rfl rfl rfl (by exact Ln (SetT.cs_length _ _)) rfl (Re (SetT.cs_length _ _)) rfl) ?_
      refine JX.one 17 [true,true,true,true,true,true,true,true,true,true,true,true,true,true,true,true,true] rfl (by kernel_rfl) (by kernel_rfl) rfl rfl (by kernel_rfl) rfl fun bs17_ pe_ ex_=>?_
      refine JL.conv (by(try simp only[Ub,Uk,Q5,QV,Flt.val,Flt.bx,nx,nl,Qk,Qv,Qw,Qu,QZ,AV.cellsOf,Qb,Qc,Nat.reduceAdd]);rfl) ?_
      refine JL.append 3 W7 el114 rfl (.r rfl) rfl (Wv W7 (.r rfl)) (by rw[SetT.css_length,List.length_take];show(_+1)*72≤_;omega) rfl fun v41=>?_
      refine JL.nil ?_
      refine thenQ.n ⟨[_],_,rfl,rfl,rfl,rfl,rfl,QJ 4 rfl,⟨rfl,rfl⟩,trivial,?_⟩
      refine JX.conv (S':=[17,16,15,14,13,12,11,10,9,8,7,6,5,4,3,2,1,0]) rfl (by(try simp only[QV]);rfl) (by(try simp only[Ub,Uk,Q5,QV,Flt.val,Flt.bx,nx,nl,Qk,Qv,Qw,Qu,QZ,AV.cellsOf,Qb,Qc,Nat.reduceAdd]);rfl) ?_
      refine Zf 18 [] rfl (fun _=>Qg Gn (.r rfl) rfl) (JX.one 19 [true] rfl (by kernel_rfl) (by kernel_rfl) rfl rfl (by kernel_rfl) rfl fun bs19_ pe_ ex_=>?_)
      refine JL.conv (by(try simp only[Ub,Uk,Q5,QV,Flt.val,Flt.bx,nx,nl,Qk,Qv,Qw,Qu,QZ,AV.cellsOf,Qb,Qc,Nat.reduceAdd]);rfl) ?_
      refine JL.isSlice 3 rfl fun hs1=>JL.store_box 2 TY (.r rfl) rfl (.r rfl) (by first|rfl|assumption) rfl rfl rfl rfl ?_
      refine JL.nil ?_
      refine thenQ.n ⟨[],_,rfl,rfl,rfl,rfl,rfl,QJ 4 rfl,trivial,trivial,?_⟩
      refine JX.conv (S':=[19,18,17,16,15,14,13,12,11,10,9,8,7,6,5,4,3,2,1,0]) rfl (by(try simp only[QV]);rfl) (by(try simp only[Ub,Uk,Q5,QV,Flt.val,Flt.bx,nx,nl,Qk,Qv,Qw,Qu,QZ,AV.cellsOf,Qb,Qc,Nat.reduceAdd]);rfl) ?_
      refine JX.fin (by kernel_rfl) (by kernel_rfl) fun bs_=>?_
      refine QX.conv (by(try simp only[Ub,Uk,Q5,QV,Flt.val,Flt.bx,nx,nl,Qk,Qv,Qw,Qu,QZ,AV.cellsOf,Qb,Qc,Nat.reduceAdd]);rfl) ?_
      refine blkQ.n (thenQ.n (Qf (Zm rfl (Zq rfl (QW.add (.r rfl) .const (by first|exact Wj (by first|rfl|omega|(simp;done)) (by omega)|exact Ym (by omega)|rfl)) ?_))))
      refine Za rfl (Zn ?_)
      rw[SetT.css_tk hlt]
      exact⟨⟨j+1,v41⟩,hlt,by show a.length-(j+1)<a.length-j;omega,QQ (.cons rfl lr (.cons rfl lr (.cons rfl lr (.cons rfl lr .nil)))) (Reown.refl _) (fun _ h=>by first|exact h|simp[h])⟩
    obtain rfl:j=a.length:=by(simp[SetT.css_length,TmT.attrs]at c1;omega)
    rw[List.take_length]
    refine J.exit (Qy (Qy (Q1 (thenQ.n (J.seq (Zs (Zq rfl (QW.assign .const) (Zn (J.block ?_)))))))))
    refine J.reown (Up eTm _) (Ua (ι:=Nat×Value) [1,2,3] (fun⟨i,v2⟩=>[(5,.c (.int .i64 (i:Int)))]) (fun⟨i,v2⟩ oo=>List.set (List.set oo 4 (.arr v2 eTm (TmT.css true (l.take i)))) 2 (.box (bs12_ 11) [.c (.int .i64 w),.c (Q8 tg),.c (.int .i64 ko),.c (.int .u64 kb),.c (Q8 kt),.sl true false Ru (EX.css true kls),.c (.int .i64 xo),.c (.int .u64 xb),.c (Q8 xt),.sl true false Ru (EX.css true xls),.c v1,.c v2])) (fun⟨i,v2⟩=>i≤l.length) (fun⟨i,v2⟩=>l.length-i) ⟨0,.slice none 0 0⟩ (Nat.zero_le _) (QQ (.cons rfl lr (.cons rfl lr (.cons rfl lr (.cons rfl lr .nil)))) (Reown.refl _) (fun _ h=>by first|exact h|simp[h])) ?_)
    intro⟨i,v2⟩ hi
    refine J.conv (by(try simp only[nl,Qk,Qv,Qw,Qu,QZ,AV.cellsOf,Qb,Qc,Nat.reduceAdd]);rfl) ?_
    refine J.seq (Zs (Zm rfl (Zd Pa rfl (Zq rfl (Qd 1 ty27 (.r rfl) rfl YF) (Zq rfl (by first|exact Qh LC (.r rfl) wl|exact Qh LC (.r rfl) (TmT.css_length _ _)|exact Qh LC (.r rfl) (SetT.css_length _ _)|exact Qh LC (.r rfl) (TrT.css_length _ _)|exact Qh LC (.r rfl) (AtT.css_length _)|exact QF LC (.r rfl)|exact QW.len_nil LC (.r rfl)) ?_)))))
    refine Zq rfl (QW.lss (.r rfl) (.r rfl)) (Zn ?_)
    refine J.cond (.r rfl) (fun c2=>?_) (fun c2=>?_)
    · skip
      have hlt2:i<l.length:=by simpa[TmT.css_length,TmT.kids]using c2
      refine Zk (J.seq (J.block (QY mixed (Zf 0 [] rfl (fun _=>Qg KA (.r rfl) rfl) (Zo 1 2 [50] rfl (fun _ ho_=>Qd 2 RA (.r rfl) ho_ rfl) (Zf 2 [] rfl (fun _=>Qg Pa (.r rfl) rfl) (Zo 3 1 [52] rfl (fun _ ho_=>Qd 1 ty27 (.r rfl) ho_ YF) (Zf 4 [] rfl (fun _=>QW.move (.r rfl)) (Zf 5 [53,54] rfl (fun _=>Qi LC XW rfl (.r rfl) (.r rfl) (by first|rfl|omega|(simp;done)) (by exact TmT.css_getE _ hlt2)) ?_)))))))))
      refine Zf 6 [55] rfl (fun _=>by first|exact Qo XW (.r rfl) rfl rfl|exact Qo XW (.r rfl) (QI (TmT.cs_length _ _) rfl) (TmT.cs_length _ _)) ?_
      refine Zf 7 [56] rfl (fun _=>QW.call B4 (.cons (.r rfl) .nil) (ih (hwl _ (List.getElem_mem hlt2)) (TmT.sz_get hn hlt2))) (Zf 8 [57] rfl (fun _=>QW.buildSlice (idx:=[0]) (xs:=[TmT.cs true l[i]]) (zs:=[AV.agg (TmT.cs true l[i])]) Y5 el40 z40 rfl (.cons (.r rfl) .nil) rfl rfl rfl rfl rfl (by exact Ln (TmT.cs_length _ _)) rfl (Re (TmT.cs_length _ _)) rfl) ?_)
      refine JX.one 9 [true,true,true,true,true,true,true,true,true] rfl (by kernel_rfl) (by kernel_rfl) rfl rfl (by kernel_rfl) rfl fun bs9_ pe_ ex_=>?_
      refine JL.conv (by(try simp only[Ub,Uk,Q5,QV,Flt.val,Flt.bx,nx,nl,Qk,Qv,Qw,Qu,QZ,AV.cellsOf,Qb,Qc,Nat.reduceAdd]);rfl) ?_
      refine JL.append 4 Y5 el40 rfl (.r rfl) rfl (Wv Y5 (.r rfl)) (by rw[TmT.css_length,List.length_take];show(_+1)*184≤_;omega) rfl fun v59=>?_
      refine JL.nil ?_
      refine thenQ.n ⟨[_],_,rfl,rfl,rfl,rfl,rfl,QJ 5 rfl,⟨rfl,rfl⟩,trivial,?_⟩
      refine JX.conv (S':=[9,8,7,6,5,4,3,2,1,0]) rfl (by(try simp only[QV]);rfl) (by(try simp only[Ub,Uk,Q5,QV,Flt.val,Flt.bx,nx,nl,Qk,Qv,Qw,Qu,QZ,AV.cellsOf,Qb,Qc,Nat.reduceAdd]);rfl) ?_
      refine Zf 10 [] rfl (fun _=>Qg KA (.r rfl) rfl) (JX.one 11 [true] rfl (by kernel_rfl) (by kernel_rfl) rfl rfl (by kernel_rfl) rfl fun bs11_ pe_ ex_=>?_)
      refine JL.conv (by(try simp only[Ub,Uk,Q5,QV,Flt.val,Flt.bx,nx,nl,Qk,Qv,Qw,Qu,QZ,AV.cellsOf,Qb,Qc,Nat.reduceAdd]);rfl) ?_
      refine JL.isSlice 4 rfl fun hs1=>JL.store_box 2 RA (.r rfl) rfl (.r rfl) (by first|rfl|assumption) rfl rfl rfl rfl ?_
      refine JL.nil ?_
      refine thenQ.n ⟨[],_,rfl,rfl,rfl,rfl,rfl,QJ 5 rfl,trivial,trivial,?_⟩
      refine JX.conv (S':=[11,10,9,8,7,6,5,4,3,2,1,0]) rfl (by(try simp only[QV]);rfl) (by(try simp only[Ub,Uk,Q5,QV,Flt.val,Flt.bx,nx,nl,Qk,Qv,Qw,Qu,QZ,AV.cellsOf,Qb,Qc,Nat.reduceAdd]);rfl) ?_
      refine JX.fin (by kernel_rfl) (by kernel_rfl) fun bs_=>?_
      refine QX.conv (by(try simp only[Ub,Uk,Q5,QV,Flt.val,Flt.bx,nx,nl,Qk,Qv,Qw,Qu,QZ,AV.cellsOf,Qb,Qc,Nat.reduceAdd]);rfl) ?_
      refine blkQ.n (thenQ.n (Qf (Zm rfl (Zq rfl (QW.add (.r rfl) .const (by first|exact Wj (by first|rfl|omega|(simp;done)) (by omega)|exact Ym (by omega)|rfl)) ?_))))
      refine Za rfl (Zn ?_)
      rw[TmT.css_tk hlt2]
      exact⟨⟨i+1,v59⟩,hlt2,by show l.length-(i+1)<l.length-i;omega,QQ (.cons rfl lr (.cons rfl lr (.cons rfl lr (.cons rfl lr .nil)))) (Reown.refl _) (fun _ h=>by first|exact h|simp[h])⟩
    obtain rfl:i=l.length:=by(simp[TmT.css_length,TmT.kids]at c2;omega)
    rw[List.take_length]
    refine J.exit (Qy (Qy (Q1 (thenQ.n (J.seq (J.closeArr 3 rfl (by rw[SetT.css_length];exact haw) rfl (fun _ h=>by cases h) ?_))))))
    refine J.closeArr (4-1) rfl (by rw[TmT.css_length];exact hlw) rfl (fun _ h=>by cases h) ?_
    refine Qf (Zq rfl (by first|exact Qe 2 UO (.r rfl) rfl rfl rfl|exact Qe 2 UO (.r rfl) rfl (Qn (TmT.cs_length _ _) rfl) (TmT.cs_length _ _)) ?_)
    first|refine Qa 0 UO (.r rfl) rfl (.r rfl) (by first|rfl|assumption) rfl rfl rfl ?_|refine Qa 0 UO (.r rfl) rfl (.r rfl) (by first|rfl|assumption) rfl (TmT.cs_length _ _) rfl ?_|refine Qa 0 UO (.r rfl) rfl (.r rfl) (by first|rfl|assumption) (TmT.cs_length _ _) rfl rfl ?_|refine Qa 0 UO (.r rfl) rfl (.r rfl) (by first|rfl|assumption) (TmT.cs_length _ _) (TmT.cs_length _ _) rfl ?_|refine JL.store_box 0 UO (.r rfl) rfl (.r rfl) (by first|rfl|assumption) rfl rfl rfl rfl ?_|refine JL.store_box 0 UO (.r rfl) rfl (.r rfl) (by first|rfl|assumption) (TmT.cs_length _ _) rfl rfl rfl ?_
    exact Zn (J.ret (Zr [.k,.k,.k] (RetEv.one rfl (by first|exact REv.cell 0 UO rfl rfl rfl rfl (.aggL (.cons lr (.cons lr (.cons lr (.cons lr (.cons lr (.cons lr (.cons lr (.cons lr (.cons lr (.cons lr (.cons (.fact (by simp) lr) (.cons (.fact (by simp) lr) .nil)))))))))))))|exact REv.cell 0 UO rfl rfl (Qn (TmT.cs_length _ _) rfl) (TmT.cs_length _ _) (.aggL (.cons lr (.cons lr (.cons lr (.cons lr (.cons lr (.cons lr (.cons lr (.cons lr (.cons lr (.cons lr (.cons (.fact (by simp) lr) (.cons (.fact (by simp) lr) .nil))))))))))))))) rfl ⟨rfl,rfl⟩))
theorem Sz{t:TmT}{fr:Bool}(hw:t.wf):Fn Tryz.prog 12 [.agg (t.cs fr)] (.agg (t.cs true)):=of17_n _ hw (Nat.le_refl _)

end
section
/- The template of a list, and what it makes of texts. -/
def eS5:EX:=.mk 5 0 [] []
def eF8:EX:=.mk 8 0 [108] [eS5]
def eI7:EX:=.mk 7 0 [] []
def txP:TmT:=.mk 2 [] .nil eI7 [] []
def liP:TmT:=.mk 1 [108,105] .nil .nil [] [txP]
def eaP:TmT:=.mk 4 [] .nil eF8 [] [liP]
def HP:TmT:=.mk 1 [117,108] .nil .nil [] [eaP]
def lV(l:List QL):V:=.mk 4 0 [] [] (l.map V.tx)
def tV(l:List QL):V:=.mk 5 0 [] [[108]] [lV l]
def Ey(s:QL):TrT:=.mk [108,105] [] [] [] [.txt s]
def ulT(l:List QL):TrT:=.mk [117,108] [] [] [] (l.map Ey)
theorem eS5_wf:eS5.wf:=.mk (by decide) (by decide) (by decide) (by decide) (fun _ h=>by cases h)
theorem eI7_wf:eI7.wf:=.mk (by decide) (by decide) (by decide) (by decide) (fun _ h=>by cases h)
theorem eF8_wf:eF8.wf:=.mk (by decide) (by decide) (by decide) (by decide) (fun x h=>by rw[List.mem_singleton.1 h];exact eS5_wf)
theorem Nc:EX.nil.wf:=.mk (by decide) (by decide) (by decide) (by decide) (fun _ h=>by cases h)
theorem txP_wf:txP.wf:=.mk (by decide) (by decide) Nc eI7_wf (by decide) (fun _ h=>by cases h) (by decide) (fun _ h=>by cases h)
theorem liP_wf:liP.wf:=.mk (by decide) (by decide) Nc Nc (by decide) (fun _ h=>by cases h) (by decide) (fun x h=>by rw[List.mem_singleton.1 h];exact txP_wf)
theorem eaP_wf:eaP.wf:=.mk (by decide) (by decide) Nc eF8_wf (by decide) (fun _ h=>by cases h) (by decide) (fun x h=>by rw[List.mem_singleton.1 h];exact liP_wf)
theorem R1:HP.wf:=.mk (by decide) (by decide) Nc Nc (by decide) (fun _ h=>by cases h) (by decide) (fun x h=>by rw[List.mem_singleton.1 h];exact eaP_wf)
theorem CX:HP.err=0:=by decide+kernel
theorem lV_wf{l:List QL}(h:l.length≤16)(h2:∀s∈l,s.length≤128):(lV l).wf:=.mk (by decide) (by decide) (by decide) (by decide) (by simp;unfold Qs;omega) (fun _ h=>by cases h) (fun x hx=>by
  obtain⟨s,hs,rfl⟩:=List.mem_map.1 hx
  exact(XQ (h2 s hs)).wf)
theorem tV_wf{l:List QL}(h:l.length≤16)(h2:∀s∈l,s.length≤128):(tV l).wf:=.mk (by decide) (by decide) (by decide) (by decide) (by show 1*80≤Qs;decide) (fun x hx=>by rw[List.mem_singleton.1 hx];decide) (fun x hx=>by rw[List.mem_singleton.1 hx];exact lV_wf h h2)
theorem tx_chk{s:QL}(h:s.length≤128){lev n:Int}(hl:lev≤8)(hn:n<512):(V.tx s).chk lev n=(0,n+1):=by
  unfold V.tx
  rw[V.chk,if_neg (by omega),if_neg (by omega),if_neg (by simp[Q7,h]),V.chks]
theorem D9{lev:Int}(hl:lev≤7):∀{l:List QL} {n:Int},(∀s∈l,s.length≤128)→n+l.length≤512→V.chks (l.map V.tx) lev n=(0,n+l.length)
  |[],n,_,_=>by simp[V.chks]
  |s::r,n,h,hn=>by
    simp only[List.length_cons]at hn
    rw[List.map_cons,V.chks,tx_chk (h s (by simp)) (by omega) (by omega),if_neg (by simp),D9 hl (fun x hx=>h x (by simp[hx])) (by show n+1+_≤512;omega)]
    simp;omega
theorem F2{l:List QL}(h:l.length≤16)(h2:∀s∈l,s.length≤128):(tV l).err=0:=by
  have hk:Q7 (tV l)=true:=by simp[tV,Q7];decide
  have h4:Q7 (lV l)=true:=by simp[lV,Q7];omega
  unfold V.err tV
  rw[V.chk,if_neg (by decide),if_neg (by decide),if_neg (by show ¬Q7 (tV l)=false;rw[hk];simp),V.chks]
  have h1:(lV l).chk 2 1=((0,2+(l.length:Int)):Int×Int):=by
    unfold lV
    rw[V.chk,if_neg (by decide),if_neg (by decide),if_neg (by show ¬Q7 (lV l)=false;rw[h4];simp),D9 (by decide) h2 (by omega)]
    rfl
  show(if((lV l).chk 2 1).1≠0 then(lV l).chk 2 1 else V.chks [] 1 ((lV l).chk 2 1).2).1=0
  rw[h1];rfl
/-! what it makes -/
theorem Xw{α β:Type}{v:α}{f:Int}{k:α→Int→ER β}:US (.ok (v,f)) k=k v f:=rfl
theorem RS{s:ScT}{f:Int}(h:1≤f):W2 (EX.nil.ev s f)=.ok ([],f-1):=by
  unfold EX.nil
  rw[ev_0 (by omega)];rfl
theorem P4{s:ScT}{x:QL}{f:Int}(h:1≤f)(hx:x.length≤128)(hs:s.it=.tx x):W2 (eI7.ev s f)=.ok (x,f-1):=by
  unfold eI7
  rw[ev_7 (by omega),hs]
  have:=K8 (XQ hx)
  show(if(YS (V.tx x)).2=0 then _ else _)=_
  rw[this];rfl
theorem SJ{s:ScT}{x:QL}{f:Int}(h:2≤f)(hx:x.length≤128)(hs:s.it=.tx x):QH [liP] s f=.ok ([Ey x],f-2):=by
  have h2:QH [txP] s (f-1)=.ok ([.txt x],f-2):=by
    rw[QH,txP,TmT.partE,if_neg (by decide),if_pos rfl,P4 (by omega) hx hs]
    simp only[Xw,QH]
    rw[show f-1-1=f-2 by omega];rfl
  rw[QH,liP,TmT.partE,if_pos rfl,YT,RS (by omega)]
  simp only[Xw]
  rw[if_neg (by decide),Xi]
  simp only[Xw,h2]
  simp only[Xw,QH]
  rfl
theorem Ex{s:ScT}:∀{l:List QL} {f:Int},(∀x∈l,x.length≤128)→2*l.length≤f→WI (fun y f=>QH [liP] {s with it:=y} f) (l.map V.tx) f=.ok (l.map Ey,f-2*l.length)
  |[],f,_,_=>by rw[List.map_nil,WI];simp
  |x::r,f,h,hf=>by
    simp only[List.length_cons]at hf
    rw[List.map_cons,WI,SJ (x:=x) (by omega) (h x (by simp)) rfl]
    show US (WI _ (r.map V.tx) (f-2)) _=_
    rw[Ex (fun y hy=>h y (by simp[hy])) (by omega)]
    show Except.ok ([Ey x]++r.map Ey,f-2-2*(r.length:Int))=_
    simp only[List.map_cons,List.length_cons,List.singleton_append]
    rw[show f-2-2*(r.length:Int)=f-2*((r.length+1:Nat):Int) by omega]
theorem get_l{l:List QL}(h:l.length≤16)(h2:∀s∈l,s.length≤128):UH 8 [108] [tV l]=.ok (lV l):=by
  have h3:(tV l).getv [⟨true,[108],0⟩]=(lV l,0):=by
    unfold V.getv
    rw[if_neg (by rw[F2 h h2];simp)]
    rfl
  show H5 (tV l) ⟨true,[108],0⟩=_
  unfold H5
  rw[h3];rfl
theorem SH{l:List QL}{s:ScT}{f:Int}(h:l.length≤16)(hs:s.st=tV l)(h2:∀x∈l,x.length≤128)(hf:3+2*l.length≤f):HP.elE s f=.ok (ulT l,f-3-2*l.length):=by
  have hx:eF8.ev s (f-1)=.ok (lV l,f-3):=by
    unfold eF8
    rw[Ca (by omega) (.inr (by decide)),Ux,eS5,ev_5 (by omega),hs]
    simp only[Ux]
    show plE 8 [108] (.ok ([tV l],f-1-1-1))=_
    unfold plE
    simp only[get_l h h2]
    rw[show f-1-1-1=f-3 by omega]
  have h3:QH [eaP] s (f-1)=.ok (l.map Ey,f-3-2*l.length):=by
    rw[QH,eaP,TmT.partE,if_neg (by decide),if_neg (by decide),hx]
    simp only[Xw]
    rw[if_neg (by decide),if_pos (show(lV l).kind=4 from rfl),show(lV l).items=l.map V.tx from rfl,Ex h2 (by omega)]
    simp only[Xw,QH,List.append_nil]
  unfold HP
  rw[TmT.elE]
  unfold YT
  rw[RS (by omega)]
  simp only[Xw]
  rw[if_neg (by decide),Xi]
  simp only[Xw,h3]
  rfl
theorem SI{x:QL}(hx:x.length≤128){w:Rv}(he:w.e=0)(hn:w.n<255):(Ey x).walk 2 w=⟨w.n+2,max w.d 3,0⟩:=by
  have h1:(TrT.txt x).nodeE 3 (w.n+1)=0:=by
    unfold TrT.nodeE
    rw[if_neg (by decide),if_neg (by omega),if_neg (by simp[TrT.txt,Yb,TrT.tag,TrT.key,TrT.text,TrT.attrs,TrT.kids,hx]),if_neg (by show ¬Gb []=true;decide)]
  have h2:(Ey x).nodeE 2 w.n=0:=by
    unfold TrT.nodeE
    rw[if_neg (by decide),if_neg (by omega),if_neg (by simp[Ey,TrT.tag,TrT.key,TrT.text,TrT.attrs,TrT.kids];decide),if_neg (by simp[Ey,TrT.kids,TrT.txt,TrT.key];decide)]
  unfold Ey at h2⊢
  rw[TrT.walk,if_neg (fun hc=>hc he),if_neg (fun hc=>hc h2),TrT.walks]
  unfold TrT.txt at h1⊢
  rw[TrT.walk,if_neg (by simp),if_neg (fun hc=>hc h1),TrT.walks,TrT.walks]
  show Rv.mk (w.n+1+1) (if(2:Int)+1>(if(2:Int)>w.d then 2 else w.d)then 2+1 else(if(2:Int)>w.d then 2 else w.d)) 0=_
  congr 1
  · omega
  · split<;>split at* <;>omega
theorem R2:∀{l:List QL} {w:Rv},(∀x∈l,x.length≤128)→w.e=0→w.n+2*l.length≤256→(TrT.walks (l.map Ey) 2 w).e=0
  |[],w,_,he,_=>by rw[List.map_nil,TrT.walks];exact he
  |x::r,w,h,he,hn=>by
    simp only[List.length_cons]at hn
    rw[List.map_cons,TrT.walks,SI (h x (by simp)) he (by omega)]
    exact R2 (fun y hy=>h y (by simp[hy])) rfl (by show w.n+2+2*(r.length:Int)≤256;omega)
theorem ul_err{l:List QL}(h:l.length≤16)(h2:∀x∈l,x.length≤128):(ulT l).err=0:=by
  have hk:(l.map Ey).map TrT.key=List.replicate l.length []:=by
    rw[List.map_map]
    exact List.eq_replicate_iff.2 ⟨by simp,fun y hy=>by obtain⟨s,-,rfl⟩:=List.mem_map.1 hy;rfl⟩
  have h1:(ulT l).nodeE 1 0=0:=by
    unfold TrT.nodeE
    rw[if_neg (by decide),if_neg (by decide),if_neg (by simp[ulT,TrT.tag,TrT.key,TrT.text,TrT.attrs,TrT.kids,h];decide),if_neg]
    show ¬Gb ((l.map Ey).map TrT.key)=true
    rw[hk,MM fun i hi=>by
      rw[List.length_replicate]at hi
      simp[YU,hi]]
    simp
  unfold TrT.err
  rw[if_neg (by show ¬([117,108]:QL)=[];decide)]
  unfold ulT at h1⊢
  rw[TrT.walk,if_neg (by simp),if_neg (fun hc=>hc h1)]
  exact R2 h2 rfl (by show(0:Int)+1+2*(l.length:Int)≤256;omega)
theorem BJ{l:List QL}{f:Int}(h:l.length≤16)(h2:∀x∈l,x.length≤128)(hf:3+2*l.length≤f)(hf2:f≤4096):HP.renT (tV l) f=(ulT l,0):=by
  unfold TmT.renT
  rw[if_neg (by rw[CX];simp),if_neg (by rw[F2 h h2];simp),if_neg (by omega)]
  unfold TmT.treeT
  rw[SH h rfl h2 hf]
  exact if_neg (by rw[ul_err h h2];simp)

end
section
/- Walks: the template of a list, texts; is the renderer alive? -/
set_option maxRecDepth 10000
set_option maxHeartbeats 4000000
theorem CY:Fn Tryz.prog 25 [] (.agg (HP.cs true)):=by
  refine AC.of_J Tryz.func25 rfl Tryz.ntmps25 rfl fun w0 A0=>?_
  refine Zs (JL.alloc PV rfl rfl fun b0=>Zn (Zs (Zq rfl (QW.build (idx:=[0]) pl25 z25 rfl (.cons .const .nil) rfl rfl rfl rfl) (Zq rfl (QW.buildSlice (xs:=[eS5.cs true]) (idx:=[0]) sl23 el25 z25 rfl (.cons (Ev.le (z:=.agg (eS5.cs true)) (.r rfl) (.aggL (.cons lr (.cons lr (.cons lr (.cons (.nil true false _) (.nil))))))) .nil) rfl rfl rfl rfl rfl rfl rfl rfl rfl) (Zq rfl (QW.build (idx:=[0,2,3]) pl25 z25 rfl (.cons .const (.cons .const (.cons (.r rfl) .nil))) rfl rfl rfl rfl) (JL.alloc z25 rfl rfl fun b1=>?_))))))
  first|refine Qa 0 Ha (.r rfl) rfl (.r rfl) (by first|rfl|assumption) rfl rfl rfl ?_|refine Qa 0 Ha (.r rfl) rfl (.r rfl) (by first|rfl|assumption) rfl xl rfl ?_|refine Qa 0 Ha (.r rfl) rfl (.r rfl) (by first|rfl|assumption) xl rfl rfl ?_|refine Qa 0 Ha (.r rfl) rfl (.r rfl) (by first|rfl|assumption) xl xl rfl ?_|refine JL.store_box 0 Ha (.r rfl) rfl (.r rfl) (by first|rfl|assumption) rfl rfl rfl rfl ?_|refine JL.store_box 0 Ha (.r rfl) rfl (.r rfl) (by first|rfl|assumption) xl rfl rfl rfl ?_
  refine Zn (Zs (Zq rfl (QW.build (idx:=[0]) pl25 z25 rfl (.cons .const .nil) rfl rfl rfl rfl) (Zq rfl (QW.build (idx:=[0,3]) Si PV rfl (.cons .const (.cons (.r rfl) .nil)) rfl rfl rfl rfl) (Zq rfl (QW.buildSlice (xs:=[txP.cs true]) (idx:=[0]) LC el29 PV rfl (.cons (Ev.le (z:=.agg (txP.cs true)) (.r rfl) (.aggL (.cons lr (.cons lr (.cons lr (.cons lr (.cons lr (.cons (.nil true false _) (.cons lr (.cons lr (.cons lr (.cons (.nil true false _) (.cons (.nil true false _) (.cons (.nil true false _) (.nil))))))))))))))) .nil) rfl rfl rfl rfl rfl rfl rfl rfl rfl) (Zq rfl (QW.build (idx:=[0,1,5]) Si PV rfl (.cons .const (.cons .const (.cons (.r rfl) .nil))) rfl rfl rfl rfl) (JL.alloc PV rfl rfl fun b2=>?_))))))
  first|refine Qa 0 XW (.r rfl) rfl (.r rfl) (by first|rfl|assumption) rfl rfl rfl ?_|refine Qa 0 XW (.r rfl) rfl (.r rfl) (by first|rfl|assumption) rfl (TmT.cs_length _ _) rfl ?_|refine Qa 0 XW (.r rfl) rfl (.r rfl) (by first|rfl|assumption) (TmT.cs_length _ _) rfl rfl ?_|refine Qa 0 XW (.r rfl) rfl (.r rfl) (by first|rfl|assumption) (TmT.cs_length _ _) (TmT.cs_length _ _) rfl ?_|refine JL.store_box 0 XW (.r rfl) rfl (.r rfl) (by first|rfl|assumption) rfl rfl rfl rfl ?_|refine JL.store_box 0 XW (.r rfl) rfl (.r rfl) (by first|rfl|assumption) (TmT.cs_length _ _) rfl rfl rfl ?_
  refine Zn (Zs (Zq rfl (by first|exact Qe 1 Ha (.r rfl) rfl rfl rfl|exact Qe 1 Ha (.r rfl) rfl (Qn xl rfl) xl) ?_))
  refine Zq rfl (by first|exact Qe 0 XW (.r rfl) rfl rfl rfl|exact Qe 0 XW (.r rfl) rfl (Qn (TmT.cs_length _ _) rfl) (TmT.cs_length _ _)) ?_
  refine Zq rfl (QW.buildSlice (xs:=[liP.cs true]) (idx:=[0]) LC el29 PV rfl (.cons (Ev.le (z:=.agg (liP.cs true)) (.r rfl) (.aggL (.cons lr (.cons lr (.cons lr (.cons lr (.cons lr (.cons (.nil true false _) (.cons lr (.cons lr (.cons lr (.cons (.nil true false _) (.cons (.nil true false _) (.cons (Yc (TmT.css_sz true [txP])) (.nil))))))))))))))) .nil) rfl rfl rfl rfl rfl rfl rfl rfl rfl) (Zq rfl (QW.build (idx:=[0,3,5]) Si PV rfl (.cons .const (.cons (.r rfl) (.cons (.r rfl) .nil))) rfl rfl rfl rfl) (Zq rfl (QW.buildSlice (xs:=[eaP.cs true]) (idx:=[0]) LC el29 PV rfl (.cons (Ev.le (z:=.agg (eaP.cs true)) (.r rfl) (.aggL (.cons lr (.cons lr (.cons lr (.cons lr (.cons lr (.cons (.nil true false _) (.cons lr (.cons lr (.cons lr (.cons (Yc (EX.css_sz true [eS5])) (.cons (.nil true false _) (.cons (Yc (TmT.css_sz true [liP])) (.nil))))))))))))))) .nil) rfl rfl rfl rfl rfl rfl rfl rfl rfl) (Zq rfl (QW.build (idx:=[0,1,5]) Si PV rfl (.cons .const (.cons .const (.cons (.r rfl) .nil))) rfl rfl rfl rfl) ?_)))
  first|refine Qa 2 XW (.r rfl) rfl (.r rfl) (by first|rfl|assumption) rfl rfl rfl ?_|refine Qa 2 XW (.r rfl) rfl (.r rfl) (by first|rfl|assumption) rfl (TmT.cs_length _ _) rfl ?_|refine Qa 2 XW (.r rfl) rfl (.r rfl) (by first|rfl|assumption) (TmT.cs_length _ _) rfl rfl ?_|refine Qa 2 XW (.r rfl) rfl (.r rfl) (by first|rfl|assumption) (TmT.cs_length _ _) (TmT.cs_length _ _) rfl ?_|refine JL.store_box 2 XW (.r rfl) rfl (.r rfl) (by first|rfl|assumption) rfl rfl rfl rfl ?_|refine JL.store_box 2 XW (.r rfl) rfl (.r rfl) (by first|rfl|assumption) (TmT.cs_length _ _) rfl rfl rfl ?_
  exact Zn (J.ret (Zr [.k,.k,.k] (RetEv.one rfl (by first|exact REv.cell 2 XW rfl rfl rfl rfl (.aggL (.cons lr (.cons lr (.cons lr (.cons lr (.cons lr (.cons (.nil true false _) (.cons lr (.cons lr (.cons lr (.cons (.nil true false _) (.cons (.nil true false _) (.cons (Yc (TmT.css_sz true [eaP])) (.nil))))))))))))))|exact REv.cell 2 XW rfl rfl (Qn (TmT.cs_length _ _) rfl) (TmT.cs_length _ _) (.aggL (.cons lr (.cons lr (.cons lr (.cons lr (.cons lr (.cons (.nil true false _) (.cons lr (.cons lr (.cons lr (.cons (.nil true false _) (.cons (.nil true false _) (.cons (Yc (TmT.css_sz true [eaP])) (.nil)))))))))))))))) rfl ⟨rfl,rfl⟩))
theorem T0{fr c:Bool}{l:List QL}(hl:l.length≤16):Fn Tryz.prog 26 [.sl fr c W5 (Q4 l)] (.agg ((tV l).cs true)):=by
  refine AC.of_J Tryz.func26 rfl Tryz.ntmps26 rfl fun w0 A0=>?_
  refine Zs (JL.alloc W6 rfl rfl fun b2=>Zn (Zs (Zq rfl (QW.build (idx:=[0]) X0 W6 rfl (.cons .const .nil) rfl rfl rfl rfl) (JL.alloc W6 rfl rfl fun b3=>?_))))
  first|refine Qa 0 Ql (.r rfl) rfl (.r rfl) (by first|rfl|assumption) rfl rfl rfl ?_|refine Qa 0 Ql (.r rfl) rfl (.r rfl) (by first|rfl|assumption) rfl vl rfl ?_|refine Qa 0 Ql (.r rfl) rfl (.r rfl) (by first|rfl|assumption) vl rfl rfl ?_|refine Qa 0 Ql (.r rfl) rfl (.r rfl) (by first|rfl|assumption) vl vl rfl ?_|refine JL.store_box 0 Ql (.r rfl) rfl (.r rfl) (by first|rfl|assumption) rfl rfl rfl rfl ?_|refine JL.store_box 0 Ql (.r rfl) rfl (.r rfl) (by first|rfl|assumption) vl rfl rfl rfl ?_
  refine Zn (J.seq (Zs (Zq rfl (QW.assign .const) (Zn (J.block (J.reown (Up eV _) (Ua (ι:=Nat×Value) [0,2,3] (fun⟨i,v⟩=>[(4,.c (.int .i64 (i:Int)))]) (fun⟨i,v⟩ oo=>List.set (List.set oo 2 (.arr v eV (V.css true ((l.take i).map V.tx)))) 0 (.box b3 [.c (.int .i64 4),.c (.int .u64 0),.c (Q8 []),.c (.slice none 0 0),.c v])) (fun⟨i,v⟩=>i≤l.length) (fun⟨i,v⟩=>l.length-i) ⟨0,.slice none 0 0⟩ (Nat.zero_le _) (QQ (.cons rfl lr (.cons rfl lr (.cons rfl lr (.cons rfl lr .nil)))) (Reown.refl _) (fun _ h=>by first|exact h|simp[h])) ?_)))))))
  intro⟨i,v⟩ hi
  refine J.conv (by(try simp only[nl,Qk,Qv,Qw,Qu,QZ,AV.cellsOf,Qb,Qc,Nat.reduceAdd]);rfl) ?_
  refine J.seq (Zs (Zm rfl (Zm rfl (Zq rfl (by first|exact Qh UE (.r rfl) wl|exact Qh UE (.r rfl) (TmT.css_length _ _)|exact Qh UE (.r rfl) (SetT.css_length _ _)|exact Qh UE (.r rfl) (TrT.css_length _ _)|exact Qh UE (.r rfl) (AtT.css_length _)|exact QF UE (.r rfl)|exact QW.len_nil UE (.r rfl)) ?_))))
  refine Zq rfl (QW.lss (.r rfl) (.r rfl)) (Zn ?_)
  refine J.cond (.r rfl) (fun c1=>?_) (fun c1=>?_)
  · skip
    have hlt:i<l.length:=by simpa[Q4]using c1
    refine Zk (J.seq (J.block (QY mixed (Zf 0 [] rfl (fun _=>Qg Uu (.r rfl) rfl) (Zo 1 0 [12] rfl (fun _ ho_=>Qd 0 WJ (.r rfl) ho_ rfl) (Zf 2 [] rfl (fun _=>QW.move (.r rfl)) (Zf 3 [] rfl (fun _=>QW.move (.r rfl)) (Zf 4 [14,15] rfl (fun _=>Qi UE U7 rfl (.r rfl) (.r rfl) (by first|rfl|omega|(simp;done)) (by first|exact Xn hlt|(simp[Q4,hlt]))) ?_))))))))
    refine Zf 5 [16] rfl (fun _=>QA U7 (.r rfl) rfl) (Zf 6 [17] rfl (fun _=>QW.build (idx:=[0,2]) X0 W6 rfl (.cons .const (.cons (.r rfl) .nil)) rfl rfl rfl rfl) (Zf 7 [18] rfl (fun _=>QW.buildSlice (xs:=[(V.tx l[i]).cs true]) (idx:=[0]) QR GR W6 rfl (.cons (Ev.le (z:=.agg ((V.tx l[i]).cs true)) (.r rfl) (.aggL (.cons lr (.cons lr (.cons lr (.cons (.nil true false _) (.cons (.nil true false _) (.nil)))))))) .nil) rfl rfl rfl rfl rfl rfl rfl rfl rfl) (JX.one 8 [true,true,true,true,true,true,true,true] rfl (by kernel_rfl) (by kernel_rfl) rfl rfl (by kernel_rfl) rfl fun bs8_ pe_ ex_=>?_)))
    refine JL.conv (by(try simp only[Ub,Uk,Q5,QV,Flt.val,Flt.bx,nx,nl,Qk,Qv,Qw,Qu,QZ,AV.cellsOf,Qb,Qc,Nat.reduceAdd]);rfl) ?_
    refine JL.append 2 QR GR rfl (.r rfl) rfl (Wv QR (.r rfl)) (by rw[V.css_length,List.length_map,List.length_take];show(_+1)*80≤_;unfold Qs;omega) rfl fun v20=>?_
    refine JL.nil ?_
    refine thenQ.n ⟨[_],_,rfl,rfl,rfl,rfl,rfl,QJ 3 rfl,⟨rfl,rfl⟩,trivial,?_⟩
    refine JX.conv (S':=[8,7,6,5,4,3,2,1,0]) rfl (by(try simp only[QV]);rfl) (by(try simp only[Ub,Uk,Q5,QV,Flt.val,Flt.bx,nx,nl,Qk,Qv,Qw,Qu,QZ,AV.cellsOf,Qb,Qc,Nat.reduceAdd]);rfl) ?_
    refine Zf 9 [] rfl (fun _=>Qg Uu (.r rfl) rfl) (JX.one 10 [true] rfl (by kernel_rfl) (by kernel_rfl) rfl rfl (by kernel_rfl) rfl fun bs10_ pe_ ex_=>?_)
    refine JL.conv (by(try simp only[Ub,Uk,Q5,QV,Flt.val,Flt.bx,nx,nl,Qk,Qv,Qw,Qu,QZ,AV.cellsOf,Qb,Qc,Nat.reduceAdd]);rfl) ?_
    refine JL.isSlice 2 rfl fun hs1=>JL.store_box 0 WJ (.r rfl) rfl (.r rfl) (by first|rfl|assumption) rfl rfl rfl rfl ?_
    refine JL.nil ?_
    refine thenQ.n ⟨[],_,rfl,rfl,rfl,rfl,rfl,QJ 3 rfl,trivial,trivial,?_⟩
    refine JX.conv (S':=[10,9,8,7,6,5,4,3,2,1,0]) rfl (by(try simp only[QV]);rfl) (by(try simp only[Ub,Uk,Q5,QV,Flt.val,Flt.bx,nx,nl,Qk,Qv,Qw,Qu,QZ,AV.cellsOf,Qb,Qc,Nat.reduceAdd]);rfl) ?_
    refine JX.fin (by kernel_rfl) (by kernel_rfl) fun bs_=>?_
    refine QX.conv (by(try simp only[Ub,Uk,Q5,QV,Flt.val,Flt.bx,nx,nl,Qk,Qv,Qw,Qu,QZ,AV.cellsOf,Qb,Qc,Nat.reduceAdd]);rfl) ?_
    refine blkQ.n (thenQ.n (Qf (Zm rfl (Zq rfl (QW.add (.r rfl) .const (by first|exact Wj (by first|rfl|omega|(simp;done)) (by omega)|exact Ym (by omega)|rfl)) ?_))))
    refine Za rfl (Zn ?_)
    rw[show V.css true ((l.take i).map V.tx)++[(V.tx l[i]).cs true]=V.css true ((l.take (i+1)).map V.tx) by rw[List.take_succ_eq_append_getElem hlt,List.map_append,V.css_eq,V.css_eq,List.map_append];rfl]
    exact⟨⟨i+1,v20⟩,hlt,by show l.length-(i+1)<l.length-i;omega,QQ (.cons rfl lr (.cons rfl lr (.cons rfl lr (.cons rfl lr .nil)))) (Reown.refl _) (fun _ h=>by first|exact h|simp[h])⟩
  obtain rfl:i=l.length:=by(simp[Q4]at c1;omega)
  rw[List.take_length]
  refine J.exit (Qy (Qy (Q1 (thenQ.n (J.seq (J.closeArr 2 rfl (by rw[V.css_length,List.length_map];show _*80≤_;unfold Qs;omega) rfl (fun _ h=>by cases h) ?_))))))
  refine Qf (Zq rfl (QW.buildSlice (idx:=[0]) (xs:=[[AV.c (Q8 [108])]]) (zs:=[AV.c (Q8 [108])]) UE el9 z9 rfl (.cons .const .nil) rfl rfl rfl rfl rfl rfl rfl rfl rfl) (Zq rfl (by first|exact Qe 0 Ql (.r rfl) rfl rfl rfl|exact Qe 0 Ql (.r rfl) rfl (Qn vl rfl) vl) ?_))
  refine Zq rfl (QW.buildSlice (xs:=[(lV l).cs true]) (idx:=[0]) QR GR W6 rfl (.cons (Ev.le (z:=.agg ((lV l).cs true)) (.r rfl) (.aggL (.cons lr (.cons lr (.cons lr (.cons (.nil true false _) (.cons (.fact (by simp) (.refl _)) (.nil)))))))) .nil) rfl rfl rfl rfl rfl rfl rfl rfl rfl) ?_
  refine Zq rfl (QW.build (idx:=[0,3,4]) X0 W6 rfl (.cons .const (.cons (.r rfl) (.cons (.r rfl) .nil))) rfl rfl rfl rfl) ?_
  first|refine Qa 1 Ql (.r rfl) rfl (.r rfl) (by first|rfl|assumption) rfl rfl rfl ?_|refine Qa 1 Ql (.r rfl) rfl (.r rfl) (by first|rfl|assumption) rfl vl rfl ?_|refine Qa 1 Ql (.r rfl) rfl (.r rfl) (by first|rfl|assumption) vl rfl rfl ?_|refine Qa 1 Ql (.r rfl) rfl (.r rfl) (by first|rfl|assumption) vl vl rfl ?_|refine JL.store_box 1 Ql (.r rfl) rfl (.r rfl) (by first|rfl|assumption) rfl rfl rfl rfl ?_|refine JL.store_box 1 Ql (.r rfl) rfl (.r rfl) (by first|rfl|assumption) vl rfl rfl rfl ?_
  exact Zn (J.ret (Zr [.k,.k] (RetEv.one rfl (by first|exact REv.cell 1 Ql rfl rfl rfl rfl (.aggL (.cons lr (.cons lr (.cons lr (.cons (Yc (fun y hy=>by rw[List.mem_singleton.1 hy];rfl)) (.cons (Yc (V.css_sz true [lV l])) (.nil)))))))|exact REv.cell 1 Ql rfl rfl (Qn vl rfl) vl (.aggL (.cons lr (.cons lr (.cons lr (.cons (Yc (fun y hy=>by rw[List.mem_singleton.1 hy];rfl)) (.cons (Yc (V.css_sz true [lV l])) (.nil))))))))) rfl ⟨rfl,rfl⟩))
theorem GA(n:Int):Fn Tryz.prog 18 [.c (.int .i64 n)] (.c (.int .i64 n)):=by
  refine AC.of_J Tryz.func18 rfl Tryz.ntmps18 rfl fun w0 A0=>?_
  exact Zs (Zq rfl (QW.assign .const) (Zn (Zs (Zm rfl (Za rfl (Zn (J.ret (Zr [] (RetEv.one rfl (REv.tmp rfl lr)) rfl ⟨rfl,rfl⟩))))))))
theorem RL{l:List QL}{f:Int}{fr fr2:Bool}(h:l.length≤16)(h2:∀x∈l,x.length≤128)(hf:3+2*l.length≤f)(hf2:f≤4096):Fn Tryz.prog 14 [.agg (HP.cs fr),.agg ((tV l).cs fr2),.c (.int .i64 f)] (HN (ulT l,0)):=by
  have:=TX (fr:=fr) (fr2:=fr2) R1 (tV_wf h h2) (f:=f) ⟨by omega,by omega⟩
  rwa [BJ h h2 hf hf2]at this
theorem DM:Fn Tryz.prog 23 [] (.c (.bool true)):=by
  refine AC.of_J Tryz.func23 rfl Tryz.ntmps23 rfl fun w0 A0=>?_
  refine Zs (Zq rfl (QW.assign .const) (Zn (Zs (Zq rfl (QW.call gofn25 .nil (CY)) (Zq rfl (QW.call B4 (.cons (.r rfl) .nil) (Sz (t:=HP) R1)) (Zq rfl (QW.buildSlice (idx:=[0,1]) UE el9 z9 rfl (.cons .const (.cons .const .nil)) rfl rfl rfl rfl rfl rfl rfl rfl rfl) (Zq rfl (QW.call gofn26 (.cons (.r rfl) .nil) (T0 (l:=[[97],[98]]) (by decide))) ?_)))))))
  refine Zq rfl (QW.call gofn14 (.cons (.r rfl) (.cons (.r rfl) (.cons .const .nil))) (RL (l:=[[97],[98]]) (fr:=true) (fr2:=true) (f:=99) (by decide) (by decide) (by decide) (by decide))) ?_
  refine Zm rfl (Zx rfl (Zx rfl (JL.alloc z46 rfl rfl fun b1=>?_)))
  first|refine Qa 0 QT (.r rfl) rfl (.r rfl) (by first|rfl|assumption) rfl rfl rfl ?_|refine Qa 0 QT (.r rfl) rfl (.r rfl) (by first|rfl|assumption) rfl (TrT.cs_length _ _) rfl ?_|refine Qa 0 QT (.r rfl) rfl (.r rfl) (by first|rfl|assumption) rfl rfl rfl ?_|refine Qa 0 QT (.r rfl) rfl (.r rfl) (by first|rfl|assumption) (TrT.cs_length _ _) rfl rfl ?_|refine Qa 0 QT (.r rfl) rfl (.r rfl) (by first|rfl|assumption) (TrT.cs_length _ _) (TrT.cs_length _ _) rfl ?_|refine Qa 0 QT (.r rfl) rfl (.r rfl) (by first|rfl|assumption) (TrT.cs_length _ _) rfl rfl ?_|refine Qa 0 QT (.r rfl) rfl (.r rfl) (by first|rfl|assumption) rfl rfl rfl ?_|refine Qa 0 QT (.r rfl) rfl (.r rfl) (by first|rfl|assumption) rfl (TrT.cs_length _ _) rfl ?_|refine Qa 0 QT (.r rfl) rfl (.r rfl) (by first|rfl|assumption) rfl rfl rfl ?_|refine JL.store_box 0 QT (.r rfl) rfl (.r rfl) (by first|rfl|assumption) rfl rfl rfl rfl ?_|refine JL.store_box 0 QT (.r rfl) rfl (.r rfl) (by first|rfl|assumption) (TrT.cs_length _ _) rfl rfl rfl ?_|refine JL.store_box 0 QT (.r rfl) rfl (.r rfl) (by first|rfl|assumption) rfl rfl rfl rfl ?_
  refine Za rfl (Zn (Zs (Zm rfl (Zq rfl (QW.call NV (.cons (.r rfl) .nil) (GA _)) (Zq rfl (QW.eql (.r rfl) .const) (Zm rfl (Zg rfl (fun hg=>(Qg LZ (.r rfl) rfl)) (Zg rfl (fun hg=>(Qd 0 U7 (.when rfl hg) rfl rfl)) (Zg rfl (fun hg=>(WO (.when rfl hg) .const)) ?_)))))))))
  refine Zq rfl (QW.pick_and (.r rfl) (.r rfl)) (Zm rfl (Zg rfl (fun hg=>(Qg Xa (.r rfl) rfl)) (Zg rfl (fun hg=>(Qd 0 Ly (.when rfl hg) rfl rfl)) (Zg rfl (fun hg=>(by first|exact Qh U0 (.when rfl hg) wl|exact Qh U0 (.when rfl hg) (TmT.css_length _ _)|exact Qh U0 (.when rfl hg) (SetT.css_length _ _)|exact Qh U0 (.when rfl hg) (TrT.css_length _ _)|exact Qh U0 (.when rfl hg) (AtT.css_length _)|exact QF U0 (.when rfl hg)|exact QW.len_nil U0 (.when rfl hg))) ?_))))
  refine Zg rfl (fun hg=>(QW.eql (.when rfl hg) .const)) (Zq rfl (QW.pick_and (.r rfl) (.r rfl)) (Zm rfl (Zg rfl (fun hg=>(Qg Xa (.r rfl) rfl)) (Zg rfl (fun hg=>(Qd 0 Ly (.when rfl hg) rfl rfl)) (Zg rfl (fun hg=>(Qi U0 QT rfl (.when rfl hg) .const (by first|rfl|omega|(simp;done)) (by rfl))) ?_)))))
  refine Zg rfl (fun hg=>(QM LZ (.when rfl hg) rfl)) (Zg rfl (fun hg=>(QA U7 (.when rfl hg) rfl)) (Zg rfl (fun hg=>(WO (.when rfl hg) .const)) (Zq rfl (QW.pick_and (.r rfl) (.r rfl)) (Zm rfl (Zg rfl (fun hg=>(Qg Xa (.r rfl) rfl)) (Zg rfl (fun hg=>(Qd 0 Ly (.when rfl hg) rfl rfl)) (Zg rfl (fun hg=>(Qi U0 QT rfl (.when rfl hg) .const (by first|rfl|omega|(simp;done)) (by rfl))) ?_)))))))
  refine Zg rfl (fun hg=>(QM Xa (.when rfl hg) rfl)) (Zg rfl (fun hg=>(QA Ly (.when rfl hg) rfl)) (Zg rfl (fun hg=>(by first|exact Qh U0 (.when rfl hg) wl|exact Qh U0 (.when rfl hg) (TmT.css_length _ _)|exact Qh U0 (.when rfl hg) (SetT.css_length _ _)|exact Qh U0 (.when rfl hg) (TrT.css_length _ _)|exact Qh U0 (.when rfl hg) (AtT.css_length _)|exact QF U0 (.when rfl hg)|exact QW.len_nil U0 (.when rfl hg))) ?_))
  refine Zg rfl (fun hg=>(QW.eql (.when rfl hg) .const)) (Zq rfl (QW.pick_and (.r rfl) (.r rfl)) (Zm rfl (Zg rfl (fun hg=>(Qg Xa (.r rfl) rfl)) (Zg rfl (fun hg=>(Qd 0 Ly (.when rfl hg) rfl rfl)) (Zg rfl (fun hg=>(Qi U0 QT rfl (.when rfl hg) .const (by first|rfl|omega|(simp;done)) (by rfl))) ?_)))))
  refine Zg rfl (fun hg=>(QM Xa (.when rfl hg) rfl)) (Zg rfl (fun hg=>(QA Ly (.when rfl hg) rfl)) (Zg rfl (fun hg=>(Qi U0 QT rfl (.when rfl hg) .const (by first|rfl|omega|(simp;done)) (by rfl))) ?_))
  exact Zg rfl (fun hg=>(QM B9 (.when rfl hg) rfl)) (Zg rfl (fun hg=>(QA U7 (.when rfl hg) rfl)) (Zg rfl (fun hg=>(WO (.when rfl hg) .const)) (Zq rfl (QW.pick_and (.r rfl) (.r rfl)) (Za rfl (Zn (J.ret (Zr [.k] (RetEv.one rfl (REv.tmp rfl lr)) rfl ⟨Wl (by first|decide|simp|rfl),rfl⟩)))))))

end
section
/- A number's digits read as the number. -/
def Xg(l:QL):Int:=l.foldl (fun a c=>10*a+((c.toNat:Int)-48)) 0
def Dig(l:QL):Prop:=∀c∈l,48≤c.toNat∧c.toNat≤57
theorem MJ(l:QL)(c:UInt8):Xg (l++[c])=10*Xg l+((c.toNat:Int)-48):=by simp[Xg]
theorem L3{m:Nat}(h:m<10):(UInt8.ofNat (48+m)).toNat=48+m:=by rw[UInt8.toNat_ofNat',Nat.mod_eq_of_lt (by omega)]
theorem RU:∀(k n:Nat),n≤k→Dig (YJ n)
  |0,n,h=>by
    unfold YJ;rw[if_pos (by omega)]
    intro c hc
    rw[List.mem_singleton.1 hc,L3 (by omega)];omega
  |k+1,n,h=>by
    unfold YJ
    split
    · intro c hc
      rw[List.mem_singleton.1 hc,L3 (by omega)];omega
    · intro c hc
      rcases List.mem_append.1 hc with hc|hc
      · exact RU k (n / 10) (by omega) c hc
      · rw[List.mem_singleton.1 hc,L3 (by omega)];omega
theorem LO:∀(k n:Nat),n≤k→Xg (YJ n)=n
  |0,n,h=>by unfold YJ;rw[if_pos (by omega)];simp only[Xg,List.foldl];rw[L3 (by omega)];omega
  |k+1,n,h=>by
    unfold YJ
    split
    · simp only[Xg,List.foldl];rw[L3 (by omega)];omega
    · rw[MJ,LO k (n / 10) (by omega),L3 (by omega)];omega
theorem Hh:∀(k n:Nat),n≤k→∃c r,YJ n=c::r∧(1≤n→¬c.toNat=48)∧(n=0→r=[])
  |0,n,h=>by unfold YJ;rw[if_pos (by omega)];exact⟨_,_,rfl,fun h2=>by omega,fun _=>rfl⟩
  |k+1,n,h=>by
    unfold YJ
    split
    · refine⟨_,_,rfl,fun h2 hc=>?_,fun _=>rfl⟩
      rw[L3 (by omega)]at hc
      omega
    · obtain⟨c,r,e,h1,h2⟩:=Hh k (n / 10) (by omega)
      rw[e]
      exact⟨c,r++[_],rfl,fun _=>h1 (by omega),fun hz=>by omega⟩
theorem NX:∀{l:QL} {a:Int},0≤a→Dig l→a≤l.foldl (fun a c=>10*a+((c.toNat:Int)-48)) a
  |[],a,_,_=>Int.le_refl _
  |c::r,a,h,hd=>by
    have h2:=hd c (by simp)
    rw[List.foldl_cons]
    exact Int.le_trans (show a≤10*a+((c.toNat:Int)-48) by omega) (NX (by omega) fun x hx=>hd x (by simp[hx]))
theorem D7{l:QL}(h:Dig l):0≤Xg l:=NX (Int.le_refl 0) h
theorem Cw{a b:QL}(h:Dig (a++b)):Xg a≤Xg (a++b):=by
  unfold Xg
  rw[List.foldl_append]
  exact NX (D7 fun x hx=>h x (by simp[hx])) fun x hx=>h x (by simp[hx])
def GC(n:Int):Nat:=if n<0 then 1 else 0
def H6(n:Int):QL:=YJ n.natAbs
theorem NK(n:Int):(Wc n).length=GC n+(H6 n).length∧∀j (h:j<(H6 n).length),(Wc n)[GC n+j]? =some (H6 n)[j]:=by
  unfold Wc GC H6
  split
  · exact⟨by rw[List.length_cons];omega,fun j h=>by rw[Nat.add_comm,List.getElem?_cons_succ];exact List.getElem?_eq_getElem h⟩
  · exact⟨by omega,fun j h=>by rw[Nat.zero_add];exact List.getElem?_eq_getElem h⟩
theorem Pt{n:Int}{m:Nat}(h1:GC n≤m)(h2:m<(Wc n).length):∃c,(Wc n)[m]? =some c∧(48≤c.toNat∧c.toNat≤57)∧Xg ((H6 n).take (m+1-GC n))=10*Xg ((H6 n).take (m-GC n))+((c.toNat:Int)-48)∧Xg ((H6 n).take (m+1-GC n))≤n.natAbs∧0≤Xg ((H6 n).take (m-GC n))∧Xg ((H6 n).take (m-GC n))≤n.natAbs:=by
  obtain⟨e1,e2⟩:=NK n
  have hd:Dig (H6 n):=RU _ _ (Nat.le_refl _)
  have hv:Xg (H6 n)=n.natAbs:=LO _ _ (Nat.le_refl _)
  obtain⟨j,rfl⟩:∃j,m=GC n+j:=⟨m-GC n,by omega⟩
  have hj:j<(H6 n).length:=by omega
  have tk:∀i,Dig ((H6 n).take i)∧Xg ((H6 n).take i)≤n.natAbs:=fun i=>⟨fun c hc=>hd c (List.mem_of_mem_take hc),by
    have:=Cw (a:=(H6 n).take i) (b:=(H6 n).drop i) (by rw[List.take_append_drop];exact hd)
    rw[List.take_append_drop,hv]at this;exact this⟩
  rw[show GC n+j+1-GC n=j+1 by omega,show GC n+j-GC n=j by omega]
  refine⟨(H6 n)[j],e2 j hj,hd _ (List.getElem_mem hj),?_,(tk _).2,D7 (tk _).1,(tk _).2⟩
  rw[List.take_succ_eq_append_getElem hj,MJ]
theorem Cg{n:Int}{m:Nat}(h:(Wc n).length≤m):Xg ((H6 n).take (m-GC n))=n.natAbs:=by
  have:=(NK n).1
  rw[List.take_of_length_le (by omega)]
  exact LO _ _ (Nat.le_refl _)
theorem KR(n:Int):∃c,(Wc n)[GC n]? =some c∧GC n<(Wc n).length∧(¬c.toNat=48∨(Wc n).length=1):=by
  obtain⟨e1,e2⟩:=NK n
  obtain⟨c,r,h,h1,h2⟩:=Hh _ n.natAbs (Nat.le_refl _)
  have hd:H6 n=c::r:=h
  have hl:0<(H6 n).length:=by rw[hd];simp
  refine⟨c,?_,by omega,?_⟩
  · have h3:=e2 0 hl
    have h4:(H6 n)[0]? =some c:=by rw[hd];rfl
    rw[Nat.add_zero]at h3
    rw[h3,← List.getElem?_eq_getElem hl,h4]
  · by_cases hn:n=0
    · right
      have:=h2 (by omega)
      rw[e1,hd,this]
      unfold GC;rw[if_neg (by omega)];rfl
    · exact .inl (h1 (by omega))
theorem BU{n:Int}(h:n<0):(Wc n)[0]? =some 45∧2≤(Wc n).length:=by
  obtain⟨c,r,e,-,-⟩:=Hh _ n.natAbs (Nat.le_refl _)
  unfold Wc
  rw[if_pos h,e]
  exact⟨rfl,by simp⟩
theorem PW{n:Int}(h: -9007199254740992≤n∧n≤9007199254740992):YS (.nu (TV n))=(Wc n,0):=by
  have h1:TV n=FloatKind.f64.nearest n:=by unfold TV;rw[if_neg (by omega)];rfl
  obtain⟨h2,h3,-,-⟩:=CR h
  obtain⟨g1,g2⟩:=Ku n
  rw[K8 (Y2 g1 g2)]
  unfold Kf V.nu
  simp only[V.kind,V.bits]
  rw[if_neg (by decide),if_neg (by decide),if_pos trivial]
  show(if Yd (TV n)=0 then(Wc (Yn (TV n)),0)else _)=_
  rw[h1,h2,h3];rfl

end
end Go.Proofs.YtammalmlbabpbaaGreat.J
