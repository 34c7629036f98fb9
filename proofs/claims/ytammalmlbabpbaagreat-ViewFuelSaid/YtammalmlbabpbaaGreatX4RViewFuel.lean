/- Texts of this proof, laid together. -/
import Derived.Test.YtammalmlbabpbaaGreatX3RViewFuel
import Derived.Laws.MakeOwn
import Derived.MapKept
import Derived.Lib.ConvBytes
import Derived.Laws.AppendOwn
import Derived.Laws.StructEq
import Derived.Laws.Cover1
import Derived.Shelf.SlSortCmp.WholeK
import Derived.Shelf.SlSortCmp.NoneTotal
import Derived.Ground.SlsfProg
set_option linter.unusedVariables false
set_option linter.unusedSimpArgs false
namespace Go.Proofs.YtammalmlbabpbaaGreat.J
open Go Go.RowKit
section
/- Walks: both walks over an expression. -/
set_option maxRecDepth 10000
set_option maxHeartbeats 4000000
theorem EX.chks_cons{is:List EX}{j:Nat}(h:j<is.length)(lev n:Int):EX.chks (is.drop j) lev n=if(EX.chk is[j] (lev+1) n).1≠0 then EX.chk is[j] (lev+1) n else EX.chks (is.drop (j+1)) lev (EX.chk is[j] (lev+1) n).2:=by
  rw[List.drop_eq_getElem_cons h,EX.chks]
theorem EX.depths_cons{is:List EX}{j:Nat}(h:j<is.length):EX.depths (is.drop j)=max is[j].depth (EX.depths (is.drop (j+1))):=by
  rw[List.drop_eq_getElem_cons h,EX.depths]
def EWR(v:EX)(lev p d:Int)(bw:Nat):Wi→List Own→Prop:=PanR ((v.chk lev p).1=0) (WS (v.chk lev p).1) fun x o=>x=.tup []∧o=[wk bw (v.chk lev p).2 (max d (lev+v.depth-1))]
theorem Qbb:∀(n:Nat) {v:EX} {ys:List AV} {fr:Bool} {lev p d:Int} {bw:Nat},Xc fr v ys→v.wf→1≤lev∧lev≤9→0≤p∧p≤64→v.sz≤n→
    AC Tryz.prog 195 [wk bw p d] [.c (.pointer (some ⟨bw,0,none⟩)),.agg ys,.c (.int .i64 lev)] (EWR v lev p d bw):=by
  intro n
  induction n with
  |zero=>intro v ys fr lev p d bw hv hw hl hp h;exact absurd h (by have:=EX.sz_pos v;omega)
  |succ n ih=>
    intro v ys fr lev p d bw hv hw hl hp hn
    obtain⟨o,b,t,is⟩:=v
    subst hv
    obtain⟨-,-,-,hi80,hwi⟩:=hw.inv
    have hi64:is.length≤9223372036854775806:=by unfold Qr at hi80;omega
    refine AC.of_J Tryz.func195 rfl Tryz.ntmps195 rfl fun w0 A0=>?_
    refine Zs (Qp (.r rfl) rfl fun b4=>Zn (Zs (Zm rfl (Zq rfl (QW.leq (.r rfl) .const) ?_))))
    refine Qn [] N3 rfl Lent.nil (fun _=>(.cons (.r rfl) (.cons .const .nil))) (NQ _ _) (.inl rfl) (fun k10 x10 o10 h10=>?_) (fun k10=>?_)
    rotate_left
    · skip
      refine thenQ.p ?_
      exact⟨_,QG [.k,.k] _,_,rfl,rfl,Qk [.k,.k] _,PanR.of (by simp[EX.chk,show 8<lev by simpa using k10]) (by decide)⟩
    obtain⟨rfl,rfl⟩:=h10
    refine Zn (Zs ?_)
    have hk10:lev≤8:=by simpa using k10
    refine Zm rfl (Zu rfl (Zd Ls rfl (Zl 1 UB rfl (Zq rfl (QW.lss (.r rfl) .const) ?_))))
    refine Qn [] N3 rfl Lent.nil (fun _=>(.cons (.r rfl) (.cons .const .nil))) (NQ _ _) (.inl rfl) (fun k16 x16 o16 h16=>?_) (fun k16=>?_)
    rotate_left
    · skip
      refine thenQ.p ?_
      exact⟨_,QG [.k,.k] _,_,rfl,rfl,Qk [.k,.k] _,PanR.of (by simp[EX.chk,show ¬8<lev by omega,show 64≤p by simpa using k16]) (by decide)⟩
    obtain⟨rfl,rfl⟩:=h16
    refine Zn (Zs ?_)
    have hk16:p<64:=by simpa using k16
    refine Zq rfl (Qd 0 Q7 (.r rfl) rfl rfl rfl) (Zq rfl (QW.call QaE (.cons (.r rfl) .nil) (PH Xc.mk)) ?_)
    refine Qn [] N3 rfl Lent.nil (fun _=>(.cons (.r rfl) (.cons .const .nil))) (NQ _ _) (.inl rfl) (fun k19 x19 o19 h19=>?_) (fun k19=>?_)
    rotate_left
    · skip
      refine thenQ.p ?_
      exact⟨_,QG [.k,.k] _,_,rfl,rfl,Qk [.k,.k] _,PanR.of (by simp[EX.chk,show ¬8<lev by omega,show ¬64≤p by omega,show(EX.mk o b t is).ok=false by simpa using k19]) (by decide)⟩
    obtain⟨rfl,rfl⟩:=h19
    refine Zn (Zs ?_)
    have hk19:(EX.mk o b t is).ok=true:=k19
    refine Zm rfl (Zu rfl (Zd Ls rfl (Zl 1 UB rfl (Zq rfl (QW.add (.r rfl) .const (YZ (by omega))) (Zu rfl (Zd Ls rfl (JL.store_box 1 UB (.r rfl) rfl (.r rfl) rfl rfl rfl rfl rfl (Zn (Zs ?_)))))))))
    refine Zm rfl (Zm rfl (Zu rfl (Zd Rc rfl (Zl 1 UB rfl (Zm rfl (Zq rfl (QW.max2 (.r rfl) (.r rfl)) (Zu rfl (Zd Rc rfl (JL.store_box 1 UB (.r rfl) rfl (.r rfl) rfl rfl rfl rfl rfl ?_)))))))))
    refine Zn (Zs (Zd Wu rfl (Zl 0 Km rfl (Zq rfl (QC Yd (.r rfl)) (Zq rfl (QW.move .const) (Zn (J.block ?_)))))))
    have hck:EX.chk (.mk o b t is) lev p=EX.chks is lev (p+1):=by unfold EX.chk;rw[if_neg (by omega),if_neg (by omega),if_neg (by simp[hk19])]
    refine Ub (ι:=Nat×Int×Int) [0,2,37,38] (fun⟨j,q,e⟩=>[(39,.c (.int .i64 (j:Int)))]) (fun⟨j,q,e⟩ oo=>List.set oo 1 (wk bw q e)) (fun⟨j,q,e⟩=>j≤is.length∧EX.chks is lev (p+1)=EX.chks (is.drop j) lev q∧max e (lev+EX.depths (is.drop j))=max d (lev+EX.depths is)∧(0≤q∧q≤64∧lev≤e)) (fun⟨j,q,e⟩=>is.length-j) ⟨0,p+1,if lev>d then lev else d⟩ (⟨Nat.zero_le _,rfl,by have:=EX.depths_nonneg is;rw[List.drop_zero];split<;>omega,by split<;>omega⟩) (QT (.cons rfl lr (.cons rfl lr (.cons rfl lr (.cons rfl lr (.cons rfl lr .nil))))) (Reown.refl _) (fun _ h=>by first|exact h|simp[h])) ?_
    intro⟨j,q,e⟩ ⟨hj,hcs,hde,hq⟩
    refine J.conv (by(try simp only[nl,Qj,Qv,Qw,Qu,QY,AV.cellsOf,Qb,Qc,Nat.reduceAdd]);rfl) ?_
    refine Zs (Zq rfl (QW.lss (.r rfl) (.r rfl)) (Zn (J.seq ?_)))
    refine J.cond (.r rfl) (fun c1=>?_) (fun c1=>?_)
    · skip
      have hlt:j<is.length:=by simpa[EX.css_length]using c1
      refine Zk (J.seq (J.block (Zs (Zq rfl (Qi Yd Q7 rfl (.r rfl) (.r rfl) rfl (by exact EX.css_getE _ hlt)) ?_))))
      refine Zq rfl (Qo Q7 (.r rfl) (QJ xl rfl) xl) (JL.alloc Se rfl rfl fun b7=>Qa 0 Q7 (.r rfl) rfl (.r rfl) rfl xl rfl rfl (Zn (Qg (Zm rfl (Zq rfl (Qd 0 Q7 (.r rfl) rfl (Qm xl rfl) xl) (Zm rfl (Zq rfl (QW.add (.r rfl) .const (YZ (by omega))) ?_)))))))
      refine Qn [.k,.k,.p] E4 rfl Lent.nil (fun _=>(.cons (.r rfl) (.cons (.r rfl) (.cons (.r rfl) .nil)))) (ih (Xc.self) (hwi _ (List.getElem_mem _)) (by omega) (by omega) (EX.sz_get hn hlt)) (.inl rfl) (fun k47 x47 o47 h47=>?_) (fun k47=>?_)
      rotate_left
      · skip
        refine blkQ.p (thenQ.p (thenQ.p (blkQ.p ?_)))
        rw[EX.chks_cons hlt,if_pos k47]at hcs
        have he:=hck.trans hcs
        exact⟨_,QG [.k,.k] _,_,rfl,rfl,Qk [.k,.k] _,PanR.of (by rw[he]) k47⟩
      obtain⟨rfl,rfl⟩:=h47
      refine JL.nil (blkQ.n (thenQ.n (Qg (Zq rfl (QW.add (.r rfl) .const (YZ (by omega))) (Zm rfl (Zn ?_))))))
      have hb:=EX.chk_bounds is[j] (lev+1) q
      rw[EX.chks_cons hlt,if_neg (by simp[k47])]at hcs
      rw[EX.depths_cons hlt]at hde
      exact⟨⟨j+1,(EX.chk is[j] (lev+1) q).2,max e (lev+1+is[j].depth -1)⟩,⟨hlt,hcs,by omega,by omega⟩,by show is.length-(j+1)<is.length-j;omega,QT (.cons rfl lr (.cons rfl lr (.cons rfl lr (.cons rfl lr (.cons rfl lr .nil))))) (Q3 1 _ rfl) (fun _ h=>by first|exact h|simp[h])⟩
    have hge:is.length≤j:=by simpa[EX.css_length]using c1
    refine J.exit (Qz (Qz (Q1 ?_)))
    obtain rfl:j=is.length:=by omega
    simp only[List.drop_length,EX.chks,EX.depths]at hcs hde
    have he:=hck.trans hcs
    exact Zr [.k,.p] (RetEv.none rfl) rfl (PanR.ret (by rw[he]) ⟨rfl,by rw[he];unfold EX.depth;rw[show max d (lev+(1+EX.depths is)-1)=e by omega];rfl⟩)

end
section
/- Walks: sizes, checks of expressions; are two one. -/
set_option maxRecDepth 10000
set_option maxHeartbeats 4000000
theorem Bg(c:Nat)(z:Int):AC Tryz.prog 194 [UC c z] [.c .nilIface,.c (.pointer (some ⟨c,0,none⟩))] (YX fun x o=>x=.c (.bool false)∧o=[UC c z]):=by
  refine AC.of_J Tryz.func194 rfl Tryz.ntmps194 rfl fun w0 A0=>?_
  refine Zs (Zq rfl (QW.assign .const) (Zn (Zs (Zm rfl (Zq rfl (Yz ⟨_,Tryz.underlying47,by intro ms h;cases h⟩ KL (.r rfl)) ?_)))))
  refine Zm rfl (Zx rfl (Zx rfl (Za rfl (Za rfl (Zn (J.seq (Zs (Zm rfl (Zn ?_)))))))))
  refine J.cond (.r rfl) (fun c1=>absurd c1 (by simp)) (fun c1=>?_)
  exact Zk (Zs (Zm rfl (Za rfl (Zn (J.ret (Zr [.p] (RetEv.one rfl (REv.tmp rfl lr)) rfl ⟨_,rfl,rfl,rfl⟩))))))
theorem Bh(c:Nat)(z e:Int):AC Tryz.prog 194 [UC c z] [.c (WS e),.c (.pointer (some ⟨c,0,none⟩))] (YX fun x o=>x=.c (.bool true)∧o=[UC c e]):=by
  refine AC.of_J Tryz.func194 rfl Tryz.ntmps194 rfl fun w0 A0=>?_
  refine Zs (Zq rfl (QW.assign .const) (Zn (Zs (Zm rfl (Zq rfl (YA ⟨_,Tryz.underlying47,by intro ms h;cases h⟩ (.r rfl)) ?_)))))
  refine Zm rfl (Zx rfl (Zx rfl (Za rfl (Za rfl (Zn (J.seq (Zs (Zm rfl (Zn ?_)))))))))
  refine J.cond (.r rfl) (fun c1=>?_) (fun c1=>absurd c1 (by simp))
  refine Qg (Zm rfl (Zm rfl (Zu rfl (JL.store_box 0 Wc (.r rfl) rfl (.r rfl) rfl rfl rfl rfl rfl (Zn (Zs (Zm rfl (Za rfl (Zn ?_)))))))))
  exact J.ret (Zr [.p] (RetEv.one rfl (REv.tmp rfl lr)) rfl ⟨_,rfl,rfl,rfl⟩)
theorem DM(a b c:Nat)(x y z:Int):DC Tryz.prog 193 [UC a x,UC c z,UC b y] [.c (.pointer (some ⟨a,0,none⟩)),.c (.pointer (some ⟨b,0,none⟩)),.c (.pointer (some ⟨c,0,none⟩))] .returning fun r u' o=>r=.ret (.tup [])∧u'=.returning∧o=[UC a x,UC c z,UC b y]:=by
  refine DC.of_JD Tryz.func193 rfl Tryz.ntmps193 rfl fun w0 A0=>?_
  refine JD.seq (Ua rfl rfl (.inl ⟨rfl,rfl,rfl⟩) rfl (JL.callRF [.p] E5 rfl Lent.nil (fun _=>(.cons (.r rfl) (.cons (.r rfl) .nil))) (Bg _ _) (.inl rfl) fun x4 o4 h4=>?_))
  obtain⟨rfl,rfl⟩:=h4
  refine JL.nil ?_
  refine YB ?_
  refine JD.of_J rfl ?_
  refine J.cond (.r rfl) (fun c1=>absurd c1 (by simp)) (fun c1=>?_)
  refine J.skip ?_
  exact⟨_,QG [.p,.p,.p] _,_,RetEv.none rfl,rfl,Qk [.p,.p,.p] _,⟨rfl,rfl,rfl⟩⟩
theorem DN(a b c:Nat)(x y z e:Int):DC Tryz.prog 193 [UC a x,UC c z,UC b y] [.c (.pointer (some ⟨a,0,none⟩)),.c (.pointer (some ⟨b,0,none⟩)),.c (.pointer (some ⟨c,0,none⟩))] (.panicking [{v:=WS e,recovered:=false}]) fun r u' o=>r=.ret (.tup [])∧u'=.panicking [{v:=WS e,recovered:=true}]∧o=[UC a e,UC c 0,UC b 0]:=by
  refine DC.of_JD Tryz.func193 rfl Tryz.ntmps193 rfl fun w0 A0=>?_
  refine JD.seq (Ua rfl rfl (.inr ⟨[],rfl,rfl⟩) rfl (JL.callRF [.p] E5 rfl Lent.nil (fun _=>(.cons (.r rfl) (.cons (.r rfl) .nil))) (Bh _ _ _) (.inl rfl) fun x4 o4 h4=>?_))
  obtain⟨rfl,rfl⟩:=h4
  refine JL.nil ?_
  refine YB ?_
  refine JD.of_J rfl ?_
  refine J.cond (.r rfl) (fun c1=>?_) (fun c1=>absurd c1 (by simp))
  refine Qg (JL.store_box 2 UB (.r rfl) rfl .const rfl rfl rfl rfl rfl (JL.store_box 1 UB (.r rfl) rfl .const rfl rfl rfl rfl rfl (JL.nil ?_)))
  exact⟨_,QG [.p,.p,.p] _,_,RetEv.none rfl,rfl,Qk [.p,.p,.p] _,⟨rfl,rfl,rfl⟩⟩
def GW(v:EX):AV:=.tup [.c (.int .i64 (if v.err=0 then v.cnt else 0)),.c (.int .i64 (if v.err=0 then v.depth else 0)),.c (.int .i64 v.err)]
theorem DK{v:EX}{n d:Int}(h:v.err=0)(hn:n=v.cnt)(hd:d=v.depth):GW v=.tup [.c (.int .i64 n),.c (.int .i64 d),.c (.int .i64 0)]:=by
  subst hn hd;simp[GW,h]
theorem DL{v:EX}{e:Int}(h:¬v.err=0)(he:e=v.err):GW v=.tup [.c (.int .i64 0),.c (.int .i64 0),.c (.int .i64 e)]:=by
  subst he;simp[GW,h]
theorem PG{fr:Bool}{v:EX}{ys:List AV}(hv:Xc fr v ys)(hw:v.wf):Fn Tryz.prog 147 [.agg ys] (GW v):=by
  subst hv
  refine AC.of_JD Tryz.func147 rfl Tryz.ntmps147 rfl fun w0 A0=>?_
  refine Zs (Qp (.r rfl) rfl fun b1=>JL.alloc z3 rfl rfl fun b2=>JL.alloc z3 rfl rfl fun b3=>JL.alloc z47 rfl rfl fun b4=>Zn (Zs (Zq rfl (WJ .nil (.cons (.r rfl) (.cons (.r rfl) (.cons (.r rfl) .nil)))) (JL.defer rfl (.r rfl) (Zn ?_)))))
  refine Zs (JL.alloc z302 rfl rfl fun b5=>Zn (Zs (Zq rfl (Qd 4 Q7 (.r rfl) rfl (Qm xl rfl) xl) ?_)))
  refine Qn [.p] E4 rfl Lent.nil (fun _=>(.cons (.r rfl) (.cons (.r rfl) (.cons .const .nil)))) (Qbb _ Xc.self hw (by omega) (by omega) (Nat.le_refl _)) (.inl rfl) (fun k8 x8 o8 h8=>?_) (fun k8=>?_)
  rotate_left
  · skip
    refine thenQ.p ?_
    exact⟨_,_,[],[_,_,_],QG [.p,.p,.p] _,_,rfl,rfl,E6,Qk [.p,.p,.p] _,DC.mono (DN _ _ _ _ _ _ _) fun r u' o ⟨h1,h2,h3⟩=>by subst h1 h2 h3;exact⟨⟨_,rfl⟩,rfl,_,[],_,U2 rfl (QQ 2 UB rfl rfl rfl lr) (QQ 1 UB rfl rfl rfl lr) (QQ 0 Wc rfl rfl rfl lr),List.Perm.refl _,(congrArg Wi.ret (DL k8 rfl)).symm,rfl⟩⟩
  obtain⟨rfl,rfl⟩:=h8
  refine Zn (J.seq (WX 5 1 (fun os_ ow_ x_ o_=>match os_ with|[]=>(x_=.c undef∧o_=ow_.set 3 (UC b2 (v.chk 1 0).2))|_=>False) mixed (by kernel_rfl) (by kernel_rfl) (by kernel_rfl) rfl ?_))
  refine OutK.quiet [] rfl rfl rfl (fun qs_ qv_ ql_=>(.q rfl (Qf Ls (.r rfl) rfl))) ?_
  refine OutK.quiet [9] rfl rfl rfl (fun qs_ qv_ ql_=>by
      rcases qs_ with _|⟨⟨y0,p0⟩,qs_⟩
      · skip
        exact(.q rfl (Qe 0 UB (.r rfl) rfl rfl))
      rcases qs_ with _|⟨⟨y1,p1⟩,qs_⟩
      · skip
        obtain⟨hr0,_⟩:=qv_
        obtain⟨rfl,rfl⟩:=hr0
        exact(.q rfl (Qe 0 UB (.r rfl) rfl rfl))
      exact absurd ql_ (by simp)) ?_
  refine OutK.quiet [] rfl rfl rfl (fun qs_ qv_ ql_=>(.q rfl (Qf Rc (.r rfl) rfl))) ?_
  refine OutK.quiet [11] rfl rfl rfl (fun qs_ qv_ ql_=>by
      rcases qs_ with _|⟨⟨y0,p0⟩,qs_⟩
      · skip
        exact(.q rfl (Qe 0 UB (.r rfl) rfl rfl))
      rcases qs_ with _|⟨⟨y1,p1⟩,qs_⟩
      · skip
        obtain⟨hr0,_⟩:=qv_
        obtain⟨rfl,rfl⟩:=hr0
        exact(.q rfl (Qe 0 UB (.r rfl) rfl rfl))
      exact absurd ql_ (by simp)) ?_
  refine OutK.store [10] rfl (fun qs_ ow x o h ql_=>by
      obtain rfl:qs_=[]:=List.length_eq_zero_iff.1 (by simpa using ql_)
      exact h.1) rfl rfl rfl (fun qs_ qv_ ql_=>by
      obtain rfl:qs_=[]:=List.length_eq_zero_iff.1 ql_
      exact NA rfl (LStep.store_box 3 UB (.r rfl) rfl (.r rfl) rfl rfl rfl rfl rfl) ⟨rfl,rfl⟩) ?_
  refine .nil fun qs_ qv_ ql_=>?_
  obtain⟨⟨y0,p0⟩,qs_,rfl⟩:∃p t,qs_=p::t:=by(cases qs_ with|nil=>simp at ql_|cons p t=>exact⟨p,t,rfl⟩)
  obtain rfl:qs_=[]:=List.length_eq_zero_iff.1 (by simpa using ql_)
  obtain⟨hr0,_⟩:=qv_
  obtain⟨rfl,rfl⟩:=hr0
  refine JL.conv (by(try simp only[nl,Qj,Qv,Qw,Qu,QY,AV.cellsOf,Qb,Qc,Nat.reduceAdd]);rfl) ?_
  refine JL.store_box 2 UB (.r rfl) rfl (.r rfl) rfl rfl rfl rfl rfl (JL.store_box 1 Wc (.r rfl) rfl .const rfl rfl rfl rfl rfl (Zn (J.ret ?_)))
  exact⟨_,_,[],[_,_,_],QG [.k,.p,.p,.p] _,_,rfl,rfl,E6,Qk [.k,.p,.p,.p] _,DC.mono (DM _ _ _ _ _ _) fun r u' o ⟨h1,h2,h3⟩=>by subst h1 h2 h3;exact⟨⟨_,rfl⟩,rfl,_,[],_,U2 rfl (QQ 2 UB rfl rfl rfl lr) (QQ 1 UB rfl rfl rfl lr) (QQ 0 Wc rfl rfl rfl lr),List.Perm.refl _,(congrArg Wi.ret (DK k8 rfl (by have:=EX.chk_depth v 1 0 k8;omega))).symm,rfl⟩⟩
theorem HE{fr:Bool}{v:EX}{ys:List AV}(hv:Xc fr v ys)(hw:v.wf):Fn Tryz.prog 97 [.agg ys] (.c (.int .i64 v.err)):=by
  subst hv
  refine AC.of_J Tryz.func97 rfl Tryz.ntmps97 rfl fun w0 A0=>?_
  refine Zs (Qp (.r rfl) rfl fun b1=>Zq rfl (QW.assign .const) (Zn (Zs (Zq rfl (Qd 0 Q7 (.r rfl) rfl (Qm xl rfl) xl) (Zq rfl (QW.call QaR (.cons (.r rfl) .nil) (PG (Xc.self) (by assumption))) ?_)))))
  refine Zm rfl (Zx rfl (Zx rfl (Zx rfl (Za rfl (Za rfl (Za rfl (Zn (Zs (Zm rfl ?_)))))))))
  exact Za rfl (Zn (J.ret (Zr [.k] (RetEv.one rfl (REv.tmp rfl lr)) rfl ⟨rfl,rfl⟩)))

end
section
/- Walks: are two expressions one; copies; octets that are copied, spoilt, compared. -/
set_option maxRecDepth 10000
set_option maxHeartbeats 4000000
theorem H6{a b:List EX}{k:Nat}(ha:k<a.length)(hb:k<b.length):EX.sames (a.drop k) (b.drop k)=(a[k].same b[k]&&EX.sames (a.drop (k+1)) (b.drop (k+1))):=by
  rw[List.drop_eq_getElem_cons ha,List.drop_eq_getElem_cons hb,EX.sames]
theorem Me:∀{a b:List EX},EX.sames a b=true→a.length=b.length
  |[],[],_=>rfl
  |x::r,y::s,h=>by simp only[EX.sames,Bool.and_eq_true]at h;simp[Me h.2]
  |[],_::_,h=>by simp[EX.sames]at h
  |_::_,[],h=>by simp[EX.sames]at h
theorem Ee{o o':Int}{b b':Nat}{t t':QM}{l l':List EX}:(EX.mk o b t l).same (EX.mk o' b' t' l')=(o==o'&&b==b'&&t==t'&&EX.sames l l'):=by simp[EX.same]
theorem SY(b b':Nat):((b:Int)==(b':Int))=(b==b'):=by rw[Bool.eq_iff_iff];simp only[beq_iff_eq];omega
theorem FA{fr fr2:Bool}{f:FuncId}(hgo:QH Tryz.prog f=true){a b:List EX}(ha:a.length≤9223372036854775806)(hf:∀(j:Nat) (h:j<a.length) (h2:j<b.length),Fn Tryz.prog f [.agg (a[j].cs fr),.agg (b[j].cs fr2)] (.c (.bool (a[j].same b[j])))):Fn Tryz.prog 219 [.sl fr false Rk (EX.css fr a),.sl fr2 false Rk (EX.css fr2 b),.c (.func (.func f) #[] #[])] (.c (.bool (EX.sames a b))):=by
  refine AC.of_J Tryz.func219 rfl Tryz.ntmps219 rfl fun w0 A0=>?_
  refine Zs (Zq rfl (QW.assign .const) (Zn (J.seq (Zs (Zm rfl (Zq rfl (by first|exact Qh Yd (.r rfl) (EX.css_length _ _)|exact QC Yd (.r rfl)|exact QW.len_nil Yd (.r rfl)) ?_))))))
  refine Zm rfl (Zq rfl (by first|exact Qh Yd (.r rfl) (EX.css_length _ _)|exact QC Yd (.r rfl)|exact QW.len_nil Yd (.r rfl)) ?_)
  refine Zq rfl (QW.neq (.r rfl) (.r rfl)) (Zn ?_)
  refine J.cond (.r rfl) (fun c1=>?_) (fun c1=>?_)
  · skip
    skip
    exact Zs (Zq rfl (QW.assign .const) (Zn (J.ret (thenQ.r (Zr [] (RetEv.one rfl (REv.tmp rfl lr)) rfl ⟨U1 (by cases hs:EX.sames a b with|false=>rfl|true=>have:=Me hs;simp[EX.css_length]at c1;omega),rfl⟩)))))
  have hl:a.length=b.length:=by simp[EX.css_length]at c1;omega
  refine Zk (J.seq (Zs (Zm rfl (Zq rfl (by first|exact Qh Yd (.r rfl) (EX.css_length _ _)|exact QC Yd (.r rfl)|exact QW.len_nil Yd (.r rfl)) ?_))))
  refine Zq rfl (QW.move .const) (Zn (J.block (Ub (ι:=Nat) [1,2,15,16] (fun j=>[(17,.c (.int .i64 (j:Int)))]) (fun _ oo=>oo) (fun j=>j≤a.length∧EX.sames a b=EX.sames (a.drop j) (b.drop j)) (fun j=>a.length-j) 0 (⟨Nat.zero_le _,rfl⟩) (QT (.cons rfl lr (.cons rfl lr (.cons rfl lr (.cons rfl lr (.cons rfl lr .nil))))) (Reown.refl _) (fun _ h=>by first|exact h|simp[h])) ?_)))
  intro j ⟨hj,hs⟩
  refine J.conv (by(try simp only[nl,Qj,Qv,Qw,Qu,QY,AV.cellsOf,Qb,Qc,Nat.reduceAdd]);rfl) ?_
  refine Zs (Zq rfl (QW.lss (.r rfl) (.r rfl)) (Zn (J.seq ?_)))
  refine J.cond (.r rfl) (fun c2=>?_) (fun c2=>?_)
  · skip
    have hlt:j<a.length:=by simpa[EX.css_length]using c2
    have hlt2:j<b.length:=by omega
    refine Zk (J.seq (J.block (Zs (Zm rfl (Zq rfl (Qi Yd Q7 rfl (.r rfl) (.r rfl) (by first|rfl|omega|(simp;done)) (by first|exact EX.css_getE _ hlt|exact EX.css_getE _ hlt2)) ?_)))))
    refine Zq rfl (by first|exact Qo Q7 (.r rfl) rfl rfl|exact Qo Q7 (.r rfl) (QJ xl rfl) xl) ?_
    refine JL.alloc Se rfl rfl fun b8=>Za rfl ?_
    first|refine Qa 0 Q7 (.r rfl) rfl (.r rfl) (by first|rfl|assumption) rfl rfl rfl ?_|refine Qa 0 Q7 (.r rfl) rfl (.r rfl) (by first|rfl|assumption) rfl xl rfl ?_|refine Qa 0 Q7 (.r rfl) rfl (.r rfl) (by first|rfl|assumption) xl rfl rfl ?_|refine Qa 0 Q7 (.r rfl) rfl (.r rfl) (by first|rfl|assumption) xl xl rfl ?_|refine JL.store_box 0 Q7 (.r rfl) rfl (.r rfl) (by first|rfl|assumption) rfl rfl rfl rfl ?_|refine JL.store_box 0 Q7 (.r rfl) rfl (.r rfl) (by first|rfl|assumption) xl rfl rfl rfl ?_
    refine Zn (Zs (Zm rfl (Zm rfl (Zq rfl (Qi Yd Q7 rfl (.r rfl) (.r rfl) (by first|rfl|omega|(simp;done)) (by first|exact EX.css_getE _ hlt|exact EX.css_getE _ hlt2)) ?_))))
    refine Zq rfl (by first|exact Qo Q7 (.r rfl) rfl rfl|exact Qo Q7 (.r rfl) (QJ xl rfl) xl) ?_
    refine JL.alloc Se rfl rfl fun b9=>?_
    first|refine Qa 0 Q7 (.r rfl) rfl (.r rfl) (by first|rfl|assumption) rfl rfl rfl ?_|refine Qa 0 Q7 (.r rfl) rfl (.r rfl) (by first|rfl|assumption) rfl xl rfl ?_|refine Qa 0 Q7 (.r rfl) rfl (.r rfl) (by first|rfl|assumption) xl rfl rfl ?_|refine Qa 0 Q7 (.r rfl) rfl (.r rfl) (by first|rfl|assumption) xl xl rfl ?_|refine JL.store_box 0 Q7 (.r rfl) rfl (.r rfl) (by first|rfl|assumption) rfl rfl rfl rfl ?_|refine JL.store_box 0 Q7 (.r rfl) rfl (.r rfl) (by first|rfl|assumption) xl rfl rfl rfl ?_
    refine Zn (Zs (Zm rfl (Zq rfl (by first|exact Qd 1 Q7 (.r rfl) rfl rfl rfl|exact Qd 1 Q7 (.r rfl) rfl (Qm xl rfl) xl) ?_)))
    refine Zq rfl (by first|exact Qd 0 Q7 (.r rfl) rfl rfl rfl|exact Qd 0 Q7 (.r rfl) rfl (Qm xl rfl) xl) ?_
    refine Zq rfl (QW.callV hgo (.r rfl) (.cons (.r rfl) (.cons (.r rfl) .nil)) rfl (hf j hlt hlt2)) (Zq rfl (QW.not (.r rfl)) (Zn ?_))
    refine J.cond (.r rfl) (fun c3=>?_) (fun c3=>?_)
    · skip
      simp at c3
      exact Zs (Zq rfl (QW.assign .const) (Zn (J.ret (blkQ.r (thenQ.r (thenQ.r (blkQ.r (thenQ.r (Zr [.k,.k] (RetEv.one rfl (REv.tmp rfl lr)) rfl ⟨U1 (by rw[hs,H6 hlt hlt2,c3];rfl),rfl⟩)))))))))
    simp at c3
    refine J.skip (blkQ.n (thenQ.n (Qg (Zq rfl (QW.add (.r rfl) .const (by first|exact Wl (by first|rfl|omega|(simp;done)) (by omega)|exact YZ (by omega)|rfl)) ?_))))
    refine Zm rfl (Zn ?_)
    rw[H6 hlt hlt2,c3,Bool.true_and]at hs
    exact⟨j+1,⟨hlt,hs⟩,by omega,QT (.cons rfl lr (.cons rfl lr (.cons rfl lr (.cons rfl lr (.cons rfl lr .nil))))) (Q3 2 _ rfl) (fun _ h=>by first|exact h|simp[h])⟩
  have hge:a.length≤j:=by simpa[EX.css_length]using c2
  exact J.exit (Qz (Qz (Q1 (thenQ.n (Zs (Zq rfl (QW.assign .const) (Zn (J.ret (Zr [] (RetEv.one rfl (REv.tmp rfl lr)) rfl ⟨U1 (by rw[hs,List.drop_of_length_le hge,List.drop_of_length_le (by omega),EX.sames]),rfl⟩)))))))))
theorem PK:∀(n:Nat) {v u:EX} {ys zs:List AV} {fr fr2:Bool},Xc fr v ys→Xc fr2 u zs→v.wf→u.wf→v.sz≤n→
    Fn Tryz.prog 190 [.agg ys,.agg zs] (.c (.bool (v.same u))):=by
  intro n
  induction n with
  |zero=>intro v u ys zs fr fr2 hv hu hw hw2 h;exact absurd h (by have:=EX.sz_pos v;omega)
  |succ n ih=>
    intro v u ys zs fr fr2 hv hu hw hw2 hn
    obtain⟨o,b,t,is⟩:=v
    obtain⟨o',b',t',is'⟩:=u
    subst hv hu
    obtain⟨-,-,-,hi80,hwi⟩:=hw.inv
    obtain⟨-,-,-,hi80',hwi'⟩:=hw2.inv
    have h1:is.length≤9223372036854775806:=by unfold Qr at hi80;omega
    have h2:is'.length≤9223372036854775806:=by unfold Qr at hi80';omega
    refine AC.of_J Tryz.func190 rfl Tryz.ntmps190 rfl fun w0 A0=>?_
    refine Zs (Qp (.r rfl) rfl fun b2=>Qp (.r rfl) rfl fun b3=>Zq rfl (QW.assign .const) (Zn (Zs (Zd Yn rfl (Zl 1 UB rfl (Zd Yn rfl (Zl 0 UB rfl ?_)))))))
    refine Zq rfl (QW.eql (.r rfl) (.r rfl)) (Zm rfl (Zg rfl (fun hg=>(Qf HC (.r rfl) rfl)) (Zg rfl (fun hg=>(Qe 1 WM (.when rfl hg) rfl rfl)) (Zg rfl (fun hg=>(Qf HC (.r rfl) rfl)) (Zg rfl (fun hg=>(Qe 0 WM (.when rfl hg) rfl rfl)) (Zg rfl (fun hg=>(QW.eql (.when rfl hg) (.when rfl hg))) (Zq rfl (QW.pick_and (.r rfl) (.r rfl)) (Zm rfl (Zg rfl (fun hg=>(Qf HB (.r rfl) rfl)) ?_)))))))))
    refine Zg rfl (fun hg=>(Qe 1 U0 (.when rfl hg) rfl rfl)) (Zg rfl (fun hg=>(Qf HB (.r rfl) rfl)) (Zg rfl (fun hg=>(Qe 0 U0 (.when rfl hg) rfl rfl)) (Zg rfl (fun hg=>(WW (.when rfl hg) (.when rfl hg))) (Zq rfl (QW.pick_and (.r rfl) (.r rfl)) (Zm rfl (Zg rfl (fun hg=>(Qf Wu (.r rfl) rfl)) (Zg rfl (fun hg=>(Qe 1 Km (.when rfl hg) rfl rfl)) (Zg rfl (fun hg=>(Qf Wu (.r rfl) rfl)) (Zg rfl (fun hg=>(Qe 0 Km (.when rfl hg) rfl rfl)) ?_)))))))))
    exact Zg rfl (fun hg=>(QW.call QaG (.cons (.when rfl hg) (.cons (.when rfl hg) (.cons .func .nil))) (FA E7 h1 (fun j h h2=>ih Xc.self Xc.self (hwi _ (List.getElem_mem h)) (hwi' _ (List.getElem_mem h2)) (EX.sz_get hn h))))) (Zq rfl (QW.pick_and (.r rfl) (.r rfl)) (Za rfl (Zn (J.ret (Zr [.k,.k] (RetEv.one rfl (REv.tmp rfl lr)) rfl ⟨U1 (by rw[Ee,SY]),rfl⟩)))))
theorem FC{v u:EX}{ys zs:List AV}{fr fr2:Bool}(hv:Xc fr v ys)(hu:Xc fr2 u zs)(hw:v.wf)(hw2:u.wf):Fn Tryz.prog 190 [.agg ys,.agg zs] (.c (.bool (v.same u))):=PK _ hv hu hw hw2 (Nat.le_refl _)
theorem of14_n:∀(n:Nat) {v:EX} {ys:List AV} {fr:Bool},Xc fr v ys→v.wf→v.sz≤n→AC Tryz.prog 41 [] [.agg ys] (YX (Sd v)):=by
  intro n
  induction n with
  |zero=>intro v ys fr hv hw h;exact absurd h (by have:=EX.sz_pos v;omega)
  |succ n ih=>
    intro v ys fr hv hw hn
    obtain⟨o,b,t,is⟩:=v
    subst hv
    obtain⟨-,-,-,hi80,hwi⟩:=hw.inv
    have h1:is.length≤9223372036854775806:=by unfold Qr at hi80;omega
    refine AC.of_J Tryz.func41 rfl Tryz.ntmps41 rfl fun w0 A0=>?_
    refine Zs (Qp (.r rfl) rfl fun b1=>JL.alloc Se rfl rfl fun b2=>Zn (Zs (Zd fo25_0 rfl (Zl 1 UB rfl (Zd fo25_1 rfl (Zl 1 WM rfl (Zd fo25_2 rfl ?_)))))))
    refine Zl 1 U0 rfl (Zq rfl (QW.build (idx:=[0,1,2]) pl36 Se rfl (.cons (.r rfl) (.cons (.r rfl) (.cons (.r rfl) .nil))) rfl rfl rfl rfl) (JL.alloc Se rfl rfl fun b3=>Qa 0 Q7 (.r rfl) rfl (.r rfl) rfl rfl rfl rfl (Zn (J.seq (Zs (Zq rfl (QW.assign .const) (Zn (J.block ?_))))))))
    refine J.reown (Ur Rk _) (J.reown (XH _) (Ub (ι:=Nat×Value×List (List AV)×List Value×Own) [1,2,3] (fun⟨j,v,cs,us,g⟩=>[(4,.c (.int .i64 (j:Int)))]) (fun⟨j,v,cs,us,g⟩ oo=>List.set (List.set (List.set oo 0 (.box b3 ((EX.mk o b t is).raw v))) 3 (.arr v Rk cs)) 4 (g)) (fun⟨j,v,cs,us,g⟩=>j≤is.length∧EKids (is.take j) cs us g) (fun⟨j,v,cs,us,g⟩=>is.length-j) ⟨0,.slice none 0 0,[],[],.grp []⟩ (⟨Nat.zero_le _,.nil⟩) (QT (.cons rfl lr (.cons rfl lr (.cons rfl lr (.cons rfl lr .nil)))) (Reown.refl _) (fun _ h=>by first|exact h|simp[h])) ?_))
    intro⟨j,v,cs,us,g⟩ ⟨hj,hK⟩
    refine J.conv (by(try simp only[nl,Qj,Qv,Qw,Qu,QY,AV.cellsOf,Qb,Qc,Nat.reduceAdd]);rfl) ?_
    refine J.seq (Zs (Zm rfl (Zd Pu rfl (Zl 2 ty23 rfl (Zq rfl (Qh sl23 (.r rfl) (EX.css_length _ _)) (Zq rfl (QW.lss (.r rfl) (.r rfl)) (Zn ?_)))))))
    refine J.cond (.r rfl) (fun c1=>?_) (fun c1=>?_)
    · skip
      have hlt:j<is.length:=by simpa[EX.css_length]using c1
      refine Zk (J.seq (J.block (QO mixed (Zf 0 [] rfl (fun _=>Qf Wu (.r rfl) rfl) (Zo 1 0 [19] rfl (fun _ ho_=>Qe 0 Km (.r rfl) ho_ rfl) (Zf 2 [] rfl (fun _=>Qf Pu (.r rfl) rfl) (Zo 3 2 [21] rfl (fun _ ho_=>Qe 2 ty23 (.r rfl) ho_ rfl) (Zf 4 [] rfl (fun _=>QW.move (.r rfl)) (Zf 5 [22,23] rfl (fun _=>Qi sl23 Hh rfl (.r rfl) (.r rfl) rfl (by exact EX.css_getE _ hlt)) ?_)))))))))
      refine Zf 6 [24] rfl (fun _=>Qo Hh (.r rfl) (QJ xl rfl) xl) (JX.one 7 [true,true,true,true,true,false,false] rfl (by kernel_rfl) (by kernel_rfl) rfl rfl (by kernel_rfl) rfl fun bs7_ pe_ ex_=>?_)
      refine JL.conv (by(try simp only[Uc,Ui,Q5,QR,Flt.val,Flt.bx,nx,nl,Qj,Qv,Qw,Qu,QY,AV.cellsOf,Qb,Qc,Nat.reduceAdd]);rfl) ?_
      refine JL.callRF [] NY rfl Lent.nil (fun _=>(.cons (.r rfl) .nil)) (ih Xc.self (hwi _ (List.getElem_mem _)) (EX.sz_get hn hlt)) (.inl rfl) fun x26 o26 h26=>?_
      obtain⟨iv26,oi26,rfl,rfl,hV26⟩:=h26
      refine JL.nil ?_
      refine thenQ.n ⟨[_],_,rfl,rfl,rfl,rfl,rfl,U4 5 rfl rfl,⟨rfl,rfl⟩,⟨rfl,⟨trivial,trivial⟩⟩,?_⟩
      refine JX.conv (S':=[7,6,5,4,3,2]) rfl (by(try simp only[QR]);rfl) (by(try simp only[Uc,Ui,Q5,QR,Flt.val,Flt.bx,nx,nl,Qj,Qv,Qw,Qu,QY,AV.cellsOf,Qb,Qc,Nat.reduceAdd]);rfl) ?_
      refine Zf 8 [26] rfl (fun _=>QW.buildSlice (idx:=[0]) (xs:=[is[j].raw iv26]) Yd el36 Se rfl (.cons (.r rfl) .nil) rfl rfl rfl rfl rfl rfl rfl rfl rfl) (JX.one 9 [true,true,true] rfl (by kernel_rfl) (by kernel_rfl) rfl rfl (by kernel_rfl) rfl fun bs9_ pe_ ex_=>?_)
      refine JL.conv (by(try simp only[Uc,Ui,Q5,QR,Flt.val,Flt.bx,nx,nl,Qj,Qv,Qw,Qu,QY,AV.cellsOf,Qb,Qc,Nat.reduceAdd]);rfl) ?_
      refine JL.append 3 Yd el36 rfl (.r rfl) rfl (Ww Yd (.r rfl)) (by have:=hK.h2;rw[List.length_take]at this;simp;unfold Qr at*;omega) rfl fun v28=>?_
      refine JL.nil ?_
      refine thenQ.n ⟨[_],_,rfl,rfl,rfl,rfl,rfl,QK 6 rfl,⟨rfl,rfl⟩,trivial,?_⟩
      refine JX.conv (S':=[9,8,1,0,7,6,5,4,3,2]) rfl (by(try simp only[QR]);rfl) (by(try simp only[Uc,Ui,Q5,QR,Flt.val,Flt.bx,nx,nl,Qj,Qv,Qw,Qu,QY,AV.cellsOf,Qb,Qc,Nat.reduceAdd]);rfl) ?_
      refine Zf 10 [] rfl (fun _=>Qf Wu (.r rfl) rfl) (JX.one 11 [true] rfl (by kernel_rfl) (by kernel_rfl) rfl rfl (by kernel_rfl) rfl fun bs11_ pe_ ex_=>?_)
      refine JL.conv (by(try simp only[Uc,Ui,Q5,QR,Flt.val,Flt.bx,nx,nl,Qj,Qv,Qw,Qu,QY,AV.cellsOf,Qb,Qc,Nat.reduceAdd]);rfl) ?_
      refine JL.isSlice 3 rfl fun hs2=>JL.store_box 0 Km (.r rfl) rfl (.r rfl) (by assumption) rfl rfl rfl rfl ?_
      refine JL.nil ?_
      refine thenQ.n ⟨[],_,rfl,rfl,rfl,rfl,rfl,QK 6 rfl,trivial,trivial,?_⟩
      refine JX.conv (S':=[11,10,9,8,1,0,7,6,5,4,3,2]) rfl (by(try simp only[QR]);rfl) (by(try simp only[Uc,Ui,Q5,QR,Flt.val,Flt.bx,nx,nl,Qj,Qv,Qw,Qu,QY,AV.cellsOf,Qb,Qc,Nat.reduceAdd]);rfl) ?_
      refine JX.fin (by kernel_rfl) (by kernel_rfl) fun bs_=>?_
      refine QX.conv (by(try simp only[Uc,Ui,Q5,QR,Flt.val,Flt.bx,nx,nl,Qj,Qv,Qw,Qu,QY,AV.cellsOf,Qb,Qc,Nat.reduceAdd]);rfl) ?_
      refine blkQ.n (thenQ.n (Qg (Zm rfl (Zq rfl (QW.add (.r rfl) .const (YZ (by omega))) (Za rfl (Zn ?_))))))
      exact⟨⟨j+1,_,_,_,_⟩,⟨hlt,by rw[List.take_succ_eq_append_getElem hlt];exact hK.snoc hV26⟩,by show is.length-(j+1)<is.length-j;omega,QT (.cons rfl lr (.cons rfl lr (.cons rfl lr (.cons rfl lr .nil)))) ((Reown.cons (Reown.cons (Reown.cons (Reown.cons (W7 _ _ _)))))) (fun _ h=>by first|exact h|simp[h])⟩
    have hge:is.length≤j:=by simpa[EX.css_length]using c1
    refine J.exit (Qz (Qz (Q1 (thenQ.n (J.seq (J.isSlice 3 rfl fun hs1=>J.reown (Reown.cons (Reown.cons (Reown.cons (W7 _ _ _)))) (Qg (Zq rfl (Qd 0 Q7 (.r rfl) rfl rfl rfl) ?_))))))))
    refine Qa 1 Q7 (.r rfl) rfl (.r rfl) rfl rfl rfl rfl (Zn (J.ret ?_))
    obtain rfl:j=is.length:=by omega
    rw[List.take_length]at hK
    exact Zr [.k,.k,.k,.p] (RetEv.one rfl (REv.cell 1 Q7 rfl rfl rfl rfl lr)) rfl ⟨_,rfl,_,_,rfl,rfl,hs1,hK.tr hi80⟩
theorem BW{v:EX}{ys:List AV}{fr:Bool}(hv:Xc fr v ys)(hw:v.wf):AC Tryz.prog 41 [] [.agg ys] (YX (Sd v)):=of14_n _ hv hw (Nat.le_refl _)
theorem NP{v:EX}{ys:List AV}{fr:Bool}(hv:Xc fr v ys)(hw:v.wf):Fn Tryz.prog 41 [.agg ys] (.agg (v.cs true)):=Ec (BW hv hw)

end
section
/- Walks: an expression over a scope, with fuel. -/
set_option maxRecDepth 10000
set_option maxHeartbeats 4000000
def zV:List AV:=[.c (.int .i64 0),.c (.int .u64 0),.c (Q4 []),.c (.slice none 0 0),.c (.slice none 0 0)]
def ScT.cs(s:ScT):List AV:=s.st.cs false++s.ev.cs false++s.it.cs false
def Bw(r:V×Int×Int):AV:=.tup [.agg (r.1.cs true),.c (.int .i64 r.2.1),.c (.int .i64 r.2.2)]
theorem SC{e:EX}{s:ScT}{f c:Int}(h:e.ev s f=.error c):MG e s f=(.nil,0,c):=by unfold MG;rw[h]
theorem SA{e:EX}{s:ScT}{f f':Int}{v:V}(h:e.ev s f=.ok (v,f')):MG e s f=(v,f',0):=by unfold MG;rw[h]
theorem Bx(a b c:Nat)(zs:List AV)(y z:Int):DC Tryz.prog 209 [UC c z,UC b y,.box a zs] [.c (.pointer (some ⟨a,0,none⟩)),.c (.pointer (some ⟨b,0,none⟩)),.c (.pointer (some ⟨c,0,none⟩))] .returning fun r u' o=>r=.ret (.tup [])∧u'=.returning∧o=[UC c z,UC b y,.box a zs]:=by
  refine DC.of_JD Tryz.func209 rfl Tryz.ntmps209 rfl fun w0 A0=>?_
  refine JD.seq (Ua rfl rfl (.inl ⟨rfl,rfl,rfl⟩) rfl (Zq rfl (Yz ⟨_,Tryz.underlying47,by intro ms h;cases h⟩ KL (.r rfl)) ?_))
  refine Zm rfl (Zx rfl (Zx rfl (Za rfl (Za rfl (JL.nil ?_)))))
  refine YB ?_
  refine JD.of_J rfl (Zs (Zm rfl (Zn ?_)))
  refine J.cond (.r rfl) (fun c1=>absurd c1 (by simp)) (fun c1=>?_)
  refine J.skip ?_
  exact⟨_,QG [.p,.p,.p] _,_,RetEv.none rfl,rfl,Qk [.p,.p,.p] _,⟨rfl,rfl,rfl⟩⟩
theorem By(a b c:Nat)(zs:List AV)(hz:zs.length=5)(y z e:Int):DC Tryz.prog 209 [UC c z,UC b y,.box a zs] [.c (.pointer (some ⟨a,0,none⟩)),.c (.pointer (some ⟨b,0,none⟩)),.c (.pointer (some ⟨c,0,none⟩))] (.panicking [{v:=WS e,recovered:=false}]) fun r u' o=>r=.ret (.tup [])∧u'=.panicking [{v:=WS e,recovered:=true}]∧o=[UC c e,UC b 0,.box a zV]:=by
  refine DC.of_JD Tryz.func209 rfl Tryz.ntmps209 rfl fun w0 A0=>?_
  refine JD.seq (Ua rfl rfl (.inr ⟨[],rfl,rfl⟩) rfl (Zq rfl (YA ⟨_,Tryz.underlying47,by intro ms h;cases h⟩ (.r rfl)) ?_))
  refine Zm rfl (Zx rfl (Zx rfl (Za rfl (Za rfl (JL.nil ?_)))))
  refine YB ?_
  refine JD.of_J rfl (Zs (Zm rfl (Zn ?_)))
  refine J.cond (.r rfl) (fun c1=>?_) (fun c1=>absurd c1 (by simp))
  refine Qg (Zq rfl (QW.build (idx:=[]) Kn Yf rfl .nil rfl rfl rfl rfl) (Zm rfl (JL.store_box 2 Ql (.r rfl) rfl (.r rfl) rfl rfl (by rw[hz];rfl) (U3 (by rw[hz];rfl)) rfl ?_)))
  refine JL.store_box 1 UB (.r rfl) rfl .const rfl rfl rfl rfl rfl (JL.store_box 0 Wc (.r rfl) rfl (.r rfl) rfl rfl rfl rfl rfl (JL.nil ?_))
  exact⟨_,QG [.p,.p,.p] _,_,RetEv.none rfl,rfl,Qk [.p,.p,.p] _,⟨rfl,rfl,rfl⟩⟩
theorem run_ok{fr:Bool}{e:EX}{ys:List AV}(he:Xc fr e ys)(hw:e.wf)(hf:e.Fine){s:ScT}(hs:s.good){f:Int}(h0:Hf f):Fn Tryz.prog 169 [.agg ys,.agg s.cs,.c (.int .i64 f)] (Bw (MG e s f)):=by
  subst he
  obtain⟨⟨ka,ua,ta,va,ia⟩,⟨kb,ub,tb,vb,ib⟩,⟨kc,uc,tc,vc,ic⟩⟩:=s
  have hs0:=hs
  refine AC.of_JD Tryz.func169 rfl Tryz.ntmps169 rfl fun w0 A0=>?_
  refine Zs (Qp (.r rfl) rfl fun b3=>Qp (.r rfl) rfl fun b4=>JL.alloc Yf rfl rfl fun b6=>JL.alloc z3 rfl rfl fun b7=>JL.alloc z47 rfl rfl fun b8=>Zn (Zs (Zq rfl (WJ .nil (.cons (.r rfl) (.cons (.r rfl) (.cons (.r rfl) .nil)))) (JL.defer rfl (.r rfl) ?_))))
  refine Zn (Zs (Zq rfl (Qd 3 ty120 (.r rfl) rfl rfl rfl) (Zm rfl (Zq rfl (QW.build (idx:=[0,1]) pl311 z311 rfl (.cons (.r rfl) (.cons (.r rfl) .nil)) rfl rfl rfl rfl) (Qp (.r rfl) rfl fun b14=>Za rfl (Zn (Zs (Zm rfl ?_))))))))
  refine Zq rfl (Qd 5 Q7 (.r rfl) rfl (Qm xl rfl) xl) ?_
  refine Qn [.p] X8 rfl Lent.nil (fun _=>(.cons (.r rfl) (.cons (.r rfl) .nil))) (SZ _ e ⟨⟨ka,ua,ta,va,ia⟩,⟨kb,ub,tb,vb,ib⟩,⟨kc,uc,tc,vc,ic⟩⟩ f b14 fr hw hf hs h0 (Nat.le_refl _)) (.inl rfl) (fun k17 x17 o17 h17=>?_) (fun k17=>?_)
  rotate_left
  · skip
    refine thenQ.p ?_
    exact⟨_,_,[],[_,_,_],QG [.p,.p,.p] _,_,rfl,rfl,E2,Qk [.p,.p,.p] _,DC.mono (By _ _ _ _ rfl _ _ _) fun r u' o ⟨h1,h2,h3⟩=>by subst h1 h2 h3;exact⟨⟨_,rfl⟩,rfl,_,[],_,(U2 rfl (REv.cell 2 Ql rfl rfl rfl rfl (.aggL (.cons lr (.cons lr (.cons lr (.cons (.nil true false _) (.cons (.nil true false _) .nil))))))) (QQ 1 UB rfl rfl rfl lr) (QQ 0 Wc rfl rfl rfl lr)),List.Perm.refl _,(congrArg (fun r=>Wi.ret (Bw r)) (SC (UN k17)).symm),rfl⟩⟩
  obtain⟨v17,f17,hv17,rfl,rfl⟩:=h17
  refine Zq rfl (QW.call L5 (.cons (.r rfl) .nil) (Tv Vc.self (HD hw hf hs h0 hv17).1.wf)) (Qa 3 Ql (.r rfl) rfl (.r rfl) rfl vl rfl rfl (Zn (J.seq (QO mixed (Zo 0 3 [] rfl (fun _ ho_=>Qd 3 Ql (.r rfl) ho_ (Qm vl rfl) vl) (Zf 1 [] rfl (fun _=>QW.move (.r rfl)) (Zf 2 [20] rfl (fun _=>W8 (.r rfl)) (Zf 3 [21] rfl (fun _=>Qf Lr (.r rfl) rfl) (Zo 4 0 [22] rfl (fun _ ho_=>Qe 0 UB (.r rfl) ho_ rfl) ?_)))))))))
  refine JX.one 5 [false,false,false,false,true] rfl (by kernel_rfl) (by kernel_rfl) rfl rfl (by kernel_rfl) rfl fun bs5_ pe_ ex_=>?_
  refine JL.conv (by(try simp only[Uc,Ui,Q5,QR,Flt.val,Flt.bx,nx,nl,Qj,Qv,Qw,Qu,QY,AV.cellsOf,Qb,Qc,Nat.reduceAdd]);rfl) ?_
  refine Qa 3 Ql (.r rfl) rfl (.r rfl) rfl vl vl rfl (JL.nil ?_)
  refine thenQ.n ⟨[],_,rfl,rfl,rfl,rfl,rfl,QK 6 rfl,trivial,⟨rfl,⟨trivial,⟨trivial,⟨trivial,trivial⟩⟩⟩⟩,?_⟩
  refine JX.conv (S':=[5,0]) rfl (by(try simp only[QR]);rfl) (by(try simp only[Uc,Ui,Q5,QR,Flt.val,Flt.bx,nx,nl,Qj,Qv,Qw,Qu,QY,AV.cellsOf,Qb,Qc,Nat.reduceAdd]);rfl) ?_
  refine JX.one 6 [true,true,true,true] rfl (by kernel_rfl) (by kernel_rfl) rfl rfl (by kernel_rfl) rfl fun bs6_ pe_ ex_=>?_
  refine JL.conv (by(try simp only[Uc,Ui,Q5,QR,Flt.val,Flt.bx,nx,nl,Qj,Qv,Qw,Qu,QY,AV.cellsOf,Qb,Qc,Nat.reduceAdd]);rfl) ?_
  refine JL.store_box 2 UB (.r rfl) rfl (.r rfl) rfl rfl rfl rfl rfl (JL.nil ?_)
  refine thenQ.n ⟨[],_,rfl,rfl,rfl,rfl,rfl,QK 6 rfl,trivial,trivial,?_⟩
  refine JX.conv (S':=[6,4,3,2,1,5,0]) rfl (by(try simp only[QR]);rfl) (by(try simp only[Uc,Ui,Q5,QR,Flt.val,Flt.bx,nx,nl,Qj,Qv,Qw,Qu,QY,AV.cellsOf,Qb,Qc,Nat.reduceAdd]);rfl) ?_
  refine JX.one 7 [] rfl (by kernel_rfl) (by kernel_rfl) rfl rfl (by kernel_rfl) rfl fun bs7_ pe_ ex_=>?_
  refine JL.conv (by(try simp only[Uc,Ui,Q5,QR,Flt.val,Flt.bx,nx,nl,Qj,Qv,Qw,Qu,QY,AV.cellsOf,Qb,Qc,Nat.reduceAdd]);rfl) ?_
  refine JL.store_box 1 Wc (.r rfl) rfl .const rfl rfl rfl rfl rfl (JL.nil ?_)
  refine thenQ.n ⟨[],_,rfl,rfl,rfl,rfl,rfl,QK 6 rfl,trivial,trivial,?_⟩
  refine JX.conv (S':=[7,6,4,3,2,1,5,0]) rfl (by(try simp only[QR]);rfl) (by(try simp only[Uc,Ui,Q5,QR,Flt.val,Flt.bx,nx,nl,Qj,Qv,Qw,Qu,QY,AV.cellsOf,Qb,Qc,Nat.reduceAdd]);rfl) ?_
  refine JX.fin (by kernel_rfl) (by kernel_rfl) fun bs_=>?_
  refine QX.conv (by(try simp only[Uc,Ui,Q5,QR,Flt.val,Flt.bx,nx,nl,Qj,Qv,Qw,Qu,QY,AV.cellsOf,Qb,Qc,Nat.reduceAdd]);rfl) ?_
  refine thenQ.n (J.ret ?_)
  exact⟨_,_,[],[_,_,_],QG [.k,.p,.p,.p] _,_,rfl,rfl,E2,Qk [.k,.p,.p,.p] _,DC.mono (Bx _ _ _ _ _ _) fun r u' o ⟨h1,h2,h3⟩=>by subst h1 h2 h3;exact⟨⟨_,rfl⟩,rfl,_,[],_,(U2 rfl (REv.cell 2 Ql rfl rfl (Qm vl rfl) vl lr) (QQ 1 UB rfl rfl rfl lr) (QQ 0 Wc rfl rfl rfl lr)),List.Perm.refl _,(congrArg (fun r=>Wi.ret (Bw r)) (SA hv17).symm),rfl⟩⟩
theorem Mv(s:ScT):s.cs.length=15:=by simp[ScT.cs,V.cs_length]

end
section
/- Programs as plain data: a first state, handlers; what an event makes of a state. -/
structure SetT where
  key:QM
  ex:EX
def eSe:Wq:=⟨5,72⟩
/-! cells -/
def SetT.cs(fr:Bool)(s:SetT):List AV:=.c (Q4 s.key)::s.ex.cs fr
def SetT.css(fr:Bool)(l:List SetT):List (List AV):=l.map (SetT.cs fr)
theorem SetT.cs_length(fr:Bool)(s:SetT):(s.cs fr).length=5:=by simp[SetT.cs,EX.cs_length]
theorem SetT.css_length(fr:Bool)(l:List SetT):(SetT.css fr l).length=l.length:=by simp[SetT.css]
theorem SetT.css_getE(fr:Bool){l:List SetT}{i:Nat}(h:i<l.length):(SetT.css fr l)[i]? =some ((l[i]).cs fr):=by simp[SetT.css,h]
theorem SetT.css_snoc(fr:Bool)(l:List SetT)(x:SetT):SetT.css fr l++[x.cs fr]=SetT.css fr (l++[x]):=by simp[SetT.css]
theorem SetT.at1{fr:Bool}{s:SetT}:((s.cs fr).drop 1).take 4=s.ex.cs fr:=by
  obtain⟨n,⟨a,b,c,d⟩⟩:=s;rfl
/-! what fits a machine -/
structure SetT.wf(s:SetT):Prop where
  key:s.key.length≤Qr
  ex:s.ex.wf
/-! errors -/
def Hz:List Int→Int
  |[]=>0
  |e::r=>if e≠0 then e else Hz r
theorem Pr{l:List Int}(h:Hz l=0):∀x∈l,x=0:=by
  induction l with
  |nil=>intro x hx;cases hx
  |cons y r ih=>
    unfold Hz at h
    by_cases hy:y=0
    · rw[if_neg (fun h=>h hy)]at h
      intro x hx
      rcases List.mem_cons.1 hx with rfl|hx
      · exact hy
      · exact ih h x hx
    · rw[if_pos hy]at h;exact absurd h hy
/-! what an event makes of a state -/

end
section
/- Trees as plain data: cells, what may be, walks. -/
structure AtT where
  name:QM
  value:QM
inductive TrT where
  |mk (tag key text:QM) (attrs:List AtT) (kids:List TrT)
def TrT.tag:TrT→QM|.mk t _ _ _ _=>t
def TrT.key:TrT→QM|.mk _ k _ _ _=>k
def TrT.text:TrT→QM|.mk _ _ x _ _=>x
def TrT.attrs:TrT→List AtT|.mk _ _ _ a _=>a
def TrT.kids:TrT→List TrT|.mk _ _ _ _ l=>l
def DP:Wq:=⟨2,32⟩
def eTr:Wq:=⟨5,96⟩
def AtT.cs(a:AtT):List AV:=[.c (Q4 a.name),.c (Q4 a.value)]
def AtT.css(l:List AtT):List (List AV):=l.map AtT.cs
theorem AtT.css_length(l:List AtT):(AtT.css l).length=l.length:=by simp[AtT.css]
theorem AtT.css_getE{l:List AtT}{i:Nat}(h:i<l.length):(AtT.css l)[i]? =some (l[i].cs):=by simp[AtT.css,h]
theorem AtT.css_sz(l:List AtT):∀x∈AtT.css l,x.length=DP.sz:=fun x hx=>by obtain⟨v,_,rfl⟩:=List.mem_map.1 hx;rfl
theorem AtT.css_snoc(l:List AtT)(x:AtT):AtT.css l++[x.cs]=AtT.css (l++[x]):=by simp[AtT.css]
mutual
def TrT.cs(fr:Bool):TrT→List AV
  |.mk t k x a l=>[.c (Q4 t),.c (Q4 k),.c (Q4 x),.sl fr false DP (AtT.css a),.sl fr false eTr (TrT.css fr l)]
def TrT.css(fr:Bool):List TrT→List (List AV)
  |[]=>[]
  |v::r=>v.cs fr::TrT.css fr r
end
theorem TrT.css_eq(fr:Bool):∀l,TrT.css fr l=l.map (TrT.cs fr)
  |[]=>rfl
  |v::r=>by simp[TrT.css,TrT.css_eq fr r]
theorem TrT.css_length(fr:Bool)(l:List TrT):(TrT.css fr l).length=l.length:=by simp[TrT.css_eq]
theorem TrT.css_getE(fr:Bool){l:List TrT}{i:Nat}(h:i<l.length):(TrT.css fr l)[i]? =some (l[i].cs fr):=by simp[TrT.css_eq,h]
theorem TrT.css_append(fr:Bool)(a b:List TrT):TrT.css fr (a++b)=TrT.css fr a++TrT.css fr b:=by simp[TrT.css_eq]
theorem TrT.cs_length(fr:Bool)(v:TrT):(v.cs fr).length=5:=by cases v;rfl
theorem TrT.css_sz(fr:Bool)(l:List TrT):∀x∈TrT.css fr l,x.length=eTr.sz:=by
  intro x hx
  rw[TrT.css_eq]at hx
  obtain⟨v,_,rfl⟩:=List.mem_map.1 hx
  exact TrT.cs_length fr v
def TrT.nil:TrT:=.mk [] [] [] [] []
structure AtT.wf(a:AtT):Prop where
  name:a.name.length≤Qr
  value:a.value.length≤Qr
inductive TrT.wf:TrT→Prop
  |mk {t k x:QM} {a:List AtT} {l:List TrT} (h1:t.length≤Qr) (h2:k.length≤Qr) (h3:x.length≤Qr) (h4:a.length*32≤Qr) (h5:∀x∈a,AtT.wf x) (h6:l.length*96≤Qr) (h7:∀x∈l,TrT.wf x):TrT.wf (.mk t k x a l)
theorem TrT.wf.inv{t k x:QM}{a:List AtT}{l:List TrT}(h:TrT.wf (.mk t k x a l)):t.length≤Qr∧k.length≤Qr∧x.length≤Qr∧a.length*32≤Qr∧(∀x∈a,AtT.wf x)∧l.length*96≤Qr∧∀x∈l,TrT.wf x:=by
  cases h with|mk h1 h2 h3 h4 h5 h6 h7=>exact⟨h1,h2,h3,h4,h5,h6,h7⟩
theorem TrT.wf_nil:TrT.nil.wf:=.mk (by decide) (by decide) (by decide) (by decide) (fun _ h=>by cases h) (by decide) (fun _ h=>by cases h)
mutual
def TrT.sz:TrT→Nat
  |.mk _ _ _ _ l=>1+TrT.szs l
def TrT.szs:List TrT→Nat
  |[]=>0
  |x::r=>x.sz+TrT.szs r
end
theorem TrT.sz_pos(v:TrT):1≤v.sz:=by cases v;unfold TrT.sz;omega
theorem TrT.szs_mem:∀{l:List TrT} {x:TrT},x∈l→x.sz≤TrT.szs l
  |y::r,x,h=>by
    unfold TrT.szs
    rcases List.mem_cons.1 h with rfl|h
    · omega
    · have:=TrT.szs_mem h;omega
theorem TrT.sz_get{t k x:QM}{a:List AtT}{l:List TrT}{j n:Nat}(h:(TrT.mk t k x a l).sz≤n+1)(hj:j<l.length):l[j].sz≤n:=by
  have:=TrT.szs_mem (List.getElem_mem hj)
  unfold TrT.sz at h;omega
/-! what may be -/
def ML(c:UInt8):Bool:=decide (97≤c.toNat)&&decide (c.toNat≤122)
def Uo(s:QM):Bool:=decide (1≤s.length)&&decide (s.length≤16)&&s.all ML
def K4:QM→List AtT→Bool
  |_,[]=>true
  |last,a::r=>Op.bytesLess last a.name&&Uo a.name&&decide (a.value.length≤128)&&K4 a.name r
def Yk(tag key text:QM)(attrs:List AtT):Bool:=
  if tag=[]then key==[]&&decide (text.length≤128)&&attrs.length==0
  else Uo tag&&decide (key.length≤16)&&text==[]&&decide (attrs.length≤16)&&K4 [] attrs
def Y0(l:List QM)(i:Nat):Bool:=!(l.getD i []==[])&&(l.take i).contains (l.getD i [])
def Gc(l:List QM):Bool:=(List.range l.length).any (Y0 l)
theorem CN{l:List QM}{i:Nat}(hi:i<l.length)(h:Y0 l i=true):Gc l=true:=List.any_eq_true.2 ⟨i,List.mem_range.2 hi,h⟩
theorem MW{l:List QM}(h:∀i,i<l.length→Y0 l i=false):Gc l=false:=by
  rw[Bool.eq_false_iff]
  intro hc
  obtain⟨i,hi,h2⟩:=List.any_eq_true.1 hc
  rw[h i (List.mem_range.1 hi)]at h2;cases h2
def TrT.nodeE(t:TrT)(level nodes:Int):Int:=
  if 8<level then 10 else if nodes=256 then 3
  else if Yk t.tag t.key t.text t.attrs=false∨16<t.kids.length∨(t.tag=[]∧0<t.kids.length)then 9
  else if Gc (t.kids.map TrT.key)then 6 else 0
structure RG where
  n:Int
  d:Int
  e:Int
mutual
def TrT.walk:TrT→Int→RG→RG
  |.mk t k x a l,level,w=>
    if w.e≠0 then w
    else if(TrT.mk t k x a l).nodeE level w.n≠0 then⟨w.n,w.d,(TrT.mk t k x a l).nodeE level w.n⟩
    else TrT.walks l (level+1) ⟨w.n+1,if level>w.d then level else w.d,0⟩
def TrT.walks:List TrT→Int→RG→RG
  |[],_,w=>w
  |x::r,level,w=>TrT.walks r level (x.walk level w)
end
def TrT.err(t:TrT):Int:=if t.tag=[]then 9 else(t.walk 1 ⟨0,0,0⟩).e
/-! are two trees one? -/
def AtT.same(a b:AtT):Bool:=a.name==b.name&&a.value==b.value
def AtT.sames:List AtT→List AtT→Bool
  |[],[]=>true
  |x::r,y::s=>x.same y&&AtT.sames r s
  |_,_=>false
mutual
def TrT.same:TrT→TrT→Bool
  |.mk t k x a l,.mk t' k' x' a' l'=>t==t'&&k==k'&&x==x'&&AtT.sames a a'&&TrT.sames l l'
def TrT.sames:List TrT→List TrT→Bool
  |[],[]=>true
  |x::r,y::s=>x.same y&&TrT.sames r s
  |_,_=>false
end
theorem RE{a b:AtT}:a.same b=true↔a=b:=by
  obtain⟨n,v⟩:=a;obtain⟨n',v'⟩:=b
  simp[AtT.same]
theorem K8:∀{a b:List AtT},AtT.sames a b=true↔a=b
  |[],[]=>by simp[AtT.sames]
  |[],_::_=>by simp[AtT.sames]
  |_::_,[]=>by simp[AtT.sames]
  |x::r,y::s=>by simp[AtT.sames,RE,K8 (a:=r) (b:=s)]
mutual
theorem TrT.same_refl:∀v:TrT,v.same v=true
  |.mk t k x a l=>by simp[TrT.same,K8,TrT.sames_refl l]
theorem TrT.sames_refl:∀l:List TrT,TrT.sames l l=true
  |[]=>rfl
  |v::r=>by simp[TrT.sames,TrT.same_refl v,TrT.sames_refl r]
end
theorem TrT.sames_len:∀{a b:List TrT},a.length≠b.length→TrT.sames a b=false
  |[],[],h=>absurd rfl h
  |[],_::_,_=>rfl
  |_::_,[],_=>rfl
  |x::r,y::s,h=>by simp[TrT.sames,TrT.sames_len (a:=r) (b:=s) (by simpa using h)]
theorem AtT.sames_len:∀{a b:List AtT},a.length≠b.length→AtT.sames a b=false
  |[],[],h=>absurd rfl h
  |[],_::_,_=>rfl
  |_::_,[],_=>rfl
  |x::r,y::s,h=>by simp[AtT.sames,AtT.sames_len (a:=r) (b:=s) (by simpa using h)]

end
section
/- More fuel changes nothing but what is left. -/
variable {α β:Type}
def Sh(g:Int→ER α):Prop:=∀f v f',g f=.ok (v,f')→f'≤f∧∀d,(0≤f'+d→g (f+d)=.ok (v,f'+d))∧(0≤f+d→f'+d<0→g (f+d)=.error 83)
def Uh(r:ER α)(k:α→Int→ER β):ER β:=match r with
  |.error e=>.error e
  |.ok (v,f)=>k v f
theorem Sh.bind{g:Int→ER α}{k:α→Int→ER β}(hg:Sh g)(hk:∀v,Sh (k v)):Sh (fun f=>Uh (g f) k):=fun f v f' h=>by
  simp only[]at h⊢
  cases h1:g f with
  |error c=>rw[h1]at h;cases h
  |ok p=>
    obtain⟨u,f1⟩:=p
    rw[h1]at h
    obtain⟨a1,a2⟩:=hg f u f1 h1
    obtain⟨b1,b2⟩:=hk u f1 v f' h
    refine⟨by omega,fun d=>⟨fun hd=>?_,fun h0 hd=>?_⟩⟩
    · rw[(a2 d).1 (by omega)];exact(b2 d).1 hd
    · rcases Int.lt_or_le (f1+d) 0 with h2|h2
      · rw[(a2 d).2 h0 h2];rfl
      · rw[(a2 d).1 h2];exact(b2 d).2 h2 hd
theorem Sh.ret(v:α):Sh (fun f=>.ok (v,f)):=fun f u f' h=>by cases h;exact⟨Int.le_refl _,fun d=>⟨fun _=>rfl,fun h1 h2=>by omega⟩⟩
theorem Sh.err(c:Int):Sh (fun _=>(.error c:ER α)):=fun f u f' h=>by cases h
theorem Sh.ite{p:Prop}[Decidable p]{g k:Int→ER α}(hg:Sh g)(hk:Sh k):Sh (fun f=>if p then g f else k f):=by
  by_cases h:p
  · simpa[h]using hg
  · simpa[h]using hk
theorem Sh.tick{g:Int→ER α}(hg:Sh g):Sh (fun f=>if f<1 then .error 83 else g (f-1)):=fun f v f' h=>by
  simp only[]at h⊢
  split at h
  · cases h
  · rename_i h0
    obtain⟨a1,a2⟩:=hg (f-1) v f' h
    refine⟨by omega,fun d=>⟨fun hd=>?_,fun h1 hd=>?_⟩⟩
    · rw[if_neg (by omega),show f+d-1=f-1+d by omega];exact(a2 d).1 hd
    · by_cases h2:f+d<1
      · rw[if_pos h2]
      · rw[if_neg h2,show f+d-1=f-1+d by omega];exact(a2 d).2 (by omega) hd
theorem Sh.eq{g k:Int→ER α}(hg:Sh g)(h:∀f,k f=g f):Sh k:=by rw[show k=g from funext h];exact hg
theorem Sh.tru{g:Int→ER V}(hg:Sh g):Sh (fun f=>US (g f)):=
  (hg.bind (k:=fun v f=>if v.kind=1 then .ok (v.bits==1,f)else .error 81) fun v=>Sh.ite (Sh.ret _) (Sh.err 81)).eq fun f=>by
    cases g f<;>rfl
theorem Sh.map{g:V→Int→ER V}(hg:∀x,Sh (g x)):∀l,Sh (X1 g l)
  |[]=>(Sh.ret []).eq fun f=>by rw[X1]
  |x::r=>((hg x).bind (k:=fun y f1=>Uh (X1 g r f1) fun l f2=>.ok (y::l,f2)) fun y=>(Sh.map hg r).bind fun l=>Sh.ret _).eq fun f=>by
    rw[X1];cases g x f with
    |error c=>rfl
    |ok p=>obtain⟨y,f1⟩:=p;simp only[Uh];cases X1 g r f1<;>rfl
theorem P0{g:V→Int→ER Bool}(hg:∀x,Sh (g x)):∀l,Sh (Kd g l)
  |[]=>(Sh.ret []).eq fun f=>by rw[Kd]
  |x::r=>((hg x).bind (k:=fun b f1=>Uh (Kd g r f1) fun l f2=>.ok (if b then x::l else l,f2)) fun y=>(P0 hg r).bind fun l=>Sh.ret _).eq fun f=>by
    rw[Kd];cases g x f with
    |error c=>rfl
    |ok p=>obtain⟨y,f1⟩:=p;simp only[Uh];cases Kd g r f1<;>rfl
theorem Sh.fnd{g:V→Int→ER Bool}(hg:∀x,Sh (g x)):∀l,Sh (GS g l)
  |[]=>(Sh.err 71).eq fun f=>by rw[GS]
  |x::r=>((hg x).bind (k:=fun b f1=>if b then .ok (x,f1)else GS g r f1) fun b=>Sh.ite (Sh.ret x) (Sh.fnd hg r)).eq fun f=>by
    rw[GS];cases g x f<;>rfl
theorem Cy{g:Int→ER (List V)}(hg:Sh g):Sh (fun f=>YD (g f)):=
  (hg.bind (k:=fun l f=>match Kj (.li l)with|.error e=>.error e|.ok v=>.ok (v,f)) fun l=>by
    cases Kj (.li l)with
    |error c=>exact Sh.err c
    |ok v=>exact Sh.ret v).eq fun f=>by
    cases g f<;>rfl
theorem Sh.over{o:Int}{g:V→Int→ER V}{k:Int→ER V}(hg:∀x,Sh (g x))(hk:Sh k):Sh (fun f=>Xo o g (k f)):=
  (hk.bind (k:=fun v f=>if v.kind≠4 then .error 81 else if o=27 then YD (X1 g v.items f)else if o=28 then YD (Kd (fun x f=>US (g x f)) v.items f)else GS (fun x f=>US (g x f)) v.items f) fun v=>
    Sh.ite (Sh.err 81) (Sh.ite (Cy (Sh.map hg _)) (Sh.ite (Cy (P0 (fun x=>Sh.tru (hg x)) _)) (Sh.fnd (fun x=>Sh.tru (hg x)) _)))).eq fun f=>by
    cases k f<;>rfl
mutual
theorem Wp:∀(e:EX) (s:ScT),Sh (e.ev s)
  |.mk o b t l,s=>(Sh.tick (g:=fun f=>if o=0 then .ok (.nil,f)
    else if o=1 then .ok (.tr false,f)
    else if o=2 then .ok (.tr true,f)
    else if o=3 then .ok (.nu b,f)
    else if o=4 then .ok (.tx t,f)
    else if o=5 then .ok (s.st,f)
    else if o=6 then .ok (s.ev,f)
    else if o=7 then .ok (s.it,f)
    else if o=18 then Uq false l s f
    else if o=19 then Uq true l s f
    else if o=21 then UD l s f
    else if o=27∨o=28∨o=29 then U6 o l s f
    else Uh (Uj l s f) fun vs f1=>match Uy o t vs with|.error e=>.error e|.ok v=>.ok (v,f1))
    (Sh.ite (Sh.ret _) (Sh.ite (Sh.ret _) (Sh.ite (Sh.ret _) (Sh.ite (Sh.ret _) (Sh.ite (Sh.ret _) (Sh.ite (Sh.ret _) (Sh.ite (Sh.ret _) (Sh.ite (Sh.ret _) (Sh.ite (MC false l s) (Sh.ite (MC true l s) (Sh.ite (Eh l s) (Sh.ite (Ef o l s)
      ((NE l s).bind fun vs=>by
        cases Uy o t vs with
        |error c=>exact Sh.err c
        |ok v=>exact Sh.ret v)))))))))))))).eq fun f=>by
    rw[EX.ev]
    cases Uj l s (f-1)<;>rfl
theorem NE:∀(l:List EX) (s:ScT),Sh (Uj l s)
  |[],s=>(Sh.ret []).eq fun f=>by rw[Uj]
  |x::r,s=>((Wp x s).bind (k:=fun v f1=>Uh (Uj r s f1) fun vs f2=>.ok (v::vs,f2)) fun v=>(NE r s).bind fun vs=>Sh.ret _).eq fun f=>by
    rw[Uj];cases x.ev s f with
    |error c=>rfl
    |ok p=>obtain⟨v,f1⟩:=p;simp only[Uh];cases Uj r s f1<;>rfl
theorem MC:∀(k:Bool) (l:List EX) (s:ScT),Sh (Uq k l s)
  |k,[],s=>(Sh.err 0).eq fun f=>by rw[Uq];intro x y r h;cases h
  |k,[_],s=>(Sh.err 0).eq fun f=>by rw[Uq];intro x y r h;cases h
  |k,x::y::_,s=>((Sh.tru (Wp x s)).bind (k:=fun b1 f1=>if b1=k then .ok (.tr k,f1)else Uh (US (y.ev s f1)) fun b2 f2=>.ok (.tr b2,f2)) fun b1=>Sh.ite (Sh.ret _) ((Sh.tru (Wp y s)).bind fun b2=>Sh.ret _)).eq fun f=>by
    rw[Uq];cases US (x.ev s f)with
    |error c=>rfl
    |ok p=>obtain⟨v,f1⟩:=p;simp only[Uh];split;rfl;cases US (y.ev s f1)<;>rfl
theorem Eh:∀(l:List EX) (s:ScT),Sh (UD l s)
  |[],s=>(Sh.err 0).eq fun f=>by rw[UD];intro x y z r h;cases h
  |[_],s=>(Sh.err 0).eq fun f=>by rw[UD];intro x y z r h;cases h
  |[_,_],s=>(Sh.err 0).eq fun f=>by rw[UD];intro x y z r h;cases h
  |x::y::z::_,s=>((Sh.tru (Wp x s)).bind (k:=fun b1 f1=>if b1 then y.ev s f1 else z.ev s f1) fun b1=>Sh.ite (Wp y s) (Wp z s)).eq fun f=>by
    rw[UD];cases US (x.ev s f)<;>rfl
theorem Ef:∀(o:Int) (l:List EX) (s:ScT),Sh (U6 o l s)
  |o,[],s=>(Sh.err 0).eq fun f=>by rw[U6];intro x y r h;cases h
  |o,[_],s=>(Sh.err 0).eq fun f=>by rw[U6];intro x y r h;cases h
  |o,x::y::_,s=>(Sh.over (fun it=>Wp y {s with it}) (Wp x s)).eq fun f=>by rw[U6]
end

end
section
/- An error is never 0; what is told of a reckoning. -/
variable {α β:Type}
def Nz(r:Except Int α):Prop:=∀c,r=.error c→c≠0
theorem Nz.ok(v:α):Nz (.ok v):=fun c h=>by cases h
theorem Nz.er{c:Int}(h:c≠0):Nz (.error c:Except Int α):=fun c' h'=>by cases h';exact h
theorem Nz.ite{p:Prop}[Decidable p]{r q:Except Int α}(h1:p→Nz r)(h2:¬p→Nz q):Nz (if p then r else q):=by
  by_cases h:p
  · rw[if_pos h];exact h1 h
  · rw[if_neg h];exact h2 h
theorem Nz.bind{r:ER α}{k:α→Int→ER β}(hr:Nz r)(hk:∀v f',r=.ok (v,f')→Nz (k v f')):Nz (Uh r k):=by
  cases r with
  |error c=>exact fun c' h=>by cases h;exact hr c rfl
  |ok p=>exact hk p.1 p.2 rfl
theorem Nz.tru{r:ER V}(h:Nz r):Nz (US r):=by
  cases r with
  |error c=>exact fun c' h'=>by cases h';exact h c rfl
  |ok p=>exact Nz.ite (fun _=>.ok _) fun _=>.er (by decide)
theorem Cf(v:V)(s:StT):Nz (Lg v s):=by
  unfold Lg;by_cases h:(v.getv [s]).2=0
  · rw[if_pos h];exact .ok _
  · rw[if_neg h];exact .er h
theorem Sz(v:V)(s:StT)(x:V):Nz (NL v s x):=Nz.ite (fun _=>.ok _) fun _=>.er (by decide)
theorem R9(v:V):Nz (Kj v):=Nz.ite (fun _=>.ok _) fun _=>.er (by decide)
theorem one_nz(o:Int)(t:QM)(a:V):Nz (BT o t a):=by
  unfold BT
  repeat' with_reducible refine Nz.ite (fun _=>?_) (fun _=>?_)
  all_goals first|exact Cf _ _|exact .ok _|exact .er (by decide)
theorem two_nz(o:Int)(t:QM)(a b:V):Nz (Bc o t a b):=by
  unfold Bc
  repeat' with_reducible refine Nz.ite (fun _=>?_) (fun _=>?_)
  all_goals first|exact Cf _ _|exact Sz _ _ _|exact .ok _|exact .er (by decide)
theorem BH{o:Int}{t:QM}{l:List V}(h:o=23∨l.length=1∨l.length=2):Nz (Uy o t l):=by
  unfold Uy
  refine Nz.ite (fun _=>R9 _) fun h23=>?_
  match l,h with
  |[a],_=>exact one_nz _ _ _
  |[a,b],_=>exact two_nz _ _ _ _
  |[],h=>simp at h;exact absurd h h23
  |_::_::_::_,h=>simp at h;exact absurd h h23
theorem B1{g:V→Int→ER V}(hg:∀x f,Nz (g x f)):∀l f,Nz (X1 g l f)
  |[],f=>.ok _
  |x::r,f=>by
    have h1:=hg x f
    rw[X1]
    cases h:g x f with
    |error c=>exact .er (h1 c h)
    |ok p=>
      have h2:=B1 hg r p.2
      simp only[]
      cases h3:X1 g r p.2 with
      |error c=>exact .er (h2 c h3)
      |ok q=>exact .ok _
theorem Pz{g:V→Int→ER Bool}(hg:∀x f,Nz (g x f)):∀l f,Nz (Kd g l f)
  |[],f=>.ok _
  |x::r,f=>by
    have h1:=hg x f
    rw[Kd]
    cases h:g x f with
    |error c=>exact .er (h1 c h)
    |ok p=>
      have h2:=Pz hg r p.2
      simp only[]
      cases h3:Kd g r p.2 with
      |error c=>exact .er (h2 c h3)
      |ok q=>exact .ok _
theorem Pv{g:V→Int→ER Bool}(hg:∀x f,Nz (g x f)):∀l f,Nz (GS g l f)
  |[],f=>.er (by decide)
  |x::r,f=>by
    have h1:=hg x f
    rw[GS]
    cases h:g x f with
    |error c=>exact .er (h1 c h)
    |ok p=>exact Nz.ite (fun _=>.ok _) fun _=>Pv hg r p.2
theorem R7{r:ER (List V)}(h:Nz r):Nz (YD r):=by
  unfold YD
  cases r with
  |error c=>exact .er (h c rfl)
  |ok p=>
    have h2:=R9 (.li p.1)
    simp only[]
    cases h3:Kj (.li p.1)with
    |error c=>exact .er (h2 c h3)
    |ok q=>exact .ok _
theorem SL{o:Int}{g:V→Int→ER V}{r:ER V}(hg:∀x f,Nz (g x f))(hr:Nz r):Nz (Xo o g r):=by
  unfold Xo
  cases r with
  |error c=>exact .er (hr c rfl)
  |ok p=>exact Nz.ite (fun _=>.er (by decide)) fun _=>Nz.ite (fun _=>R7 (B1 hg _ _)) fun _=>Nz.ite (fun _=>R7 (Pz (fun x f=>Nz.tru (hg x f)) _ _)) fun _=>Pv (fun x f=>Nz.tru (hg x f)) _ _
theorem Cn:∀(l:List EX) {s:ScT} {f f':Int} {vs:List V},Uj l s f=.ok (vs,f')→vs.length=l.length
  |[],s,f,f',vs,h=>by rw[Uj]at h;cases h;rfl
  |x::r,s,f,f',vs,h=>by
    rw[Uj]at h
    cases h1:x.ev s f with
    |error c=>rw[h1]at h;cases h
    |ok p=>
      rw[h1]at h
      simp only[]at h
      cases h2:Uj r s p.2 with
      |error c=>rw[h2]at h;cases h
      |ok q=>
        rw[h2]at h;cases h
        simp[Cn r h2]
mutual
theorem Wb:∀(e:EX) (s:ScT) (f:Int),e.Fine→Nz (e.ev s f)
  |.mk o b t l,s,f,hf=>by
    obtain⟨h0,h30,h8,ha⟩:=MB hf.part
    have hk:∀x∈l,x.Fine:=fun x hx=>hf.kid hx
    rw[EX.ev]
    refine Nz.ite (fun _=>.er (by decide)) fun _=>?_
    refine Nz.ite (fun _=>.ok _) fun n0=>Nz.ite (fun _=>.ok _) fun n1=>Nz.ite (fun _=>.ok _) fun n2=>Nz.ite (fun _=>.ok _) fun n3=>Nz.ite (fun _=>.ok _) fun n4=>Nz.ite (fun _=>.ok _) fun n5=>Nz.ite (fun _=>.ok _) fun n6=>Nz.ite (fun _=>.ok _) fun n7=>?_
    refine Nz.ite (fun c=>MD false l s _ hk (by omega)) fun n18=>Nz.ite (fun c=>MD true l s _ hk (by omega)) fun n19=>Nz.ite (fun c=>Ei l s _ hk (by omega)) fun n21=>Nz.ite (fun c=>Eg o l s _ hk (by omega)) fun nov=>?_
    have h1:=NF l s (f-1) hk
    cases h:Uj l s (f-1)with
    |error c=>exact .er (h1 c h)
    |ok p=>
      have h2:=Cn l h
      have h3:=BH (o:=o) (t:=t) (l:=p.1) (by omega)
      simp only[]
      cases h4:Uy o t p.1 with
      |error c=>exact .er (h3 c h4)
      |ok q=>exact .ok _
theorem NF:∀(l:List EX) (s:ScT) (f:Int),(∀x∈l,x.Fine)→Nz (Uj l s f)
  |[],s,f,hf=>by rw[Uj];exact .ok _
  |x::r,s,f,hf=>by
    have h1:=Wb x s f (hf x (by simp))
    rw[Uj]
    cases h:x.ev s f with
    |error c=>exact .er (h1 c h)
    |ok p=>
      have h2:=NF r s p.2 (fun z hz=>hf z (by simp[hz]))
      simp only[]
      cases h3:Uj r s p.2 with
      |error c=>exact .er (h2 c h3)
      |ok q=>exact .ok _
theorem MD:∀(k:Bool) (l:List EX) (s:ScT) (f:Int),(∀x∈l,x.Fine)→l.length=2→Nz (Uq k l s f)
  |k,[],s,f,hf,h2=>by simp at h2
  |k,[_],s,f,hf,h2=>by simp at h2
  |k,x::y::_,s,f,hf,h2=>by
    have h1:=Nz.tru (Wb x s f (hf x (by simp)))
    rw[Uq]
    cases h:US (x.ev s f)with
    |error c=>exact .er (h1 c h)
    |ok p=>
      refine Nz.ite (fun _=>.ok _) fun _=>?_
      have h3:=Nz.tru (Wb y s p.2 (hf y (by simp)))
      cases h4:US (y.ev s p.2)with
      |error c=>exact .er (h3 c h4)
      |ok q=>exact .ok _
theorem Ei:∀(l:List EX) (s:ScT) (f:Int),(∀x∈l,x.Fine)→l.length=3→Nz (UD l s f)
  |[],s,f,hf,h2=>by simp at h2
  |[_],s,f,hf,h2=>by simp at h2
  |[_,_],s,f,hf,h2=>by simp at h2
  |x::y::z::_,s,f,hf,h2=>by
    have h1:=Nz.tru (Wb x s f (hf x (by simp)))
    rw[UD]
    cases h:US (x.ev s f)with
    |error c=>exact .er (h1 c h)
    |ok p=>exact Nz.ite (fun _=>Wb y s p.2 (hf y (by simp))) fun _=>Wb z s p.2 (hf z (by simp))
theorem Eg:∀(o:Int) (l:List EX) (s:ScT) (f:Int),(∀x∈l,x.Fine)→l.length=2→Nz (U6 o l s f)
  |o,[],s,f,hf,h2=>by simp at h2
  |o,[_],s,f,hf,h2=>by simp at h2
  |o,x::y::_,s,f,hf,h2=>by
    rw[U6]
    exact SL (fun it g=>Wb y {s with it} g (hf y (by simp))) (Wb x s f (hf x (by simp)))
end

end
section
/- Walks: the runner: what it reckons, what it sets. -/
set_option maxRecDepth 10000
set_option maxHeartbeats 4000000
theorem B0{s:ScT}{f:Int}:((s.st.cs false++s.ev.cs false++s.it.cs false++[AV.c (.int .i64 f)]).drop 0).take 15=s.cs:=by
  rw[List.drop_zero];exact List.take_left' (Mv s)
theorem SB{e:EX}{s:ScT}{f:Int}{v:V}{g c:Int}(h:MG e s f=(v,g,c))(hc:¬c=0):e.ev s f=.error c:=by
  unfold MG at h
  cases he:e.ev s f with
  |error d=>rw[he]at h;rw[show d=c from(Prod.mk.inj (Prod.mk.inj h).2).2]
  |ok p=>rw[he]at h;exact absurd (Prod.mk.inj (Prod.mk.inj h).2).2.symm hc
theorem Bv{e:EX}{s:ScT}{f:Int}{v:V}{g:Int}(hn:∀c,e.ev s f=.error c→c≠0)(h:MG e s f=(v,g,0)):e.ev s f=.ok (v,g):=by
  unfold MG at h
  cases he:e.ev s f with
  |error d=>rw[he]at h;exact absurd (Prod.mk.inj (Prod.mk.inj h).2).2 (hn d he)
  |ok p=>obtain⟨v',g'⟩:=p;rw[he]at h;obtain⟨h1,h2⟩:=Prod.mk.inj h;obtain⟨h2,-⟩:=Prod.mk.inj h2;rw[h1,h2]
def EvS(r:ER V)(b:Nat)(s:ScT):Wi→List Own→Prop:=PanR (Xk r=0) (WS (Xk r)) fun x o=>∃v f',r=.ok (v,f')∧x=.agg (v.cs true)∧o=[mb b s f']
theorem EvS.ok{r:ER V}{b:Nat}{s:ScT}{v:V}{f':Int}(h:r=.ok (v,f')):EvS r b s (.ret (.agg (v.cs true))) [mb b s f']:=.inl ⟨by rw[h];rfl,_,rfl,v,f',h,rfl,rfl⟩
theorem EvS.er{r:ER V}{b:Nat}{s:ScT}{c:Int}(h:r=.error c)(hc:¬c=0):EvS r b s (.pan (.iface 47 (.int .i64 c))) []:=.inr ⟨by rw[h];exact hc,by rw[h];rfl,rfl⟩
def WQ(v:V):Bool×Int:=if v.kind≠1∨v.err≠0 then(false,81)else(v.bits==1,0)
theorem PF{fr:Bool}{v:V}{ys:List AV}(hv:Vc fr v ys)(hw:v.wf):Fn Tryz.prog 180 [.agg ys] (.tup [.c (.bool (WQ v).1),.c (.int .i64 (WQ v).2)]):=by
  subst hv
  obtain⟨vk,vb,vt,vks,vis⟩:=v
  refine AC.of_J Tryz.func180 rfl Tryz.ntmps180 rfl fun w0 A0=>?_
  refine Zs (Qp (.r rfl) rfl fun b1=>Zq rfl (QW.assign .const) (Zq rfl (QW.assign .const) (Zn (J.seq (Zs (Zd UZ rfl (Zl 0 UB rfl (Zq rfl (QW.neq (.r rfl) .const) ?_))))))))
  refine Zm rfl (Zg rfl (fun hg=>(by first|exact Qd 0 Ql (.r rfl) rfl rfl rfl|exact Qd 0 Ql (.r rfl) rfl (Qm vl rfl) vl)) ?_)
  refine Zg rfl (fun hg=>(QW.call X5 (.cons (.when rfl hg) .nil) (Yo (v:=.mk vk vb vt vks vis) Vc.self hw))) (Zg rfl (fun hg=>(QW.neq (.when rfl hg) .const)) (Zq rfl (QW.pick_or (.r rfl) (.r rfl)) (Zn ?_)))
  refine J.cond (.r rfl) (fun c1=>?_) (fun c1=>?_)
  · skip
    have hb:vk≠1∨(V.mk vk vb vt vks vis).err≠0:=by(simp at c1;exact c1)
    exact Zs (Zq rfl (QW.assign .const) (Zq rfl (QW.assign .const) (Zn (J.ret (thenQ.r (Zr [.k] (Qs rfl (REv.tmp rfl lr) (REv.tmp rfl lr)) rfl ⟨by rw[show WQ (V.mk vk vb vt vks vis)=(false,81)from if_pos hb],rfl⟩))))))
  have hb:¬(vk≠1∨(V.mk vk vb vt vks vis).err≠0):=by(simp at c1;intro h;rcases h with h|h;exact h c1.1;exact h c1.2)
  exact Zk (Zs (Zd UG rfl (Zl 0 WM rfl (Zq rfl (QW.eql (.r rfl) .const) (Za rfl (Zq rfl (QW.assign .const) (Zn (J.ret (Zr [.k] (Qs rfl (REv.tmp rfl lr) (REv.tmp rfl lr)) rfl ⟨by rw[show WQ (V.mk vk vb vt vks vis)=(vb==1,0)from if_neg hb,show(((vb:Nat):Int)==1)=(vb==1) by rw[Bool.eq_iff_iff];simp;omega],rfl⟩)))))))))

end
section
/- Templates ats plain data: cells, what may be, the tree of a state. -/
inductive TmT where
  |mk (what:Int) (tag:QM) (key ex:EX) (attrs:List SetT) (kids:List TmT)
def TmT.what:TmT→Int|.mk w _ _ _ _ _=>w
def TmT.tag:TmT→QM|.mk _ t _ _ _ _=>t
def TmT.key:TmT→EX|.mk _ _ k _ _ _=>k
def TmT.ex:TmT→EX|.mk _ _ _ x _ _=>x
def TmT.attrs:TmT→List SetT|.mk _ _ _ _ a _=>a
def TmT.kids:TmT→List TmT|.mk _ _ _ _ _ l=>l
def eTm:Wq:=⟨12,184⟩
mutual
def TmT.cs(fr:Bool):TmT→List AV
  |.mk w t k x a l=>.c (.int .i64 w)::.c (Q4 t)::(k.cs fr++(x.cs fr++[.sl fr false eSe (SetT.css fr a),.sl fr false eTm (TmT.css fr l)]))
def TmT.css(fr:Bool):List TmT→List (List AV)
  |[]=>[]
  |v::r=>v.cs fr::TmT.css fr r
end
theorem TmT.css_eq(fr:Bool):∀l,TmT.css fr l=l.map (TmT.cs fr)
  |[]=>rfl
  |v::r=>by simp[TmT.css,TmT.css_eq fr r]
theorem TmT.css_length(fr:Bool)(l:List TmT):(TmT.css fr l).length=l.length:=by simp[TmT.css_eq]
theorem TmT.css_getE(fr:Bool){l:List TmT}{i:Nat}(h:i<l.length):(TmT.css fr l)[i]? =some (l[i].cs fr):=by simp[TmT.css_eq,h]
theorem TmT.css_append(fr:Bool)(a b:List TmT):TmT.css fr (a++b)=TmT.css fr a++TmT.css fr b:=by simp[TmT.css_eq]
theorem TmT.cs_length(fr:Bool)(v:TmT):(v.cs fr).length=12:=by obtain⟨w,t,k,x,a,l⟩:=v;simp[TmT.cs,EX.cs_length]
theorem TmT.css_sz(fr:Bool)(l:List TmT):∀x∈TmT.css fr l,x.length=eTm.sz:=by
  intro x hx
  rw[TmT.css_eq]at hx
  obtain⟨v,_,rfl⟩:=List.mem_map.1 hx
  exact TmT.cs_length fr v
theorem TmT.at0{fr:Bool}{v:TmT}:(v.cs fr)[0]? =some (.c (.int .i64 v.what)):=by cases v;rfl
theorem TmT.at1{fr:Bool}{v:TmT}:(v.cs fr)[1]? =some (.c (Q4 v.tag)):=by cases v;rfl
theorem LC{fr:Bool}{v:TmT}:((v.cs fr).drop 2).take 4=v.key.cs fr:=by obtain⟨w,t,⟨a,b,c,d⟩,x,ats,l⟩:=v;rfl
theorem G8{fr:Bool}{v:TmT}:((v.cs fr).drop 6).take 4=v.ex.cs fr:=by obtain⟨w,t,⟨a,b,c,d⟩,⟨a2,b2,c2,d2⟩,ats,l⟩:=v;rfl
theorem YL{fr:Bool}{v:TmT}:(v.cs fr)[10]? =some (.sl fr false eSe (SetT.css fr v.attrs)):=by obtain⟨w,t,⟨a,b,c,d⟩,⟨a2,b2,c2,d2⟩,ats,l⟩:=v;rfl
theorem YK{fr:Bool}{v:TmT}:(v.cs fr)[11]? =some (.sl fr false eTm (TmT.css fr v.kids)):=by obtain⟨w,t,⟨a,b,c,d⟩,⟨a2,b2,c2,d2⟩,ats,l⟩:=v;rfl
inductive TmT.wf:TmT→Prop
  |mk {w:Int} {t:QM} {k x:EX} {a:List SetT} {l:List TmT} (h0: -9223372036854775808≤w∧w≤9223372036854775807) (h1:t.length≤Qr) (h2:k.wf) (h3:x.wf) (h4:a.length*72≤Qr) (h5:∀x∈a,SetT.wf x) (h6:l.length*184≤Qr) (h7:∀x∈l,TmT.wf x):TmT.wf (.mk w t k x a l)
theorem TmT.wf.inv{w:Int}{t:QM}{k x:EX}{a:List SetT}{l:List TmT}(h:TmT.wf (.mk w t k x a l)):
    (-9223372036854775808≤w∧w≤9223372036854775807)∧t.length≤Qr∧k.wf∧x.wf∧a.length*72≤Qr∧(∀x∈a,SetT.wf x)∧l.length*184≤Qr∧∀x∈l,TmT.wf x:=by
  cases h with|mk h0 h1 h2 h3 h4 h5 h6 h7=>exact⟨h0,h1,h2,h3,h4,h5,h6,h7⟩
mutual
def TmT.sz:TmT→Nat
  |.mk _ _ _ _ _ l=>1+TmT.szs l
def TmT.szs:List TmT→Nat
  |[]=>0
  |x::r=>x.sz+TmT.szs r
end
theorem TmT.sz_pos(v:TmT):1≤v.sz:=by cases v;unfold TmT.sz;omega
theorem TmT.szs_mem:∀{l:List TmT} {x:TmT},x∈l→x.sz≤TmT.szs l
  |y::r,x,h=>by
    unfold TmT.szs
    rcases List.mem_cons.1 h with rfl|h
    · omega
    · have:=TmT.szs_mem h;omega
theorem TmT.sz_get{w:Int}{t:QM}{k x:EX}{a:List SetT}{l:List TmT}{j n:Nat}(h:(TmT.mk w t k x a l).sz≤n+1)(hj:j<l.length):l[j].sz≤n:=by
  have:=TmT.szs_mem (List.getElem_mem hj)
  unfold TmT.sz at h;omega
/-! what may be -/
def EX.none(e:EX):Bool:=e.same .nil
def XF:List QM→Bool
  |[]=>true
  |k::r=>!r.contains k&&XF r
def TmT.partOk:TmT→Bool
  |.mk w t k x a l=>
    if w=1 then Uo t&&x.none&&(a.map SetT.key).all Uo&&XF (a.map SetT.key)
    else if w=2 then t==[]&&k.none&&a.length==0&&l.length==0
    else if w=3∨w=4 then t==[]&&k.none&&a.length==0
    else false
def TmT.exE:TmT→Int
  |.mk _ _ k x a _=>Hz (k.err::x.err::a.map fun s=>s.ex.err)
def TmT.ownE(t:TmT)(level n:Int):Int:=
  if 8<level then 10 else if 64≤n∨16<t.attrs.length∨16<t.kids.length then 3 else if t.partOk=false then 9 else t.exE
mutual
def TmT.walk:TmT→Int→Int→Int×Int
  |.mk w t k x a l,level,n=>
    if(TmT.mk w t k x a l).ownE level n≠0 then(n,(TmT.mk w t k x a l).ownE level n)else TmT.walks l (level+1) (n+1)
def TmT.walks:List TmT→Int→Int→Int×Int
  |[],_,n=>(n,0)
  |x::r,level,n=>if(x.walk level n).2≠0 then x.walk level n else TmT.walks r level (x.walk level n).1
end
def TmT.err(t:TmT):Int:=if t.what≠1 then 9 else(t.walk 1 0).2
/-! the tree of a state -/
def MZ:QM:=[116,114,117,101]
def Hm:QM:=[102,97,108,115,101]
def Kq(v:V):QM×Int:=
  if v.kind=0 then([],0)else if v.kind=1 then(if v.bits=1 then MZ else Hm,0)
  else if v.kind=2 then(if YF v.bits=0 then(Hw (YR v.bits),0)else([],81))else if v.kind=3 then(v.text,0)else([],81)
def Xl(v:V):QM×Int:=if v.err≠0 then([],v.err)else Kq v
def WK(r:ER V):ER QM:=Uh r fun v f=>if(Xl v).2=0 then .ok ((Xl v).1,f)else .error (Xl v).2
def MN(a:AtT):List AtT→List AtT
  |[]=>[a]
  |b::r=>if Op.bytesLess b.name a.name then b::MN a r else a::b::r
def GB(l:List AtT):List AtT:=l.foldl (fun acc a=>MN a acc) []
def Ye(s:ScT):List SetT→Int→ER (List AtT)
  |[],f=>.ok ([],f)
  |x::r,f=>Uh (WK (x.ex.ev s f)) fun w f1=>Uh (Ye s r f1) fun l f2=>.ok (⟨x.key,w⟩::l,f2)
def Yq(t:QM)(k:EX)(a:List SetT)(g:ScT→Int→ER (List TrT))(s:ScT)(f:Int):ER TrT:=
  Uh (WK (k.ev s f)) fun key f1=>if 16<key.length then .error 5 else Uh (Ye s a f1) fun ats f2=>Uh (g s f2) fun ks f3=>.ok (.mk t key [] (GB ats) ks,f3)
def UX(g:V→Int→ER (List TrT)):List V→Int→ER (List TrT)
  |[],f=>.ok ([],f)
  |x::r,f=>Uh (g x f) fun a f1=>Uh (UX g r f1) fun b f2=>.ok (a++b,f2)
def TrT.txt(w:QM):TrT:=.mk [] [] w [] []
mutual
def TmT.partE:TmT→ScT→Int→ER (List TrT)
  |.mk w t k x a l,s,f=>
    if w=1 then Uh (Yq t k a (fun s f=>Qy l s f) s f) fun y f1=>.ok ([y],f1)
    else if w=2 then Uh (WK (x.ev s f)) fun y f1=>.ok ([.txt y],f1)
    else Uh (x.ev s f) fun v f1=>
      if w=3 then(if(WQ v).2≠0 then .error (WQ v).2 else if(WQ v).1 then Qy l s f1 else .ok ([],f1))
      else if v.kind=4 then UX (fun y f=>Qy l {s with it:=y} f) v.items f1
      else .error 81
def Qy:List TmT→ScT→Int→ER (List TrT)
  |[],_,f=>.ok ([],f)
  |x::r,s,f=>Uh (x.partE s f) fun a f1=>Uh (Qy r s f1) fun b f2=>.ok (a++b,f2)
end
def TmT.elE:TmT→ScT→Int→ER TrT
  |.mk _ t k _ a l,s,f=>Yq t k a (Qy l) s f
def TmT.treeT(t:TmT)(st:V)(f:Int):TrT×Int:=match t.elE ⟨st,.nil,.nil⟩ f with
  |.error c=>(.nil,c)
  |.ok (x,_)=>if x.err≠0 then(.nil,x.err)else(x,0)
def TmT.renT(t:TmT)(st:V)(f:Int):TrT×Int:=
  if t.err≠0 then(.nil,t.err)else if st.err≠0 then(.nil,st.err)else if f<0∨4096<f then(.nil,4)else t.treeT st f
/-! more fuel changes nothing but what is left -/
theorem Sh.word{g:Int→ER V}(hg:Sh g):Sh (fun f=>WK (g f)):=hg.bind fun v=>Sh.ite (Sh.ret _) (Sh.err _)
theorem Sh.ats(s:ScT):∀l,Sh (Ye s l)
  |[]=>(Sh.ret []).eq fun f=>by rw[Ye]
  |x::r=>((Sh.word (Wp x.ex s)).bind (k:=fun w f1=>Uh (Ye s r f1) fun l f2=>.ok (⟨x.key,w⟩::l,f2)) fun w=>(Sh.ats s r).bind fun l=>Sh.ret _).eq fun f=>by rw[Ye]
theorem Sh.elem{t:QM}{k:EX}{a:List SetT}{g:ScT→Int→ER (List TrT)}{s:ScT}(hg:Sh (g s)):Sh (Yq t k a g s):=
  ((Sh.word (Wp k s)).bind (k:=fun key f1=>if 16<key.length then .error 5 else Uh (Ye s a f1) fun ats f2=>Uh (g s f2) fun ks f3=>.ok (.mk t key [] (GB ats) ks,f3)) fun key=>
    Sh.ite (Sh.err 5) ((Sh.ats s a).bind fun ats=>hg.bind fun ks=>Sh.ret _)).eq fun f=>rfl
theorem Cz{g:V→Int→ER (List TrT)}(hg:∀x,Sh (g x)):∀l,Sh (UX g l)
  |[]=>(Sh.ret []).eq fun f=>by rw[UX]
  |x::r=>((hg x).bind (k:=fun a f1=>Uh (UX g r f1) fun b f2=>.ok (a++b,f2)) fun a=>(Cz hg r).bind fun b=>Sh.ret _).eq fun f=>by rw[UX]
mutual
theorem TN:∀(t:TmT) (s:ScT),Sh (t.partE s)
  |.mk w t k x a l,s=>(Sh.ite (p:=w=1) ((Sh.elem (t:=t) (k:=k) (a:=a) (g:=fun s f=>Qy l s f) (s:=s) (YI l s)).bind (k:=fun y f1=>.ok ([y],f1)) fun y=>Sh.ret _)
      (Sh.ite (p:=w=2) ((Sh.word (Wp x s)).bind (k:=fun y f1=>.ok ([.txt y],f1)) fun y=>Sh.ret _)
        ((Wp x s).bind (k:=fun v f1=>if w=3 then(if(WQ v).2≠0 then .error (WQ v).2 else if(WQ v).1 then Qy l s f1 else .ok ([],f1))
      else if v.kind=4 then UX (fun y f=>Qy l {s with it:=y} f) v.items f1
      else .error 81) fun v=>Sh.ite (Sh.ite (Sh.err _) (Sh.ite (YI l s) (Sh.ret []))) (Sh.ite (Cz (fun y=>YI l {s with it:=y}) _) (Sh.err _))))).eq fun f=>by rw[TmT.partE]
theorem YI:∀(l:List TmT) (s:ScT),Sh (Qy l s)
  |[],s=>(Sh.ret []).eq fun f=>by rw[Qy]
  |x::r,s=>((TN x s).bind (k:=fun a f1=>Uh (Qy r s f1) fun b f2=>.ok (a++b,f2)) fun a=>(YI r s).bind fun b=>Sh.ret _).eq fun f=>by rw[Qy]
end
theorem FR(t:TmT)(s:ScT):Sh (t.elE s):=by
  obtain⟨w,t,k,x,a,l⟩:=t
  exact Sh.elem (t:=t) (YI l s)

end
section
/- What templates and trees among the inputs read as. -/
set_option maxRecDepth 10000
set_option maxHeartbeats 4000000
theorem AtR.rd{H:Type}{enc:TypeId×Value→H}{w:World}:∀(fuel:Nat) (cs:List Value) (x:DataW H×List MemPlace),Bf enc Tryz.prog w fuel 112 cs=some x→Fits Tryz.prog 112 x.1→∃v:SetT,v.wf∧RdC w cs (v.cs false):=by
  intro fuel
  intro cs x h hf
  obtain⟨xs,n,rfl,rfl,hl,hlen,hg⟩:=DataW.trod_struct Tryz.underlying112 h
  obtain⟨y0,y1,rfl⟩:∃y0 y1,xs=[y0,y1]:=by
    match xs,hlen with
    |[y0,y1],_=>exact⟨y0,y1,rfl⟩
  have h0:=hg 0 _ rfl
  obtain⟨a0,b0,r0⟩:=LS Tryz.underlying9 h0 (UL Tryz.underlying112 hf (i:=0) rfl rfl)
  have h1:=hg 1 _ rfl
  obtain⟨a1,b1,r1⟩:=EX.rd n _ _ h1 (UL Tryz.underlying112 hf (i:=1) rfl rfl)
  refine⟨⟨a0,a1⟩,⟨b0,b1⟩,?_⟩
  have:=(Wa r0 (by kernel_rfl) (by kernel_rfl) (Ha r1 (hl.trans (by kernel_rfl))))
  simpa[SetT.cs]using this
theorem TmT.rd{H:Type}{enc:TypeId×Value→H}{w:World}:∀(fuel:Nat) (cs:List Value) (x:DataW H×List MemPlace),Bf enc Tryz.prog w fuel 29 cs=some x→Fits Tryz.prog 29 x.1→∃v:TmT,v.wf∧RdC w cs (v.cs false):=by
  intro fuel
  induction fuel using Nat.strongRecOn with
  |_ fuel ih=>
  intro cs x h hf
  obtain⟨xs,n,rfl,rfl,hl,hlen,hg⟩:=DataW.trod_struct Tryz.underlying29 h
  obtain⟨y0,y1,y2,y3,y4,y5,rfl⟩:∃y0 y1 y2 y3 y4 y5,xs=[y0,y1,y2,y3,y4,y5]:=by
    match xs,hlen with
    |[y0,y1,y2,y3,y4,y5],_=>exact⟨y0,y1,y2,y3,y4,y5,rfl⟩
  have h0:=hg 0 _ rfl
  obtain⟨a0,b0,r0⟩:=Dd Tryz.underlying3 h0
  have h1:=hg 1 _ rfl
  obtain⟨a1,b1,r1⟩:=LS Tryz.underlying9 h1 (UL Tryz.underlying29 hf (i:=1) rfl rfl)
  have h2:=hg 2 _ rfl
  obtain⟨a2,b2,r2⟩:=EX.rd n _ _ h2 (UL Tryz.underlying29 hf (i:=2) rfl rfl)
  have h3:=hg 3 _ rfl
  obtain⟨a3,b3,r3⟩:=EX.rd n _ _ h3 (UL Tryz.underlying29 hf (i:=3) rfl rfl)
  have h4:=hg 4 _ rfl
  obtain⟨a4,b4,c4,r4⟩:=Ky (ei:=eSe) (f:=SetT.cs false) (Wf:=SetT.wf) Tryz.underlying26 (by kernel_rfl) (by kernel_rfl) (by decide) h4 (UL Tryz.underlying29 hf (i:=4) rfl rfl) (fun _=>SetT.cs_length false _) (fun m cs' y hm hy hfy=>AtR.rd m cs' y hy hfy)
  have h5:=hg 5 _ rfl
  obtain⟨a5,b5,c5,r5⟩:=Ky (ei:=eTm) (f:=TmT.cs false) (Wf:=TmT.wf) Tryz.underlying27 (by kernel_rfl) (by kernel_rfl) (by decide) h5 (UL Tryz.underlying29 hf (i:=5) rfl rfl) (fun _=>TmT.cs_length false _) (fun m cs' y hm hy hfy=>ih m (by omega) cs' y hy hfy)
  refine⟨.mk a0 a1 a2 a3 a4 a5,.mk b0 b1 b2 b3 c4 b4 c5 b5,?_⟩
  have:=(Wa r0 (by kernel_rfl) (by kernel_rfl) ((Wa r1 (by kernel_rfl) (by kernel_rfl) ((Wa r2 (by rw[EX.cs_length];kernel_rfl) (by kernel_rfl) ((Wa r3 (by rw[EX.cs_length];kernel_rfl) (by kernel_rfl) ((Wa r4 (by kernel_rfl) (by kernel_rfl) (Ha r5 (hl.trans (by kernel_rfl))))))))))))
  simpa[TmT.cs,SetT.css,TmT.css_eq]using this

end
section
/- What a template that may be makes: words, trees; errors are never 0; the order of attributes. -/
/-! parts that may be -/
inductive TmT.Fine:TmT→Prop
  |mk {w:Int} {t:QM} {k x:EX} {a:List SetT} {l:List TmT} (hp:(TmT.mk w t k x a l).partOk=true) (ha:a.length≤16) (hl:l.length≤16) (hk:k.Fine) (hx:x.Fine) (hs:∀s∈a,s.ex.Fine) (hf:∀y∈l,TmT.Fine y):TmT.Fine (.mk w t k x a l)
theorem TmT.Fine.inv{w:Int}{t:QM}{k x:EX}{a:List SetT}{l:List TmT}(h:TmT.Fine (.mk w t k x a l)):(TmT.mk w t k x a l).partOk=true∧a.length≤16∧l.length≤16∧k.Fine∧x.Fine∧(∀s∈a,s.ex.Fine)∧∀y∈l,y.Fine:=by
  cases h with|mk h1 h2 h3 h4 h5 h6 h7=>exact⟨h1,h2,h3,h4,h5,h6,h7⟩
theorem RY{w:Int}{t:QM}{k x:EX}{a:List SetT}{l:List TmT}{level n:Int}(h:(TmT.mk w t k x a l).ownE level n=0):level≤8∧n<64∧(TmT.mk w t k x a l).partOk=true∧a.length≤16∧l.length≤16∧k.err=0∧x.err=0∧∀s∈a,s.ex.err=0:=by
  unfold TmT.ownE at h
  split at h
  · cases h
  · split at h
    · cases h
    · rename_i h1 h2
      simp only[TmT.attrs,TmT.kids]at h2
      split at h
      · cases h
      · rename_i h3
        have hz:=Pr (show Hz (k.err::x.err::a.map fun s=>s.ex.err)=0 from h)
        exact⟨by omega,by omega,by simpa using h3,by omega,by omega,hz _ (by simp),hz _ (by simp),fun s hs=>hz _ (by simp only[List.mem_cons,List.mem_map];exact .inr (.inr ⟨s,hs,rfl⟩))⟩
mutual
theorem K6:∀(t:TmT) (level n:Int),(t.walk level n).2=0→t.Fine
  |.mk w t k x a l,level,n,h=>by
    unfold TmT.walk at h
    split at h
    · rename_i h1;exact absurd h h1
    · rename_i h1
      obtain⟨-,-,h2,h3,h4,h5,h6,h7⟩:=RY (Decidable.not_not.1 h1)
      exact .mk h2 h3 h4 (EX.fine_of h5) (EX.fine_of h6) (fun s hs=>EX.fine_of (h7 s hs)) (KI l _ _ h)
theorem KI:∀(l:List TmT) (level n:Int),(TmT.walks l level n).2=0→∀y∈l,y.Fine
  |[],_,_,_,y,hy=>by cases hy
  |x::r,level,n,h,y,hy=>by
    unfold TmT.walks at h
    split at h
    · rename_i h1;exact absurd h h1
    · rename_i h1
      rcases List.mem_cons.1 hy with hy|hy
      · rw[hy];exact K6 x level n (Decidable.not_not.1 h1)
      · exact KI r _ _ h y hy
end
theorem TmT.fine_of{t:TmT}(h:t.err=0):t.Fine:=by
  unfold TmT.err at h
  split at h
  · cases h
  · exact K6 t 1 0 h
theorem H9{t:TmT}(h:t.err=0):t.what=1:=by
  unfold TmT.err at h
  split at h
  · cases h
  · rename_i h1;exact Decidable.not_not.1 h1
theorem Rj{t:QM}{k x:EX}{a:List SetT}{l:List TmT}(h:TmT.Fine (.mk 1 t k x a l)):Uo t=true∧x.none=true∧(∀s∈a,Uo s.key=true)∧XF (a.map SetT.key)=true:=by
  obtain⟨h1,-⟩:=h.inv
  simp only[TmT.partOk,if_true,Bool.and_eq_true,List.all_eq_true,List.mem_map,forall_exists_index,and_imp,forall_apply_eq_imp_iff₂]at h1
  exact⟨h1.1.1.1,h1.1.1.2,h1.1.2,h1.2⟩
/-! words -/
theorem Dn{n:Nat}(h:n≤9007199254740992):(Gi n).length≤16:=L0 15 n (by omega)
theorem Ph{n:Int}(h: -9007199254740992≤n∧n≤9007199254740992):(Hw n).length≤17:=by
  unfold Hw
  have:=Dn (n:=n.natAbs) (by omega)
  split
  · simp;omega
  · omega
theorem V.good.text{v:V}(h:v.good)(hk:v.kind=3):v.text.length≤128:=by
  have:=h.fine.part
  obtain⟨k,b,t,ks,is⟩:=v
  obtain rfl:k=3:=hk
  simp[Q8]at this
  exact this.1.1.2
theorem F3{v:V}(h:v.good):(Kq v).1.length≤128:=by
  unfold Kq
  split
  · simp
  · split
    · show(if v.bits=1 then MZ else Hm).length≤128
      split<;>decide
    · split
      · split
        · rename_i hi
          have:=Ph (Xs v.bits hi)
          show(Hw (YR v.bits)).length≤128
          omega
        · simp
      · split
        · rename_i hk;exact h.text hk
        · simp
theorem LH{v:V}(h:v.good):Xl v=Kq v:=if_neg (fun h2=>h2 h.err)
theorem OkE.fuel{r:ER V}{f d:Int}(h:OkE f d r){v:V}{f':Int}(hr:r=.ok (v,f')):v.good∧f'≤f-d∧0≤f':=h v f' hr
theorem U8{α β:Type}{r:ER α}{k:α→Int→ER β}{x:β×Int}(h:Uh r k=.ok x):∃v f,r=.ok (v,f)∧k v f=.ok x:=by
  unfold Uh at h
  cases r with
  |error c=>cases h
  |ok p=>obtain⟨v,f⟩:=p;exact⟨v,f,rfl,h⟩
theorem F4{r:ER V}{w:QM}{f:Int}(h:WK r=.ok (w,f)):∃v,r=.ok (v,f)∧w=(Xl v).1∧(Xl v).2=0:=by
  obtain⟨v,f1,h1,h2⟩:=U8 h
  split at h2
  · rename_i h3;cases h2;exact⟨v,h1,rfl,h3⟩
  · cases h2
theorem XI{e:EX}{s:ScT}{f f':Int}{w:QM}(hf:e.Fine)(hw:e.wf)(hs:s.good)(h:WK (e.ev s f)=.ok (w,f')):w.length≤128∧f'≤f-1∧0≤f':=by
  obtain⟨v,h1,rfl,h2⟩:=F4 h
  obtain⟨g1,g2,g3⟩:=(UM e s f hf hw hs).fuel h1
  rw[LH g1]
  exact⟨F3 g1,g2,g3⟩
theorem Mj{s:ScT}(hs:s.good):∀{a:List SetT} {f f':Int} {l:List AtT},(∀x∈a,x.ex.Fine)→(∀x∈a,x.wf)→0≤f→Ye s a f=.ok (l,f')→l.map AtT.name=a.map SetT.key∧(∀x∈l,x.value.length≤128)∧f'≤f∧0≤f'
  |[],f,f',l,_,_,h0,h=>by rw[Ye]at h;cases h;exact⟨rfl,(fun _ h=>by cases h),Int.le_refl _,h0⟩
  |x::r,f,f',l,hf,hw,h0,h=>by
    rw[Ye]at h
    obtain⟨w,f1,h1,h⟩:=U8 h
    obtain⟨b,f2,h2,h⟩:=U8 h
    cases h
    obtain⟨g1,g2,g3⟩:=XI (hf x (by simp)) (hw x (by simp)).ex hs h1
    obtain⟨k1,k2,k3,k4⟩:=Mj hs (fun y hy=>hf y (by simp[hy])) (fun y hy=>hw y (by simp[hy])) g3 h2
    exact⟨by simp[k1],fun y hy=>by rcases List.mem_cons.1 hy with rfl|hy;exact g1;exact k2 y hy,by omega,k4⟩
/-! the order of attributes -/
theorem Hx(a:AtT):∀l,(MN a l).Perm (a::l)
  |[]=>.refl _
  |b::r=>by
    unfold MN
    split
    · exact((Hx a r).cons b).trans (List.Perm.swap a b r)
    · exact .refl _
theorem Ma:∀(l acc:List AtT),(l.foldl (fun acc a=>MN a acc) acc).Perm (l++acc)
  |[],acc=>.refl _
  |a::r,acc=>(Ma r (MN a acc)).trans (((Hx a acc).append_left r).trans List.perm_middle)
theorem Gd(l:List AtT):(GB l).Perm l:=by have:=Ma l [];rwa [List.append_nil]at this
theorem GA(l:List AtT):(GB l).length=l.length:=(Gd l).length_eq
def F1(l:List AtT):Prop:=l.Pairwise fun a b=>Op.bytesLess b.name a.name=false
theorem Th{a:AtT}:∀{l:List AtT},F1 l→F1 (MN a l)
  |[],_=>by simp[MN,F1]
  |b::r,h=>by
    obtain⟨h1,h2⟩:=List.pairwise_cons.1 h
    unfold MN
    split
    · rename_i hb
      refine List.pairwise_cons.2 ⟨fun c hc=>?_,Th h2⟩
      rcases List.mem_cons.1 ((Hx a r).mem_iff.1 hc)with rfl|hc
      · exact Fe hb
      · exact h1 c hc
    · rename_i hb
      have hb:Op.bytesLess b.name a.name=false:=by simpa using hb
      refine List.pairwise_cons.2 ⟨fun c hc=>?_,h⟩
      rcases List.mem_cons.1 hc with rfl|hc
      · exact hb
      · have h3:=h1 c hc
        cases h4:Op.bytesLess c.name a.name with
        |false=>rfl
        |true=>
          rcases GJ b.name c.name with k|k|k
          · rw[W3 k h4]at hb;cases hb
          · rw[k,h4]at hb;cases hb
          · rw[h3]at k;cases k
theorem Ng:∀(l acc:List AtT),F1 acc→F1 (l.foldl (fun acc a=>MN a acc) acc)
  |[],acc,h=>h
  |a::r,acc,h=>Ng r _ (Th h)
theorem CS(l:List AtT):F1 (GB l):=Ng l [] List.Pairwise.nil
theorem X0:∀{l:List QM},XF l=true↔l.Nodup
  |[]=>by simp[XF]
  |k::r=>by simp[XF,X0 (l:=r)]
theorem LY{l:List QM}:l.Nodup↔∀i (h:i<l.length),l[i]∉l.take i:=by
  unfold List.Nodup
  rw[List.pairwise_iff_getElem]
  constructor
  · intro h i hi hm
    obtain⟨j,hj,e⟩:=List.mem_take_iff_getElem.1 hm
    exact h j i (by omega) hi (by omega) e
  · intro h i j hi hj hij e
    exact h j hj (List.mem_take_iff_getElem.2 ⟨i,by omega,e⟩)
theorem C5{l:List QM}{i:Nat}(hi:i<l.length)(h:(l.take i).contains l[i]=true):XF l=false:=by
  rw[Bool.eq_false_iff]
  intro hc
  exact LY.1 (X0.1 hc) i hi (by simpa using h)
theorem Dk{l:List QM}(h:∀i (hi:i<l.length),(l.take i).contains l[i]=false):XF l=true:=
  X0.2 (LY.2 fun i hi hm=>by have:=h i hi;simp at this;exact this hm)
theorem LK:∀{a b:List AtT},a.Perm b→(a.map AtT.name).Nodup→F1 a→F1 b→a=b
  |[],b,h,_,_,_=>(List.nil_perm.1 h).symm
  |x::r,[],h,_,_,_=>by have:=h.length_eq;simp at this
  |x::r,y::s,h,hn,ha,hb=>by
    obtain⟨h1,h2⟩:=List.pairwise_cons.1 ha
    obtain⟨h3,h4⟩:=List.pairwise_cons.1 hb
    have hxy:x=y:=by
      rcases List.mem_cons.1 (h.mem_iff.1 (List.mem_cons_self (a:=x) (l:=r)))with e|hx
      · exact e
      · rcases List.mem_cons.1 (h.mem_iff.2 (List.mem_cons_self (a:=y) (l:=s)))with e|hy
        · exact e.symm
        · have k1:=h1 y hy
          have k2:=h3 x hx
          have hne:¬x.name=y.name:=fun e=>(List.nodup_cons.1 hn).1 (List.mem_map.2 ⟨y,hy,e.symm⟩)
          rcases GJ x.name y.name with k|k|k
          · rw[k2]at k;cases k
          · exact absurd k hne
          · rw[k1]at k;cases k
    subst hxy
    rw[LK (List.Perm.cons_inv h) (List.nodup_cons.1 hn).2 h2 h4]
theorem NJ{a b:List AtT}(h:a.Perm b)(hn:(a.map AtT.name).Nodup)(hb:F1 b):b=GB a:=
  (LK (h.symm.trans (Gd a).symm) ((h.map _).nodup_iff.1 hn) hb (CS a))
/-! trees that fit -/
theorem HY{s:QM}(h:Uo s=true):1≤s.length∧s.length≤16:=by
  simp only[Uo,Bool.and_eq_true,decide_eq_true_eq]at h;exact h.1
theorem Bp{l:List AtT}{a:List SetT}(hn:l.map AtT.name=a.map SetT.key)(hl:∀s∈a,Uo s.key=true)(hv:∀x∈l,x.value.length≤128):∀x∈GB l,AtT.wf x:=fun x hx=>by
  have hm:=(Gd l).mem_iff.1 hx
  obtain⟨s,hs,e⟩:=List.mem_map.1 (hn▸List.mem_map.2 ⟨x,hm,rfl⟩)
  have h1:=(HY (hl s hs)).2
  have h2:=hv x hm
  exact⟨by rw[← e];unfold Qr;omega,by unfold Qr;omega⟩
def OkT(f:Int)(r:ER (List TrT)):Prop:=∀l f',r=.ok (l,f')→(∀x∈l,x.wf)∧(l.length:Int)+f'≤f∧0≤f'
theorem Nk{t:QM}{k:EX}{a:List SetT}{g:ScT→Int→ER (List TrT)}{s:ScT}{f f':Int}{y:TrT}(hs:s.good)(h0:f≤4096)(ht:Uo t=true)(hk:k.Fine∧k.wf)(ha:a.length≤16)(haf:∀x∈a,x.ex.Fine)(haw:∀x∈a,x.wf)(hal:∀x∈a,Uo x.key=true)
    (hg:∀f,0≤f→f≤4096→OkT f (g s f)) (h:Yq t k a g s f=.ok (y,f')):y.wf∧1+f'≤f∧0≤f':=by
  obtain⟨key,f1,h1,h⟩:=U8 h
  obtain⟨g1,g2,g3⟩:=XI hk.1 hk.2 hs h1
  split at h
  · cases h
  · obtain⟨l,f2,h2,h⟩:=U8 h
    obtain⟨ks,f3,h3,h⟩:=U8 h
    cases h
    obtain⟨k1,k2,k3,k4⟩:=Mj hs haf haw g3 h2
    obtain⟨j1,j2,j3⟩:=hg f2 k4 (by omega) ks f' h3
    have hlen:l.length=a.length:=by have:=congrArg List.length k1;simpa using this
    have htl:=(HY ht).2
    exact⟨.mk (by unfold Qr;omega) (by unfold Qr;omega) (by decide) (by rw[GA];unfold Qr;omega) (Bp k1 hal k2) (by unfold Qr;omega) j1,by omega,j3⟩
theorem Nl{g:V→Int→ER (List TrT)}:∀{l:List V} {f:Int},(∀x∈l,∀f,0≤f→f≤4096→OkT f (g x f))→0≤f→f≤4096→OkT f (UX g l f)
  |[],f,_,h0,_,l,f',h=>by rw[UX]at h;cases h;exact⟨(fun _ h=>by cases h),by simp,h0⟩
  |x::r,f,hg,h0,h1,l,f',h=>by
    rw[UX]at h
    obtain⟨a,f1,h2,h⟩:=U8 h
    obtain⟨b,f2,h3,h⟩:=U8 h
    cases h
    obtain⟨g1,g2,g3⟩:=hg x (by simp) f h0 h1 a f1 h2
    obtain⟨k1,k2,k3⟩:=Nl (fun y hy=>hg y (by simp[hy])) g3 (by omega) b f' h3
    exact⟨fun y hy=>(List.mem_append.1 hy).elim (g1 y) (k1 y),by simp;omega,k3⟩
theorem txt_wf{w:QM}(h:w.length≤128):(TrT.txt w).wf:=.mk (by decide) (by decide) (by unfold Qr;omega) (by decide) (fun _ h=>by cases h) (by decide) (fun _ h=>by cases h)
theorem ScT.good.item{s:ScT}(h:s.good){y:V}(hy:y.good):ScT.good {s with it:=y}:=⟨h.st,h.ev,hy⟩
mutual
theorem K7:∀(t:TmT) {s:ScT} {f:Int},t.Fine→t.wf→s.good→0≤f→f≤4096→OkT f (t.partE s f)
  |.mk w t k x a l,s,f,hf,hw,hs,h0,h1,r,f',h=>by
    obtain⟨hp,ha,hl,hk,hx,haf,hlf⟩:=hf.inv
    obtain⟨-,-,hkw,hxw,-,haw,-,hlw⟩:=hw.inv
    rw[TmT.partE]at h
    split at h
    · rename_i hw1
      subst hw1
      obtain⟨y,f1,h2,h⟩:=U8 h
      cases h
      obtain⟨e1,-,e3,-⟩:=Rj hf
      obtain⟨g1,g2,g3⟩:=Nk hs h1 e1 ⟨hk,hkw⟩ ha haf haw e3 (fun f hf0 hf1=>Ws l hlf hlw hs hf0 hf1) h2
      exact⟨fun z hz=>by rw[List.mem_singleton.1 hz];exact g1,by simp;omega,g3⟩
    · split at h
      · obtain⟨y,f1,h2,h⟩:=U8 h
        cases h
        obtain⟨g1,g2,g3⟩:=XI hx hxw hs h2
        exact⟨fun z hz=>by rw[List.mem_singleton.1 hz];exact txt_wf g1,by simp;omega,g3⟩
      · obtain⟨v,f1,h2,h⟩:=U8 h
        obtain⟨g1,g2,g3⟩:=(UM x s f hx hxw hs).fuel h2
        split at h
        · split at h
          · cases h
          · split at h
            · obtain⟨k1,k2,k3⟩:=Ws l hlf hlw hs g3 (by omega) r f' h
              exact⟨k1,by omega,k3⟩
            · cases h;exact⟨(fun _ h=>by cases h),by simp;omega,g3⟩
        · split at h
          · obtain⟨k1,k2,k3⟩:=Nl (fun y hy f hf0 hf1=>Ws l hlf hlw (hs.item (g1.kid hy)) hf0 hf1) g3 (by omega) r f' h
            exact⟨k1,by omega,k3⟩
          · cases h
theorem Ws:∀(l:List TmT) {s:ScT} {f:Int},(∀y∈l,y.Fine)→(∀y∈l,y.wf)→s.good→0≤f→f≤4096→OkT f (Qy l s f)
  |[],s,f,_,_,_,h0,_,r,f',h=>by rw[Qy]at h;cases h;exact⟨(fun _ h=>by cases h),by simp,h0⟩
  |x::q,s,f,hf,hw,hs,h0,h1,r,f',h=>by
    rw[Qy]at h
    obtain⟨a,f1,h2,h⟩:=U8 h
    obtain⟨b,f2,h3,h⟩:=U8 h
    cases h
    obtain⟨g1,g2,g3⟩:=K7 x (hf x (by simp)) (hw x (by simp)) hs h0 h1 a f1 h2
    obtain⟨k1,k2,k3⟩:=Ws q (fun y hy=>hf y (by simp[hy])) (fun y hy=>hw y (by simp[hy])) hs g3 (by omega) b f' h3
    exact⟨fun y hy=>(List.mem_append.1 hy).elim (g1 y) (k1 y),by simp;omega,k3⟩
end
/-! errors are never 0 -/
theorem Nz.word{r:ER V}(h:Nz r):Nz (WK r):=Nz.bind h fun v f _=>Nz.ite (fun _=>.ok _) fun h=>.er h
theorem PT{s:ScT}:∀{a:List SetT} {f:Int},(∀x∈a,x.ex.Fine)→Nz (Ye s a f)
  |[],f,_=>by rw[Ye];exact .ok _
  |x::r,f,h=>by
    rw[Ye]
    exact Nz.bind (Nz.word (Wb x.ex s f (h x (by simp)))) fun w f1 _=>Nz.bind (PT fun y hy=>h y (by simp[hy])) fun l f2 _=>.ok _
theorem Cs{t:QM}{k:EX}{a:List SetT}{g:ScT→Int→ER (List TrT)}{s:ScT}{f:Int}(hk:k.Fine)(ha:∀x∈a,x.ex.Fine)(hg:∀f,Nz (g s f)):Nz (Yq t k a g s f):=
  Nz.bind (Nz.word (Wb k s f hk)) fun key f1 _=>Nz.ite (fun _=>.er (by decide)) fun _=>Nz.bind (PT ha) fun l f2 _=>Nz.bind (hg f2) fun ks f3 _=>.ok _
theorem Cu{g:V→Int→ER (List TrT)}(hg:∀x f,Nz (g x f)):∀{l:List V} {f:Int},Nz (UX g l f)
  |[],f=>by rw[UX];exact .ok _
  |x::r,f=>by rw[UX];exact Nz.bind (hg x f) fun a f1 _=>Nz.bind (Cu hg) fun b f2 _=>.ok _
mutual
theorem TO:∀(t:TmT) (s:ScT) (f:Int),t.Fine→Nz (t.partE s f)
  |.mk w t k x a l,s,f,hf=>by
    obtain⟨hp,ha,hl,hk,hx,haf,hlf⟩:=hf.inv
    rw[TmT.partE]
    exact Nz.ite (fun _=>Nz.bind (Cs hk haf fun f=>YJ l s f hlf) fun y f1 _=>.ok _) fun _=>Nz.ite (fun _=>Nz.bind (Nz.word (Wb x s f hx)) fun y f1 _=>.ok _) fun _=>Nz.bind (Wb x s f hx) fun v f1 _=>
      Nz.ite (fun _=>Nz.ite (fun h=>.er h) fun _=>Nz.ite (fun _=>YJ l s f1 hlf) fun _=>.ok _) fun _=>Nz.ite (fun _=>Cu fun y f=>YJ l {s with it:=y} f hlf) fun _=>.er (by decide)
theorem YJ:∀(l:List TmT) (s:ScT) (f:Int),(∀y∈l,y.Fine)→Nz (Qy l s f)
  |[],s,f,_=>by rw[Qy];exact .ok _
  |x::q,s,f,hf=>by
    rw[Qy]
    exact Nz.bind (TO x s f (hf x (by simp))) fun a f1 _=>Nz.bind (YJ q s f1 fun y hy=>hf y (by simp[hy])) fun b f2 _=>.ok _
end
theorem FS(t:TmT)(s:ScT)(f:Int)(h:t.Fine):Nz (t.elE s f):=by
  obtain⟨w,t,k,x,a,l⟩:=t
  obtain⟨hp,ha,hl,hk,hx,haf,hlf⟩:=h.inv
  exact Cs hk haf fun f=>YJ l s f hlf
theorem La{t:TmT}{s:ScT}{f f':Int}{y:TrT}(hf:t.Fine)(hw:t.wf)(h1:t.what=1)(hs:s.good)(hf1:f≤4096)(h:t.elE s f=.ok (y,f')):y.wf∧1+f'≤f∧0≤f':=by
  obtain⟨w,t,k,x,a,l⟩:=t
  obtain rfl:w=1:=h1
  obtain⟨hp,ha,hl,hk,hx,haf,hlf⟩:=hf.inv
  obtain⟨-,-,hkw,hxw,-,haw,-,hlw⟩:=hw.inv
  obtain⟨e1,-,e3,-⟩:=Rj hf
  exact Nk hs hf1 e1 ⟨hk,hkw⟩ ha haf haw e3 (fun f hf0 hf1=>Ws l hlf hlw hs hf0 hf1) h

end
section
/- Maps of texts that are true: an own entry. -/
open Go Go.RowKit Go.MapKept
def TJ(l:List QM)(s:QM):List QM:=if l.contains s then l else l++[s]
abbrev mpK(b:Nat)(l:List QM):Own:=.mp b (l.map Q4)
theorem Sv{a b:QM}(h:Q4 a=Q4 b):a=b:=by simpa[Q4]using h
theorem R4{es:Array MapEntry}{l:List QM}(h:es.toList.map (fun e=>(e.key,e.val))=(l.map Q4).map fun k=>(k,Value.bool true)):∀x∈es.toList,IsKey .string x.key:=fun x hx=>by
  have hm:(x.key,x.val)∈(l.map Q4).map fun k=>(k,Value.bool true):=h▸List.mem_map.2 ⟨x,hx,rfl⟩
  obtain⟨k,hk,e⟩:=List.mem_map.1 hm
  obtain⟨s,_,rfl⟩:=List.mem_map.1 hk
  rw[← (Prod.mk.inj e).1];simp[IsKey]
theorem BZ{es:Array MapEntry}{l:List QM}(h:es.toList.map (fun e=>(e.key,e.val))=(l.map Q4).map fun k=>(k,Value.bool true)){x:MapEntry}(hx:x∈es.toList){s:QM}(hs:x.key=Q4 s):x.val=.bool true∧s∈l:=by
  have hm:(x.key,x.val)∈(l.map Q4).map fun k=>(k,Value.bool true):=h▸List.mem_map.2 ⟨x,hx,rfl⟩
  obtain⟨k,hk,e⟩:=List.mem_map.1 hm
  obtain⟨u,hu,rfl⟩:=List.mem_map.1 hk
  obtain⟨e1,e2⟩:=Prod.mk.inj e
  exact⟨e2.symm,Sv (e1.trans hs)▸hu⟩
theorem mp_no{es:Array MapEntry}{l:List QM}(h:es.toList.map (fun e=>(e.key,e.val))=(l.map Q4).map fun k=>(k,Value.bool true)){s:QM}(hn:∀x∈es.toList,x.key≠Q4 s):s∉l:=fun hm=>by
  have:(Q4 s,Value.bool true)∈es.toList.map (fun e=>(e.key,e.val)):=h▸List.mem_map.2 ⟨Q4 s,List.mem_map.2 ⟨s,hm,rfl⟩,rfl⟩
  obtain⟨x,hx,e⟩:=List.mem_map.1 this
  exact hn x hx (Prod.mk.inj e).1
section
variable {P:Program} {E:Wy} {Q:Exit→St→Prop} {n:Nat} {env:List (Nat×AV)} {own:List Own} {F:List (Value×AV)} {D:List Deferred}
variable {d:Nat} {ty t kt et:TypeId} {pos:String} {af:Array Edge} {x y z:Operand} {ops:Array Oper} {rest:List Oper}
theorem JL.makeMap(hd:Nat.blt d n=true)(h:∀b,JL P E ops rest ⟨n,(d,.c (.map (some b)))::env,mpK b []::own,F,D⟩ Q):
    JL P E ops (⟨some d,.makeMap t none,ty,pos,af,none⟩::rest) ⟨n,env,own,F,D⟩ Q:=fun a w ⟨A,hA⟩=>by
  refine wpListIn_plain rfl fun K hK=>?_
  refine HL (by intro c h;cases h) ?_
  unfold Oper.wp
  have hr:(execOp a.eval ⟨some d,.makeMap t none,ty,pos,af,none⟩).run P w=.ok (.value (.map (some w.heap.size))) (QI w (.map #[] 0)):=by
    have h1:(Instr.makeMap t none).run P w=.ok (.map (some w.heap.size)) (QI w (.map #[] 0)):=rfl
    simp only[execOp,Option.map_none,h1,Sem.run_bind,Result.andThen_ok,Sem.run_pure]
  rw[hr,Oper.upon_value]
  refine hK _ _ (h w.heap.size _ _ ⟨A,?_⟩)
  exact(hA.step (.push _ _ _) (fun _ _ h=>h) (hA.hp.push hA.keep.size (o:=mpK w.heap.size []) rfl (by simp only[Own.ok];exact⟨#[],0,Xv _ _,rfl⟩))).put (Ul hd) (.c _)
theorem NB(i:Nat){b:Nat}{l:List QM}{s:QM}(hm:P.underlying t=some (.map kt et))(hk:P.underlying kt=some .string)(hx:Ev E ⟨n,env,own,F,D⟩ x (.c (.map (some b))))(hy:Ev E ⟨n,env,own,F,D⟩ y (.c (Q4 s)))
    (hz:Ev E ⟨n,env,own,F,D⟩ z (.c (.bool true))) (ho:own[i]? =some (mpK b l)) {own':List Own} (hown:own.set i (mpK b (TJ l s))=own') (h:JL P E ops rest ⟨n,env,own',F,D⟩ Q):
    JL P E ops (⟨none,.mapUpdate t x y z,ty,pos,af,none⟩::rest) ⟨n,env,own,F,D⟩ Q:=fun a w ⟨A,hA⟩=>by
  refine wpListIn_plain rfl fun K hK=>?_
  refine HL (by intro c h;cases h) ?_
  unfold Oper.wp
  subst hown
  have hok:=hA.hp.own _ (List.mem_of_getElem? ho)
  simp only[Own.ok]at hok
  obtain⟨es,ck,hb,he⟩:=hok
  have hks:=R4 he
  have hkey:IsKey .string (Q4 s):=by simp[IsKey]
  obtain⟨es',ck',hr,he'⟩:∃es' ck',(execOp a.eval ⟨none,.mapUpdate t x y z,ty,pos,af,none⟩).run P w=.ok .skip {w with heap:=w.heap.setIfInBounds b (.map es' ck')}∧
      es'.toList.map (fun e=>(e.key,e.val))=((TJ l s).map Q4).map fun k=>(k,Value.bool true):=by
    rcases findNow_spec hkey es.toList 0 hks with ⟨h1,h2⟩|⟨j,e,h1,h2,h3⟩
    · refine⟨_,_,by simp[execOp,hx.eq hA,hy.eq hA,hz.eq hA,Instr.mapUpdate,Qq _ hm,Go.MapKept.run_getObj_map hb,Go.MapKept.run_checkKey hk hkey,Go.MapKept.run_findKey hk h1,Go.MapKept.run_setObj_map _ hb,Result.andThen];rfl,?_⟩
      have hns:=mp_no he h2
      rw[TJ,if_neg (by simpa using hns)]
      simp[he]
    · have hj:es[j]? =some e:=by simpa using h2
      refine⟨_,_,by simp[execOp,hx.eq hA,hy.eq hA,hz.eq hA,Instr.mapUpdate,Qq _ hm,Go.MapKept.run_getObj_map hb,Go.MapKept.run_checkKey hk hkey,Go.MapKept.run_findKey hk h1,hj,h3,Go.MapKept.run_keyThatStays hkey,Go.MapKept.run_setObj_map _ hb,Result.andThen];rfl,?_⟩
      obtain⟨hv,hsl⟩:=BZ he (List.mem_of_getElem? h2) h3
      rw[TJ,if_pos (by simpa using hsl),← he]
      rw[Array.toList_modify]
      apply List.ext_getElem?
      intro m
      rw[List.getElem?_map,List.getElem?_map,List.getElem?_modify]
      by_cases hjm:j=m
      · subst hjm;rw[h2];simp[h3,hv]
      · simp[hjm]
  rw[hr,Oper.upon_skip]
  have hlt:=X4 hb
  have hh:=Go.MapKept.heap_set (o':=.map es' ck') hb
  have hkp:Keep [b] w {w with heap:=w.heap.setIfInBounds b (.map es' ck')}:=⟨rfl,rfl,rfl,by simp,fun k _ hk=>hh.2 k (by simpa using hk)⟩
  refine hK _ _ (h _ _ ⟨A,?_⟩)
  refine hA.step (hkp.mono fun c hc=>?_) (fun _ _ h=>h) (hA.hp.upd (o':=mpK b _) ho rfl hkp (by simp) ?_)
  · simp only[List.mem_singleton]at hc;subst hc;exact Us (List.mem_of_getElem? ho) (by simp[Own.fp])
  · simp only[Own.ok];exact⟨es',ck',hh.1,he'⟩
end
section
variable {P:Program} {E:Wy} {st:St} {ty t kt et:TypeId} {pos:String} {af:Array Edge} {d:Option Tmp} {gd:Option (Nat×Bool)} {x y:Operand}
theorem Hc(i:Nat){b:Nat}{l:List QM}{s:QM}(hm:P.underlying t=some (.map kt et))(hk:P.underlying kt=some .string)(hza:∀w,(zeroValue et).run P w=.ok (.bool false) w)(hx:Ev E st x (.c (.map (some b))))(hy:Ev E st y (.c (Q4 s)))
    (ho:st.own[i]? =some (mpK b l)):QW P E st ⟨d,.lookup t x y false,ty,pos,af,gd⟩ (.c (.bool (l.contains s))):=.pure fun A a w hs=>by
  have hok:=hs.hp.own _ (List.mem_of_getElem? ho)
  simp only[Own.ok]at hok
  obtain⟨es,ck,hb,he⟩:=hok
  have hkey:IsKey .string (Q4 s):=by simp[IsKey]
  rcases findNow_spec hkey es.toList 0 (R4 he)with ⟨h1,h2⟩|⟨j,e,h1,h2,h3⟩
  · refine⟨_,by simp[execOp,hx.eq hs,hy.eq hs,Instr.lookup,Qq _ hm,Go.MapKept.run_getObj_map hb,Go.MapKept.run_checkKey hk hkey,Go.MapKept.run_findKey hk h1,hza,Result.andThen];rfl,?_⟩
    have:l.contains s=false:=by simpa using mp_no he h2
    rw[this];exact .c _
  · obtain⟨hv,hsl⟩:=BZ he (List.mem_of_getElem? h2) h3
    refine⟨_,by simp[execOp,hx.eq hs,hy.eq hs,Instr.lookup,Qq _ hm,Go.MapKept.run_getObj_map hb,Go.MapKept.run_checkKey hk hkey,Go.MapKept.run_findKey hk h1,Result.andThen];rfl,?_⟩
    have:l.contains s=true:=by simpa using hsl
    rw[this,hv];exact .c _
end
theorem SatA.freshW{E:Wy}{A:QV}{st:St}{a:Act}{w w':World}(hA:SatA E A st a w)(hk:Keep [] w w')(hz:w'.heap.size=w.heap.size+1):
    ∃A',SatA E A' st a w'∧Frm w A w' A'∧∀fr,A' fr w.heap.size:=by
  obtain⟨n,env,own,F,D⟩:=st
  let A':QV:=fun fr b=>A fr b∨b=w.heap.size
  have hup:∀fr b,A fr b→A' fr b:=fun fr b hb=>.inl hb
  have hkeep:∀fr b,A fr b→b<w.heap.size→w'.heap[b]? =w.heap[b]? :=fun fr b _ hlt=>hk.block b hlt (by simp)
  refine⟨A',hA.step (hk.mono (fun x hx=>by cases hx)) hup ⟨fun b hb=>hb.imp (hA.hp.mono b) id,fun fr b hb=>hup fr b (hA.hp.sup fr b hb),fun fr b hb=>?_,fun fr b hb=>?_,fun b hb=>?_,hA.hp.nodup,fun o ho=>?_⟩,
    fun u y h=>h.move (fun fr b hb _=>hup fr b hb) hkeep,fun fr=>.inr rfl⟩
  · rcases hb with hb|rfl
    · exact hA.hp.sub fr b hb
    · exact .inr hA.keep.size
  · rw[hz]
    rcases hb with hb|rfl
    · have:=hA.hp.lt fr b hb;omega
    · omega
  · obtain⟨h1,h2,h3⟩:=hA.hp.fp b hb
    exact⟨by rw[hz];omega,h2,fun fr h=>h.elim (h3 fr) (fun he=>by omega)⟩
  · exact(hA.hp.own o ho).move (fun fr b hb _=>hup fr b hb) hkeep fun b hb=>hk.block b (hA.hp.fp b (Us ho hb)).1 (by simp)
theorem Rs{P:Program}{E:Wy}{st:St}{ty s0 t e8:TypeId}{pos:String}{af:Array Edge}{dd:Option Tmp}{gd:Option (Nat×Bool)}{x:Operand}{l:QM}(hS:P.underlying s0=some .string)(hT:P.underlying t=some (.slice e8))(hE:P.underlying e8=some (.int .u8))
    (hx:Ev E st x (.c (Q4 l))) (hl:l.length≤Qr):QW P E st ⟨dd,.convert s0 t x,ty,pos,af,gd⟩ (.sl true false ⟨1,1⟩ (W1 l)):=fun A a w hA K Qx hK=>by
  refine HL (by intro c h;cases h) ?_
  unfold Oper.wp
  have hsz:(⟨l.toArray⟩:ByteArray).size=l.length:=by simp[ByteArray.size]
  have hr:(execOp a.eval ⟨dd,.convert s0 t x,ty,pos,af,gd⟩).run P w=.ok (.value (.slice (some ⟨w.heap.size,0,none⟩) l.length (grownCap w l.length 0 e8))) (Lib.bytesWorld w e8 ⟨l.toArray⟩):=by
    simp only[execOp,hx.eq hA,Sem.run_bind,Lib.run_convert_string_bytes w s0 t e8 _ hS hT hE,Result.andThen_ok,Sem.run_pure,hsz]
  rw[hr,Oper.upon_value]
  have hk:Keep [] w (Lib.bytesWorld w e8 ⟨l.toArray⟩):=⟨by simp[Lib.bytesWorld,World.freeze,World.alloc,World.drew,-World.alloc_eq,-World.drew_eq],by simp[Lib.bytesWorld,World.freeze,World.alloc,World.drew,-World.alloc_eq,-World.drew_eq],by simp[Lib.bytesWorld,World.freeze,World.alloc,World.drew,-World.alloc_eq,-World.drew_eq],
    by rw[Lib.bytesWorld_size];omega,fun k hk _=>Lib.bytesWorld_at_old w e8 _ k hk⟩
  obtain⟨A',h1,h2,h3⟩:=hA.freshW hk (Lib.bytesWorld_size w e8 _)
  refine hK _ _ A' h2 h1 ?_
  have hb:=Lib.bytesWorld_at_new w e8 ⟨l.toArray⟩
  have hlen:(W1 l).length=l.length:=UV l
  have hg:Rd (Lib.bytesWorld w e8 ⟨l.toArray⟩) A' (.slice (some ⟨w.heap.size,0,none⟩) (W1 l).length (grownCap w l.length 0 e8)) (.sl true false ⟨1,1⟩ (W1 l)):=by
    refine .sl true false ⟨1,1⟩ (W1 l) w.heap.size 0 _ _ _ _ (fun k=>Value.int .u8 ((l.getD k 0).toNat:Int)) (h3 true) hb (by rw[hlen];exact grownCap_ge _ _ _ _) (fun h=>by cases h) (fun x hx=>?_) (by rw[hlen,Nat.mul_one];exact hl) (fun k y hk=>?_) (fun k y hk=>?_)
    · obtain⟨c,_,rfl⟩:=List.mem_map.1 hx;rfl
    · rw[G3,List.getElem?_map]at hk
      cases hc:l[k]? with
      |none=>rw[hc]at hk;cases hk
      |some c=>
        have hlt:k<l.length:=(List.getElem?_eq_some_iff.1 hc).1
        refine⟨?_,rfl⟩
        rw[Nat.zero_add]
        have hgd:l.getD k 0=c:=by simp[List.getD_eq_getElem?_getD,hc]
        rw[hgd,Lib.bytesCells,Array.getElem?_append_left (by simpa using hlt)]
        simp[hc]
    · rw[G3,List.getElem?_map]at hk
      cases hc:l[k]? with
      |none=>rw[hc]at hk;cases hk
      |some c=>
        rw[hc]at hk;cases hk
        have hgd:l.getD k 0=c:=by simp[List.getD_eq_getElem?_getD,hc]
        rw[hgd];exact .c _
  rwa [hlen]at hg
/-! who may defer one call, or none -/
def retE(P:Program)(fn:Func)(R:Wi→List Own→Prop)(e:Exit)(s:St):Prop:=
  retD P fn R e s∨(YQ e=some .returning∧s.dfs=[]∧∃x own' dr,RetEv P fn s x∧s.own.Perm (own'++dr)∧R (.ret x) own')
theorem retE.none{P:Program}{fn:Func}{R:Wi→List Own→Prop}{s:St}{x:AV}(ms:List Cd)(h1:RetEv P fn s x)(h2:s.dfs=[])(h3:R (.ret x) (QG ms s.own)):retE P fn R .ret s:=.inr ⟨rfl,h2,x,QG ms _,_,h1,Qk ms _,h3⟩
theorem T2{P:Program}{own:List Own}{f:FuncId}{fn:Func}{c:Code}{N:Nat}{xs:List AV}{R:Wi→List Own→Prop}(hf:P.funcs[f]? =some fn)(hb:fn.body=some c)(hN:fn.ntmps=N)(hlen:Nat.ble xs.length N=true)
    (h:∀w0 A0,J P ⟨w0,UP own,A0,none⟩ c ⟨N,Xu 0 xs,own,[],[]⟩ (retE P fn R)):AC P f own xs R:=fun w A0 vs hp hargs=>by
  refine calls_of_wp_defers hf hb ?_
  subst hN
  have hin:c.wpIn Fence.wide 0 P _ _ w:=h w A0 _ w ⟨A0,GP hp hargs (Nat.le_of_ble_eq_true hlen)⟩
  refine wp_mono (wpIn_wide.1 hin) fun e a' w' ⟨s,hq,A,hs⟩=>?_
  have hl:∀u,YQ e=some u→u≠ .run→Leaves P fn a'.tmps (fun e w'=>∃r own' A,R r own'∧Keep (UP own) w w'∧Hp w.heap.size (UP own) A0 own' w' A∧RdE w' A e r) a'.defers u w':=by
    intro u hu hne
    rcases hq with ⟨u2,g,fi,ca,op,ro,hu2,hdf,hg,hperm,hD⟩|⟨hu2,hdf,x,own',dr,hev,hperm,hR⟩
    · rw[hu]at hu2
      cases hu2
      obtain⟨n,env,own1,F,D⟩:=s
      simp only at hdf hperm
      have hs':=hs.perm hperm
      rw[hs.defers]
      simp only
      rw[hdf]
      refine leaves_cons (args:=fi.toArray++ca.toArray) (f:=g) hne (by simp only[invoke,L7 hg]) ?_
      have hrl:RdL w' A (fi.toArray++ca.toArray) ((fi++ca).map AV.c):=by
        refine⟨by simp,fun i z hz=>?_⟩
        rw[List.getElem?_map]at hz
        cases hv:(fi++ca)[i]? with
        |none=>rw[hv]at hz;cases hz
        |some v=>
          rw[hv]at hz;cases hz
          have:(fi.toArray++ca.toArray).getD i undef=v:=by
            rw[List.append_toArray,Array.getD_eq_getD_getElem?,List.getElem?_toArray,hv];rfl
          rw[this];exact .c v
      refine(hD w' A _ hs'.callee hrl).mono ?_
      rintro e u' w'' ⟨r,own',A',⟨⟨x,rfl⟩,hst,y,own'',dr,hev,hp2,hR⟩,hk,hp',v,rfl,hv⟩
      have hcalled:=hs'.called hk hp'
      simp only
      rw[hst]
      obtain⟨v',g1,g2⟩:=hev _ A' a' w'' hcalled
      exact⟨v',g1,.ret y,own'',A',hR,hcalled.keep,(hcalled.hp.perm hp2).left,v',rfl,g2⟩
    · rw[hu]at hu2
      cases hu2
      rw[hs.defers,hdf]
      obtain⟨v',g1,g2⟩:=hev _ A a' w' hs
      exact⟨v',g1,.ret x,own',A,hR,hs.keep,(hs.hp.perm hperm).left,v',rfl,g2⟩
  cases e with
  |normal=>exact hl _ rfl (by simp)
  |ret=>exact hl _ rfl (by simp)
  |panic chain=>exact hl _ rfl (by simp)
  |exit id=>rcases hq with ⟨u,g,fi,ca,op,ro,hu,_⟩|⟨hu,_⟩<;>simp[YQ]at hu
  |goto l=>rcases hq with ⟨u,g,fi,ca,op,ro,hu,_⟩|⟨hu,_⟩<;>simp[YQ]at hu
  |outgrown=>rcases hq with ⟨u,g,fi,ca,op,ro,hu,_⟩|⟨hu,_⟩<;>simp[YQ]at hu

end
section
/- Walks: trees: letters, what may be by itself, the walk over nodes. -/
set_option maxRecDepth 10000
set_option maxHeartbeats 4000000
theorem S4(a b:QM):(Op.bytesLess a b||a==b)=!Op.bytesLess b a:=by rw[WU]
theorem Tc(s:QM):Uo s=(s !=[]&&decide (s.length≤16)&&!s.any fun c=>!ML c):=by
  have h1:decide (1≤s.length)=(s !=[]):=by cases s<;>simp
  have h2:(!s.any fun c=>!ML c)=s.all ML:=by
    rw[List.not_any_eq_all_not];simp
  rw[Uo,h1,h2]
def FK(last:QM)(a:AtT):Bool:=!(Op.bytesLess last a.name&&Uo a.name&&decide (a.value.length≤128))
theorem Mk{last:QM}{l:List AtT}{j:Nat}(h:j<l.length):K4 last (l.drop j)=(!FK last l[j]&&K4 l[j].name (l.drop (j+1))):=by
  rw[List.drop_eq_getElem_cons h,K4];simp[FK]
def fPl(b:Nat):Value:=.func (.func 225) #[] #[.pointer (some ⟨b,0,none⟩)]
theorem SU(c:UInt8):Fn Tryz.prog 191 [.c (.int .u8 (c.toNat:Int))] (.c (.bool (!ML c))):=by
  refine AC.of_J Tryz.func191 rfl Tryz.ntmps191 rfl fun w0 A0=>?_
  refine Zs (Zq rfl (QW.assign .const) (Zn (Zs (Zm rfl (Zq rfl (QW.lss (.r rfl) .const) (Zm rfl (Zg rfl (fun hg=>(QW.move (.r rfl))) (Zg rfl (fun hg=>(QW.gtr (.when rfl hg) .const)) (Zq rfl (QW.pick_or (.r rfl) (.r rfl)) ?_)))))))))
  exact Za rfl (Zn (J.ret (Zr [] (RetEv.one rfl (REv.tmp rfl lr)) rfl ⟨U1 (by rw[ML,Bool.eq_iff_iff];simp;omega),rfl⟩)))
theorem Fr{fr c:Bool}{l:QM}(hl:l.length≤Qr):Fn Tryz.prog 220 [.sl fr c ⟨1,1⟩ (W1 l),.c (.func (.func 191) #[] #[])] (.c (.int .i64 (MO (fun c=>!ML c) l 0))):=by
  have hlen:l.length≤9223372036854775805:=by unfold Qr at hl;omega
  refine AC.of_J Tryz.func220 rfl Tryz.ntmps220 rfl fun w0 A0=>?_
  refine Zs (Zq rfl (QW.assign .const) (Zn (J.seq (Zs (Zm rfl (Zq rfl (by first|exact Qh LN (.r rfl) (TrT.css_length _ _)|exact Qh LN (.r rfl) (AtT.css_length _)|exact Qh LN (.r rfl) (UV _)|exact QC LN (.r rfl)|exact QW.len_nil LN (.r rfl)) ?_))))))
  refine Zq rfl (QW.move .const) (Zn (J.block (Ub (ι:=Nat) [0,1,7] (fun j=>[(8,.c (.int .i64 (j:Int)))]) (fun _ oo=>oo) (fun j=>j≤l.length∧MO (fun c=>!ML c) l 0=MO (fun c=>!ML c) (l.drop j) (j:Int)) (fun j=>l.length-j) 0 (⟨Nat.zero_le _,rfl⟩) (QT (.cons rfl lr (.cons rfl lr (.cons rfl lr (.cons rfl lr .nil)))) (Reown.refl _) (fun _ h=>by first|exact h|simp[h])) ?_)))
  intro j ⟨hj,hi⟩
  refine J.conv (by(try simp only[nl,Qj,Qv,Qw,Qu,QY,AV.cellsOf,Qb,Qc,Nat.reduceAdd]);rfl) ?_
  refine Zs (Zq rfl (QW.lss (.r rfl) (.r rfl)) (Zn (J.seq ?_)))
  refine J.cond (.r rfl) (fun c1=>?_) (fun c1=>?_)
  · skip
    have hlt:j<l.length:=by simpa[UV]using c1
    refine Zk (J.seq (J.block (Zs (Zm rfl (Za rfl (Zn (Zs (Zm rfl (Zm rfl ?_)))))))))
    refine Zm rfl (Zq rfl (Qi LN ty5 rfl (.r rfl) (.r rfl) (by first|rfl|omega|(simp;done)) (by exact TB (List.getElem?_eq_getElem hlt))) ?_)
    refine Zt ty5 rfl (Zq rfl (QW.callV QaK (.r rfl) (.cons (.r rfl) .nil) rfl (SU _)) (Zn ?_))
    refine J.cond (.r rfl) (fun c2=>?_) (fun c2=>?_)
    · skip
      exact Zs (Zm rfl (Za rfl (Zn (J.ret (blkQ.r (thenQ.r (thenQ.r (blkQ.r (thenQ.r (Zr [] (RetEv.one rfl (REv.tmp rfl lr)) rfl ⟨by rw[hi,Nc _ hlt,c2];rfl,rfl⟩))))))))))
    refine J.skip (blkQ.n (thenQ.n (Qg (Zq rfl (QW.add (.r rfl) .const (by first|exact Wl (by first|rfl|omega|(simp;done)) (by omega)|exact YZ (by omega)|rfl)) ?_))))
    refine Zm rfl (Zn ?_)
    rw[Nc _ hlt,c2]at hi
    exact⟨j+1,⟨hlt,by rw[hi];simp⟩,by omega,QT (.cons rfl lr (.cons rfl lr (.cons rfl lr (.cons rfl lr .nil)))) (Reown.refl _) (fun _ h=>by first|exact h|simp[h])⟩
  have hge:l.length≤j:=by simpa[UV]using c1
  exact J.exit (Qz (Qz (Q1 (thenQ.n (Zs (Zq rfl (QW.assign .const) (Zn (J.ret (Zr [] (RetEv.one rfl (REv.tmp rfl lr)) rfl ⟨by rw[hi,List.drop_of_length_le hge];rfl,rfl⟩)))))))))
theorem Rl{fr c:Bool}{l:QM}(hl:l.length≤Qr):Fn Tryz.prog 192 [.sl fr c ⟨1,1⟩ (W1 l),.c (.func (.func 191) #[] #[])] (.c (.bool (l.any fun c=>!ML c))):=by
  refine AC.of_J Tryz.func192 rfl Tryz.ntmps192 rfl fun w0 A0=>?_
  refine Zs (Zq rfl (QW.assign .const) (Zn (Zs (Zm rfl (Zm rfl (Zq rfl (QW.call QaF (.cons (.r rfl) (.cons (.r rfl) .nil)) (Fr hl)) (Zq rfl (QW.geq (.r rfl) .const) (Za rfl (Zn ?_)))))))))
  exact J.ret (Zr [] (RetEv.one rfl (REv.tmp rfl lr)) rfl ⟨U1 (by rw[← Ti _ l 0 (Int.le_refl _)]),rfl⟩)
theorem X3{s:QM}(hw:s.length≤Qr):Fn Tryz.prog 146 [.c (Q4 s)] (.c (.bool (Uo s))):=by
  refine AC.of_J Tryz.func146 rfl Tryz.ntmps146 rfl fun w0 A0=>?_
  refine Zs (Zq rfl (QW.assign .const) (Zn (Zs (Zq rfl (QW.assign .func) (Zn (Zs (Zm rfl (Zq rfl (WV (.r rfl) .const) (Zm rfl ?_)))))))))
  refine Zg rfl (fun hg=>(QW.move (.r rfl))) (Zg rfl (fun hg=>(Wn RF (.when rfl hg))) (Zg rfl (fun hg=>(QW.leq (.when rfl hg) .const)) (Zq rfl (QW.pick_and (.r rfl) (.r rfl)) (Zm rfl (Zg rfl (fun hg=>(QW.move (.r rfl))) (Zg rfl (fun hg=>(Rs RF LN iu5 (.when rfl hg) (by exact hw))) ?_))))))
  exact Zg rfl (fun hg=>(QW.move (.r rfl))) (Zg rfl (fun hg=>(QW.call QaJ (.cons (.when rfl hg) (.cons (.when rfl hg) .nil)) (Rl hw))) (Zg rfl (fun hg=>(QW.not (.when rfl hg))) (Zq rfl (QW.pick_and (.r rfl) (.r rfl)) (Za rfl (Zn (J.ret (Zr [] (RetEv.one rfl (REv.tmp rfl lr)) rfl ⟨U1 (by rw[Tc,Bool.eq_iff_iff];simp;intros;omega),rfl⟩)))))))
theorem C2(b:Nat)(last:QM){a:AtT}(hw:a.wf):AC Tryz.prog 225 [.box b [.c (Q4 last)]] [.agg a.cs,.c (.pointer (some ⟨b,0,none⟩))] (YX fun x o=>x=.c (.bool (FK last a))∧o=[.box b [.c (Q4 a.name)]]):=by
  obtain⟨nm,v⟩:=a
  obtain⟨hn,hv⟩:=hw
  simp only at hn hv
  refine AC.of_J Tryz.func225 rfl Tryz.ntmps225 rfl fun w0 A0=>?_
  refine Zs (Qp (.r rfl) rfl fun b2=>Zq rfl (QW.assign .const) (Zn (Zs (Zd Rg rfl (Zl 0 U0 rfl (Zl 1 U0 rfl (Zq rfl (P2 (.r rfl) (.r rfl)) (Zm rfl ?_))))))))
  refine Zg rfl (fun hg=>(Qf Rg (.r rfl) rfl)) (Zg rfl (fun hg=>(Qe 0 U0 (.when rfl hg) rfl rfl)) (Zg rfl (fun hg=>(QW.call Lo (.cons (.when rfl hg) .nil) (X3 hn))) (Zg rfl (fun hg=>(QW.not (.when rfl hg))) (Zq rfl (QW.pick_or (.r rfl) (.r rfl)) (Zm rfl (Zg rfl (fun hg=>(Qf Qa3 (.r rfl) rfl)) (Zg rfl (fun hg=>(Qe 0 U0 (.when rfl hg) rfl rfl)) (Zg rfl (fun hg=>(Wn RF (.when rfl hg))) (Zg rfl (fun hg=>(QW.gtr (.when rfl hg) .const)) ?_)))))))))
  refine Zq rfl (QW.pick_or (.r rfl) (.r rfl)) (Za rfl (Zn (Zs (Zd Rg rfl (Zl 0 U0 rfl (JL.store_box 1 U0 (.r rfl) rfl (.r rfl) (by first|rfl|assumption) rfl rfl rfl rfl ?_))))))
  exact Zn (Zs (Zm rfl (Za rfl (Zn (J.ret (Zr [.k,.p] (RetEv.one rfl (REv.tmp rfl lr)) rfl ⟨_,rfl,congrArg (fun b=>AV.c (.bool b)) (by simp[FK,S4,show decide ((128:Int)<((v.length:Nat):Int))=!decide (v.length≤128)from by rw[Bool.eq_iff_iff];simp;omega]),rfl⟩))))))
theorem Dx(b:Nat)(last:QM){fr c:Bool}{l:List AtT}(hl:l.length*32≤Qr)(hw:∀x∈l,AtT.wf x):AC Tryz.prog 250 [.box b [.c (Q4 last)]] [.sl fr c DP (AtT.css l),.c (fPl b)]
    (YX fun x o=>∃(n:Int) (s:QM),decide (0≤n)=(!K4 last l)∧x=.c (.int .i64 n)∧o=[.box b [.c (Q4 s)]]):=by
  have hlen:l.length≤9223372036854775805:=by unfold Qr at hl;omega
  refine AC.of_J Tryz.func250 rfl Tryz.ntmps250 rfl fun w0 A0=>?_
  refine Zs (Zq rfl (QW.assign .const) (Zn (J.seq (Zs (Zm rfl (Zq rfl (by first|exact Qh WN (.r rfl) (TrT.css_length _ _)|exact Qh WN (.r rfl) (AtT.css_length _)|exact Qh WN (.r rfl) (UV _)|exact QC WN (.r rfl)|exact QW.len_nil WN (.r rfl)) ?_))))))
  refine Zq rfl (QW.move .const) (Zn (J.block (Ub (ι:=Nat×QM) [0,1,7] (fun⟨j,s⟩=>[(8,.c (.int .i64 (j:Int)))]) (fun⟨j,s⟩ oo=>List.set oo 0 (.box b [.c (Q4 s)])) (fun⟨j,s⟩=>j≤l.length∧K4 last l=K4 s (l.drop j)) (fun⟨j,s⟩=>l.length-j) ⟨0,last⟩ (⟨Nat.zero_le _,rfl⟩) (QT (.cons rfl lr (.cons rfl lr (.cons rfl lr (.cons rfl lr .nil)))) (Reown.refl _) (fun _ h=>by first|exact h|simp[h])) ?_)))
  intro⟨j,s⟩ ⟨hj,hi⟩
  refine J.conv (by(try simp only[nl,Qj,Qv,Qw,Qu,QY,AV.cellsOf,Qb,Qc,Nat.reduceAdd]);rfl) ?_
  refine Zs (Zq rfl (QW.lss (.r rfl) (.r rfl)) (Zn (J.seq ?_)))
  refine J.cond (.r rfl) (fun c1=>?_) (fun c1=>?_)
  · skip
    have hlt:j<l.length:=by simpa[AtT.css_length]using c1
    refine Zk (J.seq (J.block (Zs (Zm rfl (Za rfl (Zn (Zs (Zm rfl (Zm rfl ?_)))))))))
    refine Zm rfl (Zq rfl (Qi WN Ks rfl (.r rfl) (.r rfl) (by first|rfl|omega|(simp;done)) (by exact AtT.css_getE hlt)) ?_)
    refine Zq rfl (by first|exact Qo Ks (.r rfl) rfl rfl|exact Qo Ks (.r rfl) (QJ rfl rfl) rfl) ?_
    refine TZ [.p] QaC rfl (.r rfl) Lent.nil (fun _=>(.cons (.r rfl) .nil)) rfl (C2 b s (hw _ (List.getElem_mem hlt))) (.inl rfl) fun x16 o16 h16=>?_
    obtain⟨rfl,rfl⟩:=h16
    refine Zn ?_
    refine J.cond (.r rfl) (fun c2=>?_) (fun c2=>?_)
    · skip
      have hbad:FK s l[j]=true:=c2
      exact Zs (Zm rfl (Za rfl (Zn (J.ret (blkQ.r (thenQ.r (thenQ.r (blkQ.r (thenQ.r (Zr [.p] (RetEv.one rfl (REv.tmp rfl lr)) rfl ⟨_,rfl,_,_,by rw[hi,Mk hlt,hbad];simp,rfl,rfl⟩))))))))))
    have hgo:FK s l[j]=false:=by simpa using c2
    refine J.skip (blkQ.n (thenQ.n (Qg (Zq rfl (QW.add (.r rfl) .const (by first|exact Wl (by first|rfl|omega|(simp;done)) (by omega)|exact YZ (by omega)|rfl)) ?_))))
    refine Zm rfl (Zn ?_)
    rw[Mk hlt,hgo]at hi
    exact⟨⟨j+1,l[j].name⟩,⟨hlt,by rw[hi];simp⟩,by show l.length-(j+1)<l.length-j;omega,QT (.cons rfl lr (.cons rfl lr (.cons rfl lr (.cons rfl lr .nil)))) (Reown.refl _) (fun _ h=>by first|exact h|simp[h])⟩
  have hge:l.length≤j:=by simpa[AtT.css_length]using c1
  exact J.exit (Qz (Qz (Q1 (thenQ.n (Zs (Zq rfl (QW.assign .const) (Zn (J.ret (Zr [.p] (RetEv.one rfl (REv.tmp rfl lr)) rfl ⟨_,rfl,_,_,by rw[hi,List.drop_of_length_le hge];simp[K4],rfl,rfl⟩)))))))))
theorem MP(b:Nat)(last:QM){fr c:Bool}{l:List AtT}(hl:l.length*32≤Qr)(hw:∀x∈l,AtT.wf x):AC Tryz.prog 224 [.box b [.c (Q4 last)]] [.sl fr c DP (AtT.css l),.c (fPl b)]
    (YX fun x o=>∃s:QM,x=.c (.bool (!K4 last l))∧o=[.box b [.c (Q4 s)]]):=by
  refine AC.of_J Tryz.func224 rfl Tryz.ntmps224 rfl fun w0 A0=>?_
  refine Zs (Zq rfl (QW.assign .const) (Zn (Zs (Zm rfl (Zm rfl (JL.callRF [.p] Qaz rfl Lent.nil (fun _=>(.cons (.r rfl) (.cons (.r rfl) .nil))) (Dx b last hl hw) (.inl rfl) fun x7 o7 h7=>?_))))))
  obtain⟨n7,s7,hn7,rfl,rfl⟩:=h7
  exact Zq rfl (QW.geq (.r rfl) .const) (Za rfl (Zn (J.ret (Zr [.p] (RetEv.one rfl (REv.tmp rfl lr)) rfl ⟨_,rfl,_,by rw[← hn7],rfl⟩))))
theorem CP{fr:Bool}{t k x:QM}{a:List AtT}(ht:t.length≤Qr)(hl:a.length*32≤Qr)(hw:∀x∈a,AtT.wf x):Fn Tryz.prog 198 [.c (Q4 t),.c (Q4 k),.c (Q4 x),.sl fr false DP (AtT.css a)] (.c (.bool (Yk t k x a))):=by
  refine AC.of_J Tryz.func198 rfl Tryz.ntmps198 rfl fun w0 A0=>?_
  refine Zs (Zq rfl (QW.assign .const) (Zn (J.seq (Zs (Zm rfl (Zq rfl (WW (.r rfl) .const) (Zn ?_)))))))
  refine J.cond (.r rfl) (fun c1=>?_) (fun c1=>?_)
  · skip
    have ht0:t=[]:=by simpa using c1
    refine Zs (Zm rfl (Zq rfl (WW (.r rfl) .const) (Zm rfl (Zg rfl (fun hg=>(QW.move (.r rfl))) (Zg rfl (fun hg=>(Wn RF (.when rfl hg))) (Zg rfl (fun hg=>(QW.leq (.when rfl hg) .const)) (Zq rfl (QW.pick_and (.r rfl) (.r rfl)) (Zm rfl (Zg rfl (fun hg=>(QW.move (.r rfl))) ?_)))))))))
    refine Zg rfl (fun hg=>(by first|exact Qh WN (.when rfl hg) (TrT.css_length _ _)|exact Qh WN (.when rfl hg) (AtT.css_length _)|exact Qh WN (.when rfl hg) (UV _)|exact QC WN (.when rfl hg)|exact QW.len_nil WN (.when rfl hg))) ?_
    exact Zg rfl (fun hg=>(QW.eql (.when rfl hg) .const)) (Zq rfl (QW.pick_and (.r rfl) (.r rfl)) (Za rfl (Zn (J.ret (thenQ.r (Zr [] (RetEv.one rfl (REv.tmp rfl lr)) rfl ⟨U1 (by rw[Yk,if_pos ht0,Bool.eq_iff_iff];simp[AtT.css_length];intros;omega),rfl⟩))))))
  have ht0:¬t=[]:=by simpa using c1
  refine Zk (J.seq (Zs (Zm rfl (Zq rfl (QW.call Lo (.cons (.r rfl) .nil) (X3 ht)) (Zq rfl (QW.not (.r rfl)) (Zm rfl (Zg rfl (fun hg=>(QW.move (.r rfl))) (Zg rfl (fun hg=>(Wn RF (.when rfl hg))) (Zg rfl (fun hg=>(QW.gtr (.when rfl hg) .const)) ?_)))))))))
  refine Zq rfl (QW.pick_or (.r rfl) (.r rfl)) (Zm rfl (Zg rfl (fun hg=>(QW.move (.r rfl))) (Zg rfl (fun hg=>(WV (.when rfl hg) .const)) (Zq rfl (QW.pick_or (.r rfl) (.r rfl)) (Zm rfl (Zg rfl (fun hg=>(QW.move (.r rfl))) (Zg rfl (fun hg=>(by first|exact Qh WN (.when rfl hg) (TrT.css_length _ _)|exact Qh WN (.when rfl hg) (AtT.css_length _)|exact Qh WN (.when rfl hg) (UV _)|exact QC WN (.when rfl hg)|exact QW.len_nil WN (.when rfl hg))) ?_)))))))
  refine Zg rfl (fun hg=>(QW.gtr (.when rfl hg) .const)) (Zq rfl (QW.pick_or (.r rfl) (.r rfl)) (Zn ?_))
  refine J.cond (.r rfl) (fun c2=>?_) (fun c2=>?_)
  · skip
    simp[AtT.css_length]at c2
    exact Zs (Zq rfl (QW.assign .const) (Zn (J.ret (thenQ.r (Zr [] (RetEv.one rfl (REv.tmp rfl lr)) rfl ⟨U1 (by rw[Yk,if_neg ht0];simp;grind),rfl⟩)))))
  simp[AtT.css_length]at c2
  refine Zk (Zs (JL.alloc z9 rfl rfl fun b9=>JL.store_box 0 U0 (.r rfl) rfl .const (by first|rfl|assumption) rfl rfl rfl rfl ?_))
  refine Zn (Zs (Zm rfl (Zq rfl (WJ .nil (.cons (.r rfl) .nil)) (JL.callRF [.p] QaD rfl Lent.nil (fun _=>(.cons (.r rfl) (.cons (.r rfl) .nil))) (MP b9 [] hl hw) (.inl rfl) fun x43 o43 h43=>?_))))
  obtain⟨s43,rfl,rfl⟩:=h43
  exact Zq rfl (QW.not (.r rfl)) (Za rfl (Zn (J.ret (Zr [.k] (RetEv.one rfl (REv.tmp rfl lr)) rfl ⟨U1 (by rw[Yk,if_neg ht0];simp;grind),rfl⟩))))

end
section
/- Walks: trees: the walk over nodes, which may be. -/
set_option maxRecDepth 10000
set_option maxHeartbeats 4000000
def wkB(b:Nat)(w:RG):Own:=.box b [.c (.int .i64 w.n),.c (.int .i64 w.d),.c (.int .i64 w.e)]
theorem SW{t:TrT}{level n:Int}(h:8<level):t.nodeE level n=10:=if_pos h
theorem node_3{t:TrT}{level n:Int}(h:¬8<level)(h2:n=256):t.nodeE level n=3:=by rw[TrT.nodeE,if_neg h,if_pos h2]
theorem Dl{t:TrT}{level n:Int}(h:¬8<level)(h2:¬n=256)(h3:Yk t.tag t.key t.text t.attrs=false∨16<t.kids.length∨(t.tag=[]∧0<t.kids.length)):t.nodeE level n=9:=by rw[TrT.nodeE,if_neg h,if_neg h2,if_pos h3]
theorem node_6{t:TrT}{level n:Int}(h:¬8<level)(h2:¬n=256)(h3:¬(Yk t.tag t.key t.text t.attrs=false∨16<t.kids.length∨(t.tag=[]∧0<t.kids.length)))(h4:Gc (t.kids.map TrT.key)=true):t.nodeE level n=6:=by rw[TrT.nodeE,if_neg h,if_neg h2,if_neg h3,if_pos h4]
theorem node_0{t:TrT}{level n:Int}(h:¬8<level)(h2:¬n=256)(h3:¬(Yk t.tag t.key t.text t.attrs=false∨16<t.kids.length∨(t.tag=[]∧0<t.kids.length)))(h4:Gc (t.kids.map TrT.key)=false):t.nodeE level n=0:=by rw[TrT.nodeE,if_neg h,if_neg h2,if_neg h3,if_neg (by simp[h4])]
theorem TI(l:List QM)(k s:QM):(TJ l k).contains s=(l++[k]).contains s:=by
  unfold TJ
  split
  · rename_i h
    have h:k∈l:=by simpa using h
    rw[Bool.eq_iff_iff];simp
    exact fun e=>e▸h
  · rfl
theorem RL{l:List TrT}{j:Nat}(h:j<l.length){ks:List QM}(hk:∀s,ks.contains s=((l.map TrT.key).take j).contains s):Y0 (l.map TrT.key) j=(!(l[j].key==[])&&ks.contains l[j].key):=by
  rw[hk];simp[Y0,h]
theorem TrT.at1{fr:Bool}{v:TrT}:(v.cs fr)[1]? =some (.c (Q4 v.key)):=by cases v;rfl
theorem Bi{fr:Bool}{t:TrT}(hw:t.wf)(b:Nat)(w:RG)(level:Int):AC Tryz.prog 151 [wkB b w] [.c (.pointer (some ⟨b,0,none⟩)),.agg (t.cs fr),.c (.int .i64 level)] (YX fun x o=>x=.c (.int .i64 (t.nodeE level w.n))∧o=[wkB b w]):=by
  obtain⟨tg,ky,tx,ats,l⟩:=t
  obtain⟨h1,h2,h3,h4,h5,h6,h7⟩:=hw.inv
  have hlen:l.length≤9223372036854775805:=by unfold Qr at h6;omega
  refine AC.of_J Tryz.func151 rfl Tryz.ntmps151 rfl fun w0 A0=>?_
  refine Zs (Qp (.r rfl) rfl fun b4=>Zq rfl (QW.assign .const) (Zn (J.seq (J.block (Zs (Zm rfl (Zq rfl (QW.gtr (.r rfl) .const) (Za rfl ?_))))))))
  refine Zn ?_
  refine J.cond (.r rfl) (fun c1=>?_) (fun c1=>?_)
  · skip
    have hlv:8<level:=by simpa using c1
    exact Zs (Zq rfl (QW.assign .const) (Zn (J.ret (blkQ.r (thenQ.r (Zr [.k,.p] (RetEv.one rfl (REv.tmp rfl lr)) rfl ⟨_,rfl,congrArg (fun n=>AV.c (.int .i64 n)) (SW hlv).symm,rfl⟩))))))
  have hlv:¬8<level:=by simpa using c1
  refine Zs (Zm rfl (Zu rfl (Zd Lu rfl (Zl 1 UB rfl (Zq rfl (QW.eql (.r rfl) .const) (Za rfl (Zn ?_)))))))
  refine J.cond (.r rfl) (fun c2=>?_) (fun c2=>?_)
  · skip
    have h256:w.n=256:=by simpa using c2
    exact Zs (Zq rfl (QW.assign .const) (Zn (J.ret (blkQ.r (thenQ.r (Zr [.k,.p] (RetEv.one rfl (REv.tmp rfl lr)) rfl ⟨_,rfl,congrArg (fun n=>AV.c (.int .i64 n)) (node_3 hlv h256).symm,rfl⟩))))))
  have h256:¬w.n=256:=by simpa using c2
  refine J.seq (Zs (Zd Gr rfl (Zl 0 U0 rfl (Zd Gq rfl (Zl 0 U0 rfl (Zd N8 rfl (Zl 0 U0 rfl (Zd HA rfl (Zl 0 CM rfl ?_)))))))))
  refine Zq rfl (QW.call QaI (.cons (.r rfl) (.cons (.r rfl) (.cons (.r rfl) (.cons (.r rfl) .nil)))) (CP h1 h4 h5)) (Zq rfl (QW.not (.r rfl)) (Za rfl (Zn ?_)))
  refine J.cond (.r rfl) (fun c3=>?_) (fun c3=>?_)
  · skip
    have hbad:(Yk tg ky tx ats=false∨16<l.length∨(tg=[]∧0<l.length)):=.inl (by simpa using c3)
    refine Zk ?_
    refine J.cond (.r rfl) (fun c4=>?_) (fun c4=>absurd c4 (by first|(rw[c3];decide)|(simp at*;done)|(simp at*;omega)))
    exact Zs (Zq rfl (QW.assign .const) (Zn (J.ret (blkQ.r (thenQ.r (Zr [.k,.p] (RetEv.one rfl (REv.tmp rfl lr)) rfl ⟨_,rfl,congrArg (fun n=>AV.c (.int .i64 n)) (Dl (t:=.mk tg ky tx ats l) hlv h256 hbad).symm,rfl⟩))))))
  have hpl:Yk tg ky tx ats=true:=by simpa using c3
  refine Zs (Zd WO rfl (Zl 0 KY rfl (Zq rfl (by first|exact Qh Uw (.r rfl) (TrT.css_length _ _)|exact Qh Uw (.r rfl) (AtT.css_length _)|exact QC Uw (.r rfl)|exact QW.len_nil Uw (.r rfl)) ?_)))
  refine Zq rfl (QW.gtr (.r rfl) .const) (Za rfl (Zn ?_))
  refine J.cond (.r rfl) (fun c4=>?_) (fun c4=>?_)
  · skip
    have hbad:(Yk tg ky tx ats=false∨16<l.length∨(tg=[]∧0<l.length)):=.inr (.inl (by simp at c4;omega))
    refine Zk ?_
    refine J.cond (.r rfl) (fun c5=>?_) (fun c5=>absurd c5 (by first|(rw[c4];decide)|(simp at*;done)|(simp at*;omega)))
    exact Zs (Zq rfl (QW.assign .const) (Zn (J.ret (blkQ.r (thenQ.r (Zr [.k,.p] (RetEv.one rfl (REv.tmp rfl lr)) rfl ⟨_,rfl,congrArg (fun n=>AV.c (.int .i64 n)) (Dl (t:=.mk tg ky tx ats l) hlv h256 hbad).symm,rfl⟩))))))
  have h16:¬16<l.length:=by(simp at c4;omega)
  refine Qg (Zd Gr rfl (Zl 0 U0 rfl (Zq rfl (WW (.r rfl) .const) (Zm rfl (Zg rfl (fun hg=>(Qf WO (.r rfl) rfl)) (Zg rfl (fun hg=>(Qe 0 KY (.when rfl hg) rfl rfl)) (Zg rfl (fun hg=>(by first|exact Qh Uw (.when rfl hg) (TrT.css_length _ _)|exact Qh Uw (.when rfl hg) (AtT.css_length _)|exact QC Uw (.when rfl hg)|exact QW.len_nil Uw (.when rfl hg))) ?_)))))))
  refine Zg rfl (fun hg=>(QW.gtr (.when rfl hg) .const)) (Zq rfl (QW.pick_and (.r rfl) (.r rfl)) (Za rfl (Zn ?_)))
  refine J.cond (.r rfl) (fun c5=>?_) (fun c5=>?_)
  · skip
    have hbad:(Yk tg ky tx ats=false∨16<l.length∨(tg=[]∧0<l.length)):=.inr (.inr (by simp[TrT.css_length]at c5;exact c5))
    exact Zs (Zq rfl (QW.assign .const) (Zn (J.ret (blkQ.r (thenQ.r (Zr [.k,.p] (RetEv.one rfl (REv.tmp rfl lr)) rfl ⟨_,rfl,congrArg (fun n=>AV.c (.int .i64 n)) (Dl (t:=.mk tg ky tx ats l) hlv h256 hbad).symm,rfl⟩))))))
  have hgo:¬(Yk tg ky tx ats=false∨16<l.length∨(tg=[]∧0<l.length)):=by(rintro(h|h|⟨ha,hb⟩);rw[hpl]at h;cases h;exact h16 h;simp[TrT.css_length,ha]at c5;subst c5;simp at hb)
  refine J.skip (blkQ.n (thenQ.n (Zs (JL.makeMap rfl fun b43=>Za rfl (Zn (J.seq (Zs (Zd WO rfl ?_))))))))
  refine Zl 1 KY rfl (Zq rfl (by first|exact Qh Uw (.r rfl) (TrT.css_length _ _)|exact Qh Uw (.r rfl) (AtT.css_length _)|exact QC Uw (.r rfl)|exact QW.len_nil Uw (.r rfl)) ?_)
  refine Zq rfl (QW.move .const) (Zn (J.block (Ub (ι:=Nat×List QM) [7,45,46] (fun⟨j,ks⟩=>[(47,.c (.int .i64 (j:Int)))]) (fun⟨j,ks⟩ oo=>List.set oo 0 (mpK b43 ks)) (fun⟨j,ks⟩=>j≤l.length∧(∀s,ks.contains s=((l.map TrT.key).take j).contains s)∧∀i,i<j→Y0 (l.map TrT.key) i=false) (fun⟨j,ks⟩=>l.length-j) ⟨0,[]⟩ (⟨Nat.zero_le _,fun s=>rfl,fun i hi=>by omega⟩) (QT (.cons rfl lr (.cons rfl lr (.cons rfl lr (.cons rfl lr .nil)))) (Reown.refl _) (fun _ h=>by first|exact h|simp[h])) ?_)))
  intro⟨j,ks⟩ ⟨hj,hks,hno⟩
  refine J.conv (by(try simp only[nl,Qj,Qv,Qw,Qu,QY,AV.cellsOf,Qb,Qc,Nat.reduceAdd]);rfl) ?_
  refine Zs (Zq rfl (QW.lss (.r rfl) (.r rfl)) (Zn (J.seq ?_)))
  refine J.cond (.r rfl) (fun c6=>?_) (fun c6=>?_)
  · skip
    have hlt:j<l.length:=by simpa[TrT.css_length]using c6
    refine Zk (J.seq (J.block (Zs (Zq rfl (Qi Uw QE rfl (.r rfl) (.r rfl) (by first|rfl|omega|(simp;done)) (by exact TrT.css_getE _ hlt)) ?_))))
    refine Zq rfl (by first|exact Qo QE (.r rfl) rfl rfl|exact Qo QE (.r rfl) (QJ (TrT.cs_length _ _) rfl) (TrT.cs_length _ _)) ?_
    refine JL.alloc z46 rfl rfl fun b9=>?_
    first|refine Qa 0 QE (.r rfl) rfl (.r rfl) (by first|rfl|assumption) rfl rfl rfl ?_|refine Qa 0 QE (.r rfl) rfl (.r rfl) (by first|rfl|assumption) rfl (TrT.cs_length _ _) rfl ?_|refine Qa 0 QE (.r rfl) rfl (.r rfl) (by first|rfl|assumption) (TrT.cs_length _ _) rfl rfl ?_|refine Qa 0 QE (.r rfl) rfl (.r rfl) (by first|rfl|assumption) (TrT.cs_length _ _) (TrT.cs_length _ _) rfl ?_|refine JL.store_box 0 QE (.r rfl) rfl (.r rfl) (by first|rfl|assumption) rfl rfl rfl rfl ?_|refine JL.store_box 0 QE (.r rfl) rfl (.r rfl) (by first|rfl|assumption) (TrT.cs_length _ _) rfl rfl rfl ?_
    refine Zn (J.seq (Zs (Zd Gq rfl (Zq rfl (Qe 0 U0 (.r rfl) rfl TrT.at1) (Zq rfl (WV (.r rfl) .const) (Zm rfl (Zg rfl (fun hg=>(QW.move (.r rfl))) (Zg rfl (fun hg=>(Qf Gq (.r rfl) rfl)) (Zg rfl (fun hg=>(Qe 0 U0 (.when rfl hg) rfl TrT.at1)) ?_)))))))))
    refine Zg rfl (fun hg=>(Hc 1 EE RF (fun w=>by kernel_rfl) (.when rfl hg) (.when rfl hg) rfl)) ?_
    refine Zq rfl (QW.pick_and (.r rfl) (.r rfl)) (Zn ?_)
    refine J.cond (.r rfl) (fun c7=>?_) (fun c7=>?_)
    · skip
      have htw:Y0 (l.map TrT.key) j=true:=by(rw[RL hlt hks];simpa[bne]using c7)
      exact Zs (Zq rfl (QW.assign .const) (Zn (J.ret (thenQ.r (blkQ.r (thenQ.r (thenQ.r (blkQ.r (thenQ.r (Zr [.k,.k,.k,.p] (RetEv.one rfl (REv.tmp rfl lr)) rfl ⟨_,rfl,congrArg (fun n=>AV.c (.int .i64 n)) (node_6 (t:=.mk tg ky tx ats l) hlv h256 hgo (CN (by rw[List.length_map];exact hlt) htw)).symm,rfl⟩))))))))))
    have htw:Y0 (l.map TrT.key) j=false:=by(rw[RL hlt hks];simpa[bne]using c7)
    refine Zk (Qg (Zm rfl (Zd Gq rfl (Zq rfl (Qe 0 U0 (.r rfl) rfl TrT.at1) (NB 1 EE RF (.r rfl) (.r rfl) .const rfl rfl (JL.nil (blkQ.n (thenQ.n (Qg ?_)))))))))
    refine Zq rfl (QW.add (.r rfl) .const (by first|exact Wl (by first|rfl|omega|(simp;done)) (by omega)|exact YZ (by omega)|rfl)) ?_
    refine Zm rfl (Zn ?_)
    exact⟨⟨j+1,TJ ks l[j].key⟩,⟨hlt,fun s=>by rw[TI,List.contains_append,hks,List.take_succ_eq_append_getElem (by simpa using hlt),List.contains_append];simp,fun i hi=>by rcases Nat.lt_succ_iff_lt_or_eq.1 hi with h|rfl;exact hno i h;exact htw⟩,by show l.length-(j+1)<l.length-j;omega,QT (.cons rfl lr (.cons rfl lr (.cons rfl lr (.cons rfl lr .nil)))) (Q3 1 _ rfl) (fun _ h=>by first|exact h|simp[h])⟩
  have hge:l.length≤j:=by simpa[TrT.css_length]using c6
  exact J.exit (Qz (Qz (Q1 (thenQ.n (Zs (Zq rfl (QW.assign .const) (Zn (J.ret (Zr [.k,.k,.p] (RetEv.one rfl (REv.tmp rfl lr)) rfl ⟨_,rfl,congrArg (fun n=>AV.c (.int .i64 n)) (node_0 (t:=.mk tg ky tx ats l) hlv h256 hgo (MW fun i hi=>hno i (Nat.lt_of_lt_of_le (by rw[List.length_map]at hi;exact hi) hge))).symm,rfl⟩)))))))))
mutual
theorem TrT.walk_bd:∀(t:TrT) (level:Int) (w:RG),0≤w.n∧w.n≤256→0≤(t.walk level w).n∧(t.walk level w).n≤256
  |.mk t k x a l,level,w,h=>by
    unfold TrT.walk
    split
    · exact h
    · split
      · exact h
      · rename_i h1 h2
        refine TrT.walks_bd l _ _ ⟨by show 0≤w.n+1;omega,?_⟩
        show w.n+1≤256
        have:¬w.n=256:=fun e=>h2 (by unfold TrT.nodeE;split<;>(try split)<;>simp_all)
        omega
theorem TrT.walks_bd:∀(l:List TrT) (level:Int) (w:RG),0≤w.n∧w.n≤256→0≤(TrT.walks l level w).n∧(TrT.walks l level w).n≤256
  |[],_,_,h=>h
  |x::r,level,w,h=>TrT.walks_bd r level _ (TrT.walk_bd x level w h)
end
theorem Sk{t:TrT}{level:Int}{w:RG}(h:¬w.e=0):t.walk level w=w:=by cases t;rw[TrT.walk,if_pos h]
theorem Si{t:TrT}{level:Int}{w:RG}(h:w.e=0)(h2:¬t.nodeE level w.n=0):t.walk level w=⟨w.n,w.d,t.nodeE level w.n⟩:=by cases t;rw[TrT.walk,if_neg (fun hc=>hc h),if_pos h2]
theorem Sj{t k x:QM}{a:List AtT}{l:List TrT}{level:Int}{w:RG}(h:w.e=0)(h2:(TrT.mk t k x a l).nodeE level w.n=0):(TrT.mk t k x a l).walk level w=TrT.walks l (level+1) ⟨w.n+1,if level>w.d then level else w.d,0⟩:=by rw[TrT.walk,if_neg (fun hc=>hc h),if_neg (fun hc=>hc h2)]
theorem F7{l:List TrT}{j:Nat}(h:j<l.length){level:Int}{w:RG}:TrT.walks (l.drop j) level w=TrT.walks (l.drop (j+1)) level (l[j].walk level w):=by rw[List.drop_eq_getElem_cons h,TrT.walks]
theorem SV{t:TrT}{level n:Int}(h:t.nodeE level n=0):level≤8∧¬n=256:=by
  unfold TrT.nodeE at h
  split at h
  · cases h
  · split at h
    · cases h
    · exact⟨by omega,by assumption⟩
def K2(t:TrT):Int×Int×Int:=if t.tag=[]then(0,0,9)else if(t.walk 1 ⟨0,0,0⟩).e≠0 then(0,0,(t.walk 1 ⟨0,0,0⟩).e)else((t.walk 1 ⟨0,0,0⟩).n,(t.walk 1 ⟨0,0,0⟩).d,0)
theorem Bq(t:TrT):(K2 t).2.2=t.err:=by
  unfold K2 TrT.err
  split
  · rfl
  · split
    · rfl
    · rename_i h;exact(Decidable.not_not.1 h).symm
theorem Sq:∀(n:Nat) {t:TrT} {fr:Bool} {w:RG} {level:Int} {b:Nat},t.wf→t.sz≤n→(0≤w.n∧w.n≤256)→(1≤level∧level≤9)→
    AC Tryz.prog 100 [wkB b w] [.c (.pointer (some ⟨b,0,none⟩)),.agg (t.cs fr),.c (.int .i64 level)] (YX fun x o=>x=.tup []∧o=[wkB b (t.walk level w)]):=by
  intro n
  induction n with
  |zero=>intro t fr w level b hw hn;exact absurd hn (by have:=t.sz_pos;omega)
  |succ n ih=>
    intro t fr w level b hw hn hbd hlv
    obtain⟨tg,ky,tx,ats,l⟩:=t
    obtain⟨h1,h2,h3,h4,h5,h6,h7⟩:=hw.inv
    have hlen:l.length≤9223372036854775805:=by unfold Qr at h6;omega
    obtain⟨wn,wd,we⟩:=w
    obtain⟨q,hq⟩:∃q,(TrT.mk tg ky tx ats l).nodeE level wn=q:=⟨_,rfl⟩
    refine AC.of_J Tryz.func100 rfl Tryz.ntmps100 rfl fun w0 A0=>?_
    refine Zs (Qp (.r rfl) rfl fun b4=>Zn (J.seq (Zs (Zm rfl (Zu rfl (Zd KS rfl (Zl 1 Wc rfl (Zq rfl (QW.eql (.r rfl) .const) ?_))))))))
    refine Zn ?_
    refine J.cond (.r rfl) (fun c1=>?_) (fun c1=>?_)
    · skip
      have he:we=0:=by simpa using c1
      refine Qg (Zm rfl (Zm rfl (Zq rfl (by first|exact Qd 0 QE (.r rfl) rfl rfl rfl|exact Qd 0 QE (.r rfl) rfl (Qm (TrT.cs_length _ _) rfl) (TrT.cs_length _ _)) ?_)))
      refine Zm rfl (JL.callRF [.k,.p] QaQ rfl Lent.nil (fun _=>(.cons (.r rfl) (.cons (.r rfl) (.cons (.r rfl) .nil)))) (Bi (fr:=fr) hw b ⟨wn,wd,we⟩ level) (.inl rfl) fun x17 o17 h17=>?_)
      obtain⟨rfl,rfl⟩:=h17
      rw[show(RG.mk wn wd we).n=wn from rfl,hq]
      refine Zu rfl (Zd KS rfl (JL.store_box 1 Wc (.r rfl) rfl (.r rfl) (by first|rfl|assumption) rfl rfl rfl rfl ?_))
      refine Zn (J.seq (Zs (Zm rfl (Zu rfl (Zd KS rfl (Zl 1 Wc rfl (Zq rfl (QW.neq (.r rfl) .const) (Zn ?_))))))))
      refine J.cond (.r rfl) (fun c2=>?_) (fun c2=>?_)
      · skip
        have hb:¬q=0:=by simpa using c2
        exact J.ret (thenQ.r (Zr [.k,.p] (RetEv.none rfl) rfl ⟨_,rfl,rfl,by rw[Si he (by rw[hq];exact hb),hq];rfl⟩))
      have hg:q=0:=by simpa using c2
      obtain⟨hl8,hn256⟩:=SV (hq.trans hg)
      have hlv2:1≤level+1∧level+1≤9:=by omega
      have hbd1:0≤wn∧wn≤256:=hbd
      subst hg
      refine Zk (Zs (Zm rfl (Zu rfl (Zd Lu rfl (Zl 1 UB rfl (Zq rfl (QW.add (.r rfl) .const (by first|exact Wl (by first|rfl|omega|(simp;done)) (by omega)|exact YZ (by omega)|rfl)) ?_))))))
      refine Zu rfl (Zd Lu rfl (JL.store_box 1 UB (.r rfl) rfl (.r rfl) (by first|rfl|assumption) rfl rfl rfl rfl ?_))
      refine Zn (Zs (Zm rfl (Zm rfl (Zu rfl (Zd Rf rfl (Zl 1 UB rfl (Zm rfl (Zq rfl (QW.max2 (.r rfl) (.r rfl)) (Zu rfl ?_)))))))))
      refine Zd Rf rfl (JL.store_box 1 UB (.r rfl) rfl (.r rfl) (by first|rfl|assumption) rfl rfl rfl rfl ?_)
      refine Zn (Zs (Zd WO rfl (Zl 0 KY rfl (Zq rfl (by first|exact Qh Uw (.r rfl) (TrT.css_length _ _)|exact Qh Uw (.r rfl) (AtT.css_length _)|exact QC Uw (.r rfl)|exact QW.len_nil Uw (.r rfl)) ?_))))
      refine Zq rfl (QW.move .const) (Zn (J.block (Ub (ι:=Nat×RG) [0,2,42,43] (fun⟨j,u⟩=>[(44,.c (.int .i64 (j:Int)))]) (fun⟨j,u⟩ oo=>List.set oo 1 (wkB b u)) (fun⟨j,u⟩=>j≤l.length∧(0≤u.n∧u.n≤256)∧(TrT.mk tg ky tx ats l).walk level ⟨wn,wd,we⟩=TrT.walks (l.drop j) (level+1) u) (fun⟨j,u⟩=>l.length-j) ⟨0,⟨wn+1,if level>wd then level else wd,0⟩⟩ (⟨Nat.zero_le _,by show 0≤wn+1∧wn+1≤256;omega,Sj he hq⟩) (QT (.cons rfl lr (.cons rfl lr (.cons rfl lr (.cons rfl lr (.cons rfl lr .nil))))) (Reown.refl _) (fun _ h=>by first|exact h|simp[h])) ?_)))
      intro⟨j,u⟩ ⟨hj,hu,hwk⟩
      refine J.conv (by(try simp only[nl,Qj,Qv,Qw,Qu,QY,AV.cellsOf,Qb,Qc,Nat.reduceAdd]);rfl) ?_
      refine Zs (Zq rfl (QW.lss (.r rfl) (.r rfl)) (Zn (J.seq ?_)))
      refine J.cond (.r rfl) (fun c3=>?_) (fun c3=>?_)
      · skip
        have hlt:j<l.length:=by simpa[TrT.css_length]using c3
        refine Zk (J.seq (J.block (Zs (Zq rfl (Qi Uw QE rfl (.r rfl) (.r rfl) (by first|rfl|omega|(simp;done)) (by exact TrT.css_getE _ hlt)) ?_))))
        refine Zq rfl (by first|exact Qo QE (.r rfl) rfl rfl|exact Qo QE (.r rfl) (QJ (TrT.cs_length _ _) rfl) (TrT.cs_length _ _)) ?_
        refine JL.alloc z46 rfl rfl fun b7=>?_
        first|refine Qa 0 QE (.r rfl) rfl (.r rfl) (by first|rfl|assumption) rfl rfl rfl ?_|refine Qa 0 QE (.r rfl) rfl (.r rfl) (by first|rfl|assumption) rfl (TrT.cs_length _ _) rfl ?_|refine Qa 0 QE (.r rfl) rfl (.r rfl) (by first|rfl|assumption) (TrT.cs_length _ _) rfl rfl ?_|refine Qa 0 QE (.r rfl) rfl (.r rfl) (by first|rfl|assumption) (TrT.cs_length _ _) (TrT.cs_length _ _) rfl ?_|refine JL.store_box 0 QE (.r rfl) rfl (.r rfl) (by first|rfl|assumption) rfl rfl rfl rfl ?_|refine JL.store_box 0 QE (.r rfl) rfl (.r rfl) (by first|rfl|assumption) (TrT.cs_length _ _) rfl rfl rfl ?_
        refine Zn (Qg (Zm rfl (Zq rfl (by first|exact Qd 0 QE (.r rfl) rfl rfl rfl|exact Qd 0 QE (.r rfl) rfl (Qm (TrT.cs_length _ _) rfl) (TrT.cs_length _ _)) ?_)))
        refine Zm rfl (Zq rfl (QW.add (.r rfl) .const (by first|exact Wl (by first|rfl|omega|(simp;done)) (by omega)|exact YZ (by omega)|rfl)) ?_)
        refine JL.callRF [.k,.k,.p] Cc rfl Lent.nil (fun _=>(.cons (.r rfl) (.cons (.r rfl) (.cons (.r rfl) .nil)))) (ih (h7 _ (List.getElem_mem hlt)) (TrT.sz_get hn hlt) hu hlv2) (.inl rfl) fun x52 o52 h52=>?_
        obtain⟨rfl,rfl⟩:=h52
        refine JL.nil (blkQ.n (thenQ.n (Qg (Zq rfl (QW.add (.r rfl) .const (by first|exact Wl (by first|rfl|omega|(simp;done)) (by omega)|exact YZ (by omega)|rfl)) ?_))))
        refine Zm rfl (Zn ?_)
        rw[F7 hlt]at hwk
        exact⟨⟨j+1,l[j].walk (level+1) u⟩,⟨hlt,TrT.walk_bd _ _ _ hu,hwk⟩,by show l.length-(j+1)<l.length-j;omega,QT (.cons rfl lr (.cons rfl lr (.cons rfl lr (.cons rfl lr (.cons rfl lr .nil))))) (Q3 1 _ rfl) (fun _ h=>by first|exact h|simp[h])⟩
      have hge:l.length≤j:=by simpa[TrT.css_length]using c3
      exact J.exit (Qz (Qz (Q1 (Zr [.k,.p] (RetEv.none rfl) rfl ⟨_,rfl,rfl,by rw[hwk,List.drop_of_length_le hge];rfl⟩))))
    have he:¬we=0:=by simpa using c1
    refine Zk (J.seq (Zs (Zm rfl (Zu rfl (Zd KS rfl (Zl 1 Wc rfl (Zq rfl (QW.neq (.r rfl) .const) (Zn ?_))))))))
    refine J.cond (.r rfl) (fun c2=>?_) (fun c2=>absurd c2 (by simpa using he))
    exact J.ret (thenQ.r (Zr [.k,.p] (RetEv.none rfl) rfl ⟨_,rfl,rfl,by rw[Sk he];rfl⟩))
theorem Bd{fr:Bool}{t:TrT}(hw:t.wf):Fn Tryz.prog 57 [.agg (t.cs fr)] (.tup [.c (.int .i64 (K2 t).1),.c (.int .i64 (K2 t).2.1),.c (.int .i64 (K2 t).2.2)]):=by
  obtain⟨tg,ky,tx,ats,l⟩:=t
  obtain⟨⟨wn,wd,we⟩,hW⟩:∃q,(TrT.mk tg ky tx ats l).walk 1 ⟨0,0,0⟩=q:=⟨_,rfl⟩
  refine AC.of_J Tryz.func57 rfl Tryz.ntmps57 rfl fun w0 A0=>?_
  refine Zs (Qp (.r rfl) rfl fun b1=>Zq rfl (QW.assign .const) (Zq rfl (QW.assign .const) (Zq rfl (QW.assign .const) (Zn (J.seq (Zs (Zd Gr rfl (Zl 0 U0 rfl ?_))))))))
  refine Zq rfl (WW (.r rfl) .const) (Zn ?_)
  refine J.cond (.r rfl) (fun c1=>?_) (fun c1=>?_)
  · skip
    have h0:tg=[]:=by simpa using c1
    exact Zs (Zq rfl (QW.assign .const) (Zq rfl (QW.assign .const) (Zq rfl (QW.assign .const) (Zn (J.ret (thenQ.r (Zr [.k] (U2 rfl (REv.tmp rfl lr) (REv.tmp rfl lr) (REv.tmp rfl lr)) rfl ⟨by rw[show K2 (.mk tg ky tx ats l)=(0,0,9)from if_pos h0],rfl⟩)))))))
  have h0:¬tg=[]:=by simpa using c1
  refine Zk (Zs (JL.alloc z212 rfl rfl fun b5=>Zn (J.seq (Zs (Zq rfl (by first|exact Qd 1 QE (.r rfl) rfl rfl rfl|exact Qd 1 QE (.r rfl) rfl (Qm (TrT.cs_length _ _) rfl) (TrT.cs_length _ _)) ?_)))))
  refine JL.callRF [.p] Cc rfl Lent.nil (fun _=>(.cons (.r rfl) (.cons (.r rfl) (.cons .const .nil)))) (Sq _ (fr:=fr) (w:=⟨0,0,0⟩) (level:=1) (b:=b5) hw (Nat.le_refl _) ⟨by decide,by decide⟩ ⟨by decide,by decide⟩) (.inl rfl) fun x10 o10 h10=>?_
  obtain⟨rfl,rfl⟩:=h10
  refine Zn (J.seq ?_)
  rw[hW]
  refine Qg (Zd KS rfl (Zl 0 Wc rfl (Zq rfl (QW.neq (.r rfl) .const) (Zn ?_))))
  refine J.cond (.r rfl) (fun c2=>?_) (fun c2=>?_)
  · skip
    have he:¬we=0:=by simpa using c2
    refine J.seq (Q9 4 mixed (by kernel_rfl) (by kernel_rfl) (by kernel_rfl) rfl ?_)
    refine .cons [] rfl rfl rfl (.q rfl (Qf KS (.r rfl) rfl)) ?_
    refine .cons [14] rfl rfl rfl (.q rfl (Qe 0 Wc (.r rfl) rfl rfl)) ?_
    refine .cons [] rfl rfl rfl (.q rfl (QW.assign .const)) ?_
    refine .cons [] rfl rfl rfl (.q rfl (QW.assign .const)) ?_
    refine .nil ?_
    exact Za rfl (Zn (J.ret (thenQ.r (Zr [.k,.k] (U2 rfl (REv.tmp rfl lr) (REv.tmp rfl lr) (REv.tmp rfl lr)) rfl ⟨by rw[show K2 (.mk tg ky tx ats l)=(0,0,we)from by rw[K2,if_neg (show ¬(TrT.mk tg ky tx ats l).tag=[]from h0),hW,if_pos he]],rfl⟩))))
  obtain rfl:we=0:=by simpa using c2
  refine Zk (J.seq (Q9 5 mixed (by kernel_rfl) (by kernel_rfl) (by kernel_rfl) rfl ?_))
  refine .cons [] rfl rfl rfl (.q rfl (Qf Lu (.r rfl) rfl)) ?_
  refine .cons [16] rfl rfl rfl (.q rfl (Qe 0 UB (.r rfl) rfl rfl)) ?_
  refine .cons [] rfl rfl rfl (.q rfl (Qf Rf (.r rfl) rfl)) ?_
  refine .cons [18] rfl rfl rfl (.q rfl (Qe 0 UB (.r rfl) rfl rfl)) ?_
  refine .cons [17] rfl rfl rfl (.q rfl (QW.assign (.r rfl))) ?_
  refine .nil ?_
  exact Za rfl (Zq rfl (QW.assign .const) (Zn (J.ret (Zr [.k,.k] (U2 rfl (REv.tmp rfl lr) (REv.tmp rfl lr) (REv.tmp rfl lr)) rfl ⟨by rw[show K2 (.mk tg ky tx ats l)=(wn,wd,0)from by rw[K2,if_neg (show ¬(TrT.mk tg ky tx ats l).tag=[]from h0),hW,if_neg (by simp)]],rfl⟩))))
theorem CQ{fr:Bool}{t:TrT}(hw:t.wf):Fn Tryz.prog 24 [.agg (t.cs fr)] (.c (.int .i64 t.err)):=by
  refine AC.of_J Tryz.func24 rfl Tryz.ntmps24 rfl fun w0 A0=>?_
  refine Zs (Qp (.r rfl) rfl fun b1=>Zq rfl (QW.assign .const) (Zn (Zs (Zq rfl (by first|exact Qd 0 QE (.r rfl) rfl rfl rfl|exact Qd 0 QE (.r rfl) rfl (Qm (TrT.cs_length _ _) rfl) (TrT.cs_length _ _)) ?_))))
  refine Zq rfl (QW.call gofn57 (.cons (.r rfl) .nil) (Bd hw)) (Zm rfl (Zx rfl (Zx rfl (Zx rfl (Za rfl (Za rfl (Za rfl (Zn (Zs ?_)))))))))
  exact Zm rfl (Za rfl (Zn (J.ret (Zr [.k] (RetEv.one rfl (REv.tmp rfl lr)) rfl ⟨by rw[← Bq],rfl⟩))))

end
section
/- Walks: templates: may one be? a value as a word. -/
set_option maxRecDepth 10000
set_option maxHeartbeats 4000000
theorem LX{fr:Bool}{e:EX}(hw:e.wf):Fn Tryz.prog 145 [.agg (e.cs fr)] (.c (.bool e.none)):=by
  refine AC.of_J Tryz.func145 rfl Tryz.ntmps145 rfl fun w0 A0=>?_
  refine Zs (Qp (.r rfl) rfl fun b1=>Zq rfl (QW.assign .const) (Zn (Zs (Zq rfl (by first|exact Qd 0 Q7 (.r rfl) rfl rfl rfl|exact Qd 0 Q7 (.r rfl) rfl (Qm xl rfl) xl) ?_))))
  exact Zq rfl (QW.build (idx:=[]) pl36 Se rfl .nil rfl rfl rfl rfl) (Zq rfl (QW.call E7 (.cons (.r rfl) (.cons (Ev.le (.r rfl) ((.aggL (.cons lr (.cons lr (.cons lr (.cons (.nil true false _) .nil))))))) .nil)) (FC (fr:=fr) (fr2:=true) (v:=e) (u:=.nil) Xc.self Xc.self hw EX.wf_nil)) (Za rfl (Zn (J.ret (Zr [.k] (RetEv.one rfl (REv.tmp rfl lr)) rfl ⟨rfl,rfl⟩)))))
theorem MF{w:Int}{t:QM}{k x:EX}{a:List SetT}{l:List TmT}:(TmT.mk w t k x a l).what=w∧(TmT.mk w t k x a l).tag=t∧(TmT.mk w t k x a l).key=k∧(TmT.mk w t k x a l).ex=x∧(TmT.mk w t k x a l).attrs=a∧(TmT.mk w t k x a l).kids=l:=⟨rfl,rfl,rfl,rfl,rfl,rfl⟩
theorem SF{w:Int}{t:QM}{k x:EX}{a:List SetT}{l:List TmT}(h1:w=1)(h:(a.map SetT.key).all Uo=false∨XF (a.map SetT.key)=false):(TmT.mk w t k x a l).partOk=false:=by
  rw[TmT.partOk,if_pos h1]
  rcases h with h|h<;>simp[h]
theorem BI{w:Int}{t:QM}{k x:EX}{a:List SetT}{l:List TmT}(h1:w=1)(h2:(a.map SetT.key).all Uo=true)(h3:XF (a.map SetT.key)=true):(TmT.mk w t k x a l).partOk=(Uo t&&x.none):=by
  rw[TmT.partOk,if_pos h1,h2,h3];simp
theorem SetT.at0{fr:Bool}{s:SetT}:(s.cs fr)[0]? =some (.c (Q4 s.key)):=rfl
theorem all_no{l:List SetT}{j:Nat}(h:j<l.length)(hn:Uo l[j].key=false):(l.map SetT.key).all Uo=false:=by
  rw[Bool.eq_false_iff];intro hc
  have:=List.all_eq_true.1 hc l[j].key (List.mem_map.2 ⟨_,List.getElem_mem h,rfl⟩)
  rw[hn]at this;cases this
theorem all_yes{l:List SetT}(h:∀i (hi:i<l.length),Uo l[i].key=true):(l.map SetT.key).all Uo=true:=by
  rw[List.all_eq_true]
  intro x hx
  obtain⟨s,hs,rfl⟩:=List.mem_map.1 hx
  obtain⟨i,hi,rfl⟩:=List.getElem_of_mem hs
  exact h i hi
theorem Te{l:List SetT}{j:Nat}(h:j<l.length){ks:List QM}(hk:∀s,ks.contains s=((l.map SetT.key).take j).contains s):((l.map SetT.key).take j).contains ((l.map SetT.key)[j]'(by simpa using h))=ks.contains l[j].key:=by
  rw[hk];simp
theorem F9{fr:Bool}{t:TmT}(hw:t.wf):Fn Tryz.prog 96 [.agg (t.cs fr)] (.c (.bool t.partOk)):=by
  obtain⟨w,tg,k,x,a,l⟩:=t
  obtain⟨h0,h1,h2,h3,h4,h5,h6,h7⟩:=hw.inv
  have ha:a.length≤9223372036854775805:=by unfold Qr at h4;omega
  have hl:l.length≤9223372036854775805:=by unfold Qr at h6;omega
  refine AC.of_J Tryz.func96 rfl Tryz.ntmps96 rfl fun w0 A0=>?_
  refine Zs (Qp (.r rfl) rfl fun b1=>Zq rfl (QW.assign .const) (Zn (Zs (Zd DF rfl (Zq rfl (Qe 0 U0 (.r rfl) rfl TmT.at1) (Zq rfl (WW (.r rfl) .const) (Zm rfl (Zg rfl (fun hg=>(Qf DE (.r rfl) rfl)) ?_))))))))
  refine Zg rfl (fun hg=>(Qd 0 Q7 (.when rfl hg) rfl LC xl)) (Zg rfl (fun hg=>(QW.call E8 (.cons (.when rfl hg) .nil) (LX h2))) (Zq rfl (QW.pick_and (.r rfl) (.r rfl)) (Zm rfl (Zg rfl (fun hg=>(Qf Gs (.r rfl) rfl)) (Zg rfl (fun hg=>(Qe 0 T5 (.when rfl hg) rfl YL)) (Zg rfl (fun hg=>(by first|exact Qh Yg (.when rfl hg) (TmT.css_length _ _)|exact Qh Yg (.when rfl hg) (SetT.css_length _ _)|exact QC Yg (.when rfl hg)|exact QW.len_nil Yg (.when rfl hg))) ?_))))))
  refine Zg rfl (fun hg=>(QW.eql (.when rfl hg) .const)) (Zq rfl (QW.pick_and (.r rfl) (.r rfl)) (Za rfl (Zn (J.seq (Zs (Zd Ra rfl (Zq rfl (Qe 0 UB (.r rfl) rfl TmT.at0) (Zn (J.block ?_)))))))))
  refine Zs (Zq rfl (QW.eql (.r rfl) .const) (Za rfl (Zn ?_)))
  refine J.cond (.r rfl) (fun c1=>?_) (fun c1=>?_)
  · skip
    have hw1:w=1:=by simpa[MF]using c1
    refine Zs (JL.makeMap rfl fun b25=>Za rfl (Zn (J.seq (Zs (Zd Gs rfl (Zq rfl (Qe 1 T5 (.r rfl) rfl YL) (Zq rfl (by first|exact Qh Yg (.r rfl) (TmT.css_length _ _)|exact Qh Yg (.r rfl) (SetT.css_length _ _)|exact QC Yg (.r rfl)|exact QW.len_nil Yg (.r rfl)) ?_)))))))
    refine Zq rfl (QW.move .const) (Zn (J.block (Ub (ι:=Nat×List QM) [1,4,27,28] (fun⟨j,ks⟩=>[(29,.c (.int .i64 (j:Int)))]) (fun⟨j,ks⟩ oo=>List.set oo 0 (mpK b25 ks)) (fun⟨j,ks⟩=>j≤a.length∧(∀s,ks.contains s=((a.map SetT.key).take j).contains s)∧∀i (hi:i<a.length),i<j→Uo a[i].key=true∧((a.map SetT.key).take i).contains ((a.map SetT.key)[i]'(by simpa using hi))=false) (fun⟨j,ks⟩=>a.length-j) ⟨0,[]⟩ (⟨Nat.zero_le _,fun s=>rfl,fun i _ hi=>by omega⟩) (QT (.cons rfl lr (.cons rfl lr (.cons rfl lr (.cons rfl lr (.cons rfl lr .nil))))) (Reown.refl _) (fun _ h=>by first|exact h|simp[h])) ?_)))
    intro⟨j,ks⟩ ⟨hj,hks,hall⟩
    refine J.conv (by(try simp only[nl,Qj,Qv,Qw,Qu,QY,AV.cellsOf,Qb,Qc,Nat.reduceAdd]);rfl) ?_
    refine Zs (Zq rfl (QW.lss (.r rfl) (.r rfl)) (Zn (J.seq ?_)))
    refine J.cond (.r rfl) (fun c2=>?_) (fun c2=>?_)
    · skip
      have hlt:j<a.length:=by simpa[SetT.css_length,MF]using c2
      refine Zk (J.seq (J.block (Zs (Zq rfl (Qi Yg U7 rfl (.r rfl) (.r rfl) (by first|rfl|omega|(simp;done)) (by exact SetT.css_getE _ hlt)) ?_))))
      refine Zq rfl (by first|exact Qo U7 (.r rfl) rfl rfl|exact Qo U7 (.r rfl) (QJ (SetT.cs_length _ _) rfl) (SetT.cs_length _ _)) ?_
      refine JL.alloc F2 rfl rfl fun b6=>?_
      first|refine Qa 0 U7 (.r rfl) rfl (.r rfl) (by first|rfl|assumption) rfl rfl rfl ?_|refine Qa 0 U7 (.r rfl) rfl (.r rfl) (by first|rfl|assumption) rfl (SetT.cs_length _ _) rfl ?_|refine Qa 0 U7 (.r rfl) rfl (.r rfl) (by first|rfl|assumption) (SetT.cs_length _ _) rfl rfl ?_|refine Qa 0 U7 (.r rfl) rfl (.r rfl) (by first|rfl|assumption) (SetT.cs_length _ _) (SetT.cs_length _ _) rfl ?_|refine JL.store_box 0 U7 (.r rfl) rfl (.r rfl) (by first|rfl|assumption) rfl rfl rfl rfl ?_|refine JL.store_box 0 U7 (.r rfl) rfl (.r rfl) (by first|rfl|assumption) (SetT.cs_length _ _) rfl rfl rfl ?_
      refine Zn (J.seq (Zs (Zm rfl (Zd Lw rfl (Zq rfl (Qe 0 U0 (.r rfl) rfl SetT.at0) (Zq rfl (Hc 1 EE RF (fun w=>by kernel_rfl) (.r rfl) (.r rfl) rfl) ?_))))))
      refine Zm rfl (Zg rfl (fun hg=>(Qf Lw (.r rfl) rfl)) (Zg rfl (fun hg=>(Qe 0 U0 (.when rfl hg) rfl SetT.at0)) (Zg rfl (fun hg=>(QW.call Lo (.cons (.when rfl hg) .nil) (X3 (h5 _ (List.getElem_mem hlt)).key))) (Zg rfl (fun hg=>(QW.not (.when rfl hg))) (Zq rfl (QW.pick_or (.r rfl) (.r rfl)) (Zn ?_))))))
      refine J.cond (.r rfl) (fun c3=>?_) (fun c3=>?_)
      · skip
        have hbad:ks.contains a[j].key=true∨Uo a[j].key=false:=by simpa[MF]using c3
        refine Zs (Zq rfl (QW.assign .const) (Zn (J.ret (thenQ.r (blkQ.r (thenQ.r (thenQ.r (blkQ.r (thenQ.r ?_)))))))))
        exact blkQ.r (thenQ.r (Zr [.k,.k,.k] (RetEv.one rfl (REv.tmp rfl lr)) rfl ⟨U1 (by rw[SF hw1 (hbad.elim (fun h=>.inr (C5 (by simpa using hlt) ((Te hlt hks).trans h))) (fun h=>.inl (all_no hlt h)))]),rfl⟩))
      obtain⟨hno,hle⟩:ks.contains a[j].key=false∧Uo a[j].key=true:=by simpa[MF]using c3
      refine Zk (Qg (Zm rfl (Zd Lw rfl (Zq rfl (Qe 0 U0 (.r rfl) rfl SetT.at0) (NB 1 EE RF (.r rfl) (.r rfl) .const rfl rfl (JL.nil (blkQ.n (thenQ.n (Qg ?_)))))))))
      refine Zq rfl (QW.add (.r rfl) .const (by first|exact Wl (by first|rfl|omega|(simp;done)) (by omega)|exact YZ (by omega)|rfl)) ?_
      refine Zm rfl (Zn ?_)
      exact⟨⟨j+1,TJ ks a[j].key⟩,⟨hlt,fun s=>by rw[TI,List.contains_append,hks,List.take_succ_eq_append_getElem (by simpa using hlt),List.contains_append];simp,fun i hia hi=>by rcases Nat.lt_succ_iff_lt_or_eq.1 hi with h|rfl;exact hall i hia h;exact⟨hle,(Te hlt hks).trans hno⟩⟩,by show a.length-(j+1)<a.length-j;omega,QT (.cons rfl lr (.cons rfl lr (.cons rfl lr (.cons rfl lr (.cons rfl lr .nil))))) (Q3 1 _ rfl) (fun _ h=>by first|exact h|simp[h])⟩
    have hge:a.length≤j:=by simpa[SetT.css_length,MF]using c2
    refine J.exit (Qz (Qz (Q1 (thenQ.n (Zs (Zd DF rfl (Zq rfl (Qe 1 U0 (.r rfl) rfl TmT.at1) (Zq rfl (QW.call Lo (.cons (.r rfl) .nil) (X3 h1)) (Zm rfl ?_)))))))))
    exact Zg rfl (fun hg=>(Qf N9 (.r rfl) rfl)) (Zg rfl (fun hg=>(Qd 1 Q7 (.when rfl hg) rfl G8 xl)) (Zg rfl (fun hg=>(QW.call E8 (.cons (.when rfl hg) .nil) (LX h3))) (Zq rfl (QW.pick_and (.r rfl) (.r rfl)) (Za rfl (Zn (J.ret (blkQ.r (thenQ.r (Zr [.k,.k] (RetEv.one rfl (REv.tmp rfl lr)) rfl ⟨U1 (by rw[BI hw1 (all_yes fun i hi=>(hall i hi (by omega)).1) (Dk fun i hi=>(hall i (by simpa using hi) (by simp at hi;omega)).2)];exact Iff.rfl),rfl⟩)))))))))
  have hw1:¬w=1:=by simpa[MF]using c1
  refine Zs (Zq rfl (QW.eql (.r rfl) .const) (Za rfl (Zn ?_)))
  refine J.cond (.r rfl) (fun c2=>?_) (fun c2=>?_)
  · skip
    have hw2:w=2:=by simpa[MF]using c2
    refine Zs (Zm rfl (Zm rfl (Zg rfl (fun hg=>(Qf KF (.r rfl) rfl)) (Zg rfl (fun hg=>(Qe 0 RK (.when rfl hg) rfl YK)) (Zg rfl (fun hg=>(by first|exact Qh Xb (.when rfl hg) (TmT.css_length _ _)|exact Qh Xb (.when rfl hg) (SetT.css_length _ _)|exact QC Xb (.when rfl hg)|exact QW.len_nil Xb (.when rfl hg))) ?_)))))
    exact Zg rfl (fun hg=>(QW.eql (.when rfl hg) .const)) (Zq rfl (QW.pick_and (.r rfl) (.r rfl)) (Za rfl (Zn (J.ret (blkQ.r (thenQ.r (Zr [.k] (RetEv.one rfl (REv.tmp rfl lr)) rfl ⟨U1 (by rw[TmT.partOk,if_neg hw1,if_pos hw2,Bool.eq_iff_iff];simp[SetT.css_length,TmT.css_length,MF]),rfl⟩)))))))
  have hw2:¬w=2:=by simpa[MF]using c2
  refine J.seq (Zs (Zq rfl (QW.eql (.r rfl) .const) (Za rfl (Zn ?_))))
  refine J.cond (.r rfl) (fun c3=>?_) (fun c3=>?_)
  · skip
    have hw3:w=3:=by simpa[MF]using c3
    refine Zk ?_
    refine J.cond (.r rfl) (fun c4=>?_) (fun c4=>absurd c4 (by first|(rw[c3];decide)|(simp at*;done)|(simp at*;omega)))
    exact Zs (Zm rfl (Za rfl (Zn (J.ret (blkQ.r (thenQ.r (Zr [.k] (RetEv.one rfl (REv.tmp rfl lr)) rfl ⟨U1 (by rw[TmT.partOk,if_neg hw1,if_neg hw2,if_pos (.inl hw3),Bool.eq_iff_iff];simp[SetT.css_length,MF]),rfl⟩)))))))
  have hw3:¬w=3:=by simpa[MF]using c3
  refine Qg (Zq rfl (QW.eql (.r rfl) .const) (Za rfl (Zn ?_)))
  refine J.cond (.r rfl) (fun c4=>?_) (fun c4=>?_)
  · skip
    have hw4:w=4:=by simpa[MF]using c4
    exact Zs (Zm rfl (Za rfl (Zn (J.ret (blkQ.r (thenQ.r (Zr [.k] (RetEv.one rfl (REv.tmp rfl lr)) rfl ⟨U1 (by rw[TmT.partOk,if_neg hw1,if_neg hw2,if_pos (.inr hw4),Bool.eq_iff_iff];simp[SetT.css_length,MF]),rfl⟩)))))))
  have hw4:¬w=4:=by simpa[MF]using c4
  exact J.skip (blkQ.n (thenQ.n (Zs (Zq rfl (QW.assign .const) (Zn (J.ret (Zr [.k] (RetEv.one rfl (REv.tmp rfl lr)) rfl ⟨U1 (by rw[TmT.partOk,if_neg hw1,if_neg hw2,if_neg (fun h=>h.elim hw3 hw4)]),rfl⟩)))))))

end
section
/- Two structs of two texts: are they one? -/
theorem ba_beq(a b:QM):((⟨a.toArray⟩:ByteArray).toList==(⟨b.toArray⟩:ByteArray).toList)=(a==b):=by rw[Uu,Uu]
theorem Fz{P:Program}{t ts:TypeId}(h1:P.underlying t=some (.struct (P.fieldsOf t)))(h2:P.stoodInHeld t=false)(h3:((P.fieldsOf t).toList.map fun f=>(decide (f.name≠ "_"),f.type,f.offset))=[(true,ts,0),(true,ts,1)])
    (h4:P.underlying ts=some .string) {n B:Nat} (h5:Uk P ts=some (false,n,B)) (a b c e:QM) (w:World):(Op.equalIn 10000 t (.agg #[Q4 a,Q4 b]) (.agg #[Q4 c,Q4 e])).run P w=.ok (a==c&&b==e) w:=by
  obtain⟨f0,f1,hf⟩:∃f0 f1,(P.fieldsOf t).toList=[f0,f1]:=by
    generalize (P.fieldsOf t).toList=l at h3
    have hl:l.length=2:=by have:=congrArg List.length h3;simpa using this
    match l,hl with
    |[f0,f1],_=>exact⟨f0,f1,rfl⟩
  rw[hf]at h3
  simp only[List.map_cons,List.map_nil,List.cons.injEq,Prod.mk.injEq,decide_eq_true_eq,and_true]at h3
  obtain⟨⟨n0,t0,o0⟩,n1,t1,o1⟩:=h3
  rw[run_equalIn_agg w 9999 t _ _ h1 h2,hf]
  have hp:∀(xs:Array Value) k v,xs[k]? =some v→(part ts xs k).run P w=.ok v w:=fun xs k v hv=>by
    simp only[part,Sem.run_bind,Y5 h5,Result.andThen_ok,Bool.false_eq_true,if_false,hv,Sem.run_pure]
  have hs:∀x y:QM,(Op.equalIn 9999 ts (Q4 x) (Q4 y)).run P w=.ok (x==y) w:=fun x y=>by
    rw[run_equalIn_string w 9998 ts _ _ h4,ba_beq]
  simp only[Op.eqFields,n0,n1,ne_eq,not_false_eq_true,if_true,t0,t1,o0,o1,Sem.run_bind,hp #[Q4 a,Q4 b] 0 (Q4 a) rfl,hp #[Q4 c,Q4 e] 0 (Q4 c) rfl,hp #[Q4 a,Q4 b] 1 (Q4 b) rfl,hp #[Q4 c,Q4 e] 1 (Q4 e) rfl,Result.andThen_ok,hs,Sem.run_ite]
  cases h6:(a==c)<;>cases h7:(b==e)<;>simp[hs,h7,Result.andThen_ok]
theorem D4{P:Program}{E:Wy}{st:St}{ty t ts yt:TypeId}{pos:String}{af:Array Edge}{d:Option Tmp}{gd:Option (Nat×Bool)}{x y:Operand}{n B:Nat}{a b c e:QM}(h1:P.underlying t=some (.struct (P.fieldsOf t)))(h2:P.stoodInHeld t=false)
    (h3:((P.fieldsOf t).toList.map fun f=>(decide (f.name≠ "_"),f.type,f.offset))=[(true,ts,0),(true,ts,1)]) (h4:P.underlying ts=some .string) (h5:Uk P ts=some (false,n,B)) (h6:P.eqGuardType P.depth t=false)
    (hx:Ev E st x (.agg [.c (Q4 a),.c (Q4 b)])) (hy:Ev E st y (.agg [.c (Q4 c),.c (Q4 e)])):QW P E st ⟨d,.binOp .neq t x y yt,ty,pos,af,gd⟩ (.c (.bool (!(a==c&&b==e)))):=.pure fun A act w hs=>by
  have two:∀{u:Value} {p q:QM},Rd w A u (.agg [.c (Q4 p),.c (Q4 q)])→u=.agg #[Q4 p,Q4 q]:=fun {u p q} h=>by
    obtain⟨vs,rfl,hn,hc⟩:=h.of_agg
    obtain⟨u0,g0,_,r0⟩:=hc 0 _ rfl
    obtain⟨u1,g1,_,r1⟩:=hc 1 _ rfl
    have e0:=r0.eq
    have e1:=r1.eq
    subst e0 e1
    congr 1
    apply Array.ext_getElem?
    intro i
    match i with
    |0=>simpa using g0
    |1=>simpa using g1
    |i+2=>rw[Array.getElem?_eq_none (by simp[hn]),Array.getElem?_eq_none (by simp)]
  refine⟨.bool (!(a==c&&b==e)),?_,.c _⟩
  simp only[execOp,two (hx A act w hs),two (hy A act w hs),Sem.run_bind,run_eqGuard_agg w .neq t _ _ _ _ h6,Result.andThen_ok,run_neq_struct,Fz h1 h2 h3 h4 h5,Sem.run_pure]
theorem D8{P:Program}{E:Wy}{st:St}{t et ty:TypeId}{pos:String}{af:Array Edge}{dd:Option Tmp}{gd:Option (Nat×Bool)}{x y:Operand}{B:Nat}{ys:List AV}{v:AV}{ln m:Nat}{k:IntKind}{i:Int}(hU:P.underlying t=some (.array ln et))(hT:Uk P et=some (false,1,B))
    (h:Ev E st x (.agg ys)) (hi:Ev E st y (.c (.int k i))) (him:i=(m:Int)) (hm:m<ln) (hz:ys[m]? =some v):QW P E st ⟨dd,.index t x y,ty,pos,af,gd⟩ v:=.pure fun A a w hs=>by
  obtain⟨vs,hv,hn,hc⟩:=(h A a w hs).of_agg
  subst him
  have hlt:(m:Int)<(ln:Int):=by omega
  obtain⟨u,k1,_,k2⟩:=hc m v hz
  rw[Nat.zero_add]at k1
  exact⟨u,by simp[execOp,Instr.index,asIntOf,asInt,hi.eq hs,Qq _ hU,hv,Up hT,CY hT k1,hm],k2⟩

end
section
/- Walks: templates: the walk over parts, which may be; a value as a word. -/
set_option maxRecDepth 10000
set_option maxHeartbeats 4000000
theorem XJ(ok:Bool)(e:Int):AC Tryz.prog 83 [] [.c (.bool ok),.c (.int .i64 e)] (PanR (ok=true) (WS e) fun x o=>x=.tup []∧o=[]):=by
  refine AC.of_J Tryz.func83 rfl Tryz.ntmps83 rfl fun w0 A0=>?_
  refine Zs (Zm rfl (Zq rfl (QW.not (.r rfl)) (Zn ?_)))
  refine J.cond (.r rfl) (fun c1=>?_) (fun c1=>?_)
  · skip
    have ho:¬ok=true:=by(simp at c1;simp[c1])
    refine Qg (Zm rfl (Zq rfl (Yx ⟨_,Tryz.underlying47,by intro ms h;cases h⟩ (.r rfl)) ?_))
    refine JL.panic (.r rfl) ?_
    exact⟨_,QG [] _,_,rfl,rfl,Qk [] _,PanR.pan ho⟩
  have ho:ok=true:=by simpa using c1
  exact J.skip (Zr [] (RetEv.none rfl) rfl (.inl ⟨ho,_,rfl,rfl,rfl⟩))
theorem Y9(e:Int):AC Tryz.prog 46 [] [.c (.int .i64 e)] (PanR (e=0) (WS e) fun x o=>x=.tup []∧o=[]):=by
  refine AC.of_J Tryz.func46 rfl Tryz.ntmps46 rfl fun w0 A0=>?_
  refine Qg (Zm rfl (Zq rfl (QW.eql (.r rfl) .const) (Zm rfl ?_)))
  refine Qn [] Hy rfl Lent.nil (fun _=>(.cons (.r rfl) (.cons (.r rfl) .nil))) (XJ _ e) (.inl rfl) (fun k5 x5 o5 h5=>?_) (fun k5=>?_)
  rotate_left
  · skip
    exact⟨_,QG [] _,_,rfl,rfl,Qk [] _,PanR.pan (by simpa using k5)⟩
  obtain⟨rfl,rfl⟩:=h5
  exact JL.nil (Zr [] (RetEv.none rfl) rfl (.inl ⟨by simpa using k5,_,rfl,rfl,rfl⟩))
def VwR(r:Int×Int)(b:Nat):Wi→List Own→Prop:=PanR (r.2=0) (WS r.2) fun x o=>x=.tup []∧o=[UC b r.1]
theorem VwR.ok{r:Int×Int}{b:Nat}{n:Int}(h:r=(n,0)):VwR r b (.ret (.tup [])) [UC b n]:=.inl ⟨by rw[h],_,rfl,rfl,by rw[h]⟩
theorem VwR.er{r:Int×Int}{b:Nat}{n c:Int}(h:r=(n,c))(hc:¬c=0):VwR r b (.pan (.iface 47 (.int .i64 c))) []:=.inr ⟨by rw[h];exact hc,by rw[h];rfl,rfl⟩
section
variable {w:Int} {t:QM} {k x:EX} {a:List SetT} {l:List TmT} {level n:Int}
theorem own_10(h:8<level):(TmT.mk w t k x a l).ownE level n=10:=if_pos h
theorem own_3(h:¬8<level)(h2:64≤n∨16<a.length∨16<l.length):(TmT.mk w t k x a l).ownE level n=3:=by rw[TmT.ownE,if_neg h];exact if_pos h2
theorem own_9(h:¬8<level)(h2:¬(64≤n∨16<a.length∨16<l.length))(h3:(TmT.mk w t k x a l).partOk=false):(TmT.mk w t k x a l).ownE level n=9:=by rw[TmT.ownE,if_neg h];exact(if_neg h2).trans (if_pos h3)
theorem Ew(h:¬8<level)(h2:¬(64≤n∨16<a.length∨16<l.length))(h3:(TmT.mk w t k x a l).partOk=true):(TmT.mk w t k x a l).ownE level n=(TmT.mk w t k x a l).exE:=by rw[TmT.ownE,if_neg h];exact(if_neg h2).trans (if_neg (by simp[h3]))
theorem Pq:∀{l:List Int} {j:Nat} (h:j<l.length),(∀i (hi:i<l.length),i<j→l[i]=0)→¬l[j]=0→Hz l=l[j]
  |y::r,0,h,_,hn=>by rw[Hz];exact if_pos (show y≠0 from hn)
  |y::r,j+1,h,h0,hn=>by
    have h1:y=0:=h0 0 (by simp) (by omega)
    rw[Hz,if_neg (fun hc=>hc h1)]
    exact Pq (l:=r) (j:=j) (by simpa using h) (fun i hi hij=>h0 (i+1) (by simpa using hi) (by omega)) hn
theorem ex_k(h:¬k.err=0):(TmT.mk w t k x a l).exE=k.err:=if_pos h
theorem ex_x(h:k.err=0)(h2:¬x.err=0):(TmT.mk w t k x a l).exE=x.err:=(if_neg (fun hc=>hc h)).trans (if_pos h2)
theorem ex_a(h:k.err=0)(h2:x.err=0){j:Nat}(hj:j<a.length)(h3:∀i (hi:i<a.length),i<j→a[i].ex.err=0)(h4:¬a[j].ex.err=0):(TmT.mk w t k x a l).exE=a[j].ex.err:=by
  show Hz (k.err::x.err::a.map fun s=>s.ex.err)=_
  rw[Hz,if_neg (fun hc=>hc h),Hz,if_neg (fun hc=>hc h2)]
  have:=Pq (l:=a.map fun s=>s.ex.err) (j:=j) (by simpa using hj) (fun i hi hij=>by simpa using h3 i (by simpa using hi) hij) (by simpa using h4)
  simpa using this
theorem Tl:∀{l:List Int},(∀x∈l,x=0)→Hz l=0
  |[],_=>rfl
  |y::r,h=>by rw[Hz,if_neg (fun hc=>hc (h y (by simp)))];exact Tl fun x hx=>h x (by simp[hx])
theorem ex_0(h:k.err=0)(h2:x.err=0)(h3:∀i (hi:i<a.length),a[i].ex.err=0):(TmT.mk w t k x a l).exE=0:=Tl fun y hy=>by
  rcases List.mem_cons.1 hy with rfl|hy
  · exact h
  · rcases List.mem_cons.1 hy with rfl|hy
    · exact h2
    · obtain⟨s,hs,rfl⟩:=List.mem_map.1 hy
      obtain⟨i,hi,rfl⟩:=List.getElem_of_mem hs
      exact h3 i hi
theorem vw_own(h:¬(TmT.mk w t k x a l).ownE level n=0):(TmT.mk w t k x a l).walk level n=(n,(TmT.mk w t k x a l).ownE level n):=by rw[TmT.walk,if_pos h]
theorem vw_go(h:(TmT.mk w t k x a l).ownE level n=0):(TmT.mk w t k x a l).walk level n=TmT.walks l (level+1) (n+1):=by rw[TmT.walk,if_neg (fun hc=>hc h)]
theorem CG{c:Int}(h:(TmT.mk w t k x a l).ownE level n=c)(hc:¬c=0):(TmT.mk w t k x a l).walk level n=(n,c):=by rw[vw_own (by rw[h];exact hc),h]
end
theorem vws_go{l:List TmT}{j:Nat}(h:j<l.length){level m:Int}(h2:(l[j].walk level m).2=0):TmT.walks (l.drop j) level m=TmT.walks (l.drop (j+1)) level (l[j].walk level m).1:=by rw[List.drop_eq_getElem_cons h,TmT.walks,if_neg (fun hc=>hc h2)]
theorem vws_no{l:List TmT}{j:Nat}(h:j<l.length){level m:Int}(h2:¬(l[j].walk level m).2=0):TmT.walks (l.drop j) level m=l[j].walk level m:=by rw[List.drop_eq_getElem_cons h,TmT.walks,if_pos h2]
mutual
theorem TmT.walk_bd:∀(t:TmT) (level n:Int),0≤n∧n≤64→0≤(t.walk level n).1∧(t.walk level n).1≤64
  |.mk w t k x a l,level,n,h=>by
    unfold TmT.walk
    split
    · exact h
    · rename_i h1
      obtain⟨-,h2,-⟩:=RY (Decidable.not_not.1 h1)
      exact TmT.walks_bd l _ _ ⟨by omega,by omega⟩
theorem TmT.walks_bd:∀(l:List TmT) (level n:Int),0≤n∧n≤64→0≤(TmT.walks l level n).1∧(TmT.walks l level n).1≤64
  |[],_,_,h=>h
  |x::r,level,n,h=>by
    unfold TmT.walks
    split
    · exact TmT.walk_bd x _ _ h
    · exact TmT.walks_bd r _ _ (TmT.walk_bd x _ _ h)
end
theorem Sl:∀(n:Nat) {t:TmT} {fr:Bool} {level n0:Int} {b:Nat},t.wf→t.sz≤n→(0≤n0∧n0≤64)→(1≤level∧level≤9)→
    AC Tryz.prog 53 [UC b n0] [.agg (t.cs fr),.c (.int .i64 level),.c (.pointer (some ⟨b,0,none⟩))] (VwR (t.walk level n0) b):=by
  intro n
  induction n with
  |zero=>intro t fr level n0 b hw hn;exact absurd hn (by have:=t.sz_pos;omega)
  |succ n ih=>
    intro t fr level n0 b hw hn hbd hlv
    obtain⟨w,tg,k,x,a,l⟩:=t
    obtain⟨h0,h1,h2,h3,h4,h5,h6,h7⟩:=hw.inv
    have ha:a.length≤9223372036854775805:=by unfold Qr at h4;omega
    have hl:l.length≤9223372036854775805:=by unfold Qr at h6;omega
    refine AC.of_J Tryz.func53 rfl Tryz.ntmps53 rfl fun w0 A0=>?_
    refine Zs (Qp (.r rfl) rfl fun b3=>Zn (Zs (Zm rfl (Zq rfl (QW.leq (.r rfl) .const) ?_))))
    refine Qn [] Hy rfl Lent.nil (fun _=>(.cons (.r rfl) (.cons .const .nil))) (XJ _ _) (.inl rfl) (fun k12 x12 o12 h12=>?_) (fun k12=>?_)
    rotate_left
    · skip
      refine thenQ.p ?_
      exact⟨_,QG [.k,.k] _,_,rfl,rfl,Qk [.k,.k] _,VwR.er (c:=10) (CG (own_10 (by simp at k12;omega)) (by decide)) (by decide)⟩
    obtain⟨rfl,rfl⟩:=h12
    refine Zn (J.seq ?_)
    have hlv8:¬8<level:=by(simp at k12;omega)
    refine Qg (Zm rfl (Zu rfl (Zl 1 UB rfl (Zq rfl (QW.lss (.r rfl) .const) (Zm rfl (Zg rfl (fun hg=>(Qf Gs (.r rfl) rfl)) (Zg rfl (fun hg=>(Qe 0 T5 (.when rfl hg) rfl YL)) (Zg rfl (fun hg=>(by first|exact Qh Yg (.when rfl hg) (TmT.css_length _ _)|exact Qh Yg (.when rfl hg) (SetT.css_length _ _)|exact QC Yg (.when rfl hg)|exact QW.len_nil Yg (.when rfl hg))) ?_))))))))
    refine Zg rfl (fun hg=>(Qf KF (.r rfl) rfl)) (Zg rfl (fun hg=>(Qe 0 RK (.when rfl hg) rfl YK)) (Zg rfl (fun hg=>(by first|exact Qh Xb (.when rfl hg) (TmT.css_length _ _)|exact Qh Xb (.when rfl hg) (SetT.css_length _ _)|exact QC Xb (.when rfl hg)|exact QW.len_nil Xb (.when rfl hg))) ?_))
    refine Zg rfl (fun hg=>(QW.max2 (.when rfl hg) (.when rfl hg))) (Zg rfl (fun hg=>(QW.leq (.when rfl hg) .const)) (Zq rfl (QW.pick_and (.r rfl) (.r rfl)) ?_))
    refine Qn [] Hy rfl Lent.nil (fun _=>(.cons (.r rfl) (.cons .const .nil))) (XJ _ _) (.inl rfl) (fun k27 x27 o27 h27=>?_) (fun k27=>?_)
    rotate_left
    · skip
      refine thenQ.p ?_
      exact⟨_,QG [.k,.k] _,_,rfl,rfl,Qk [.k,.k] _,VwR.er (c:=3) (CG (own_3 hlv8 (by simp[SetT.css_length,TmT.css_length,MF]at k27;omega)) (by decide)) (by decide)⟩
    obtain⟨rfl,rfl⟩:=h27
    refine Zn (J.seq ?_)
    have hct:¬(64≤n0∨16<a.length∨16<l.length):=by(simp[SetT.css_length,TmT.css_length,MF]at k27;omega)
    refine Qg (Zq rfl (by first|exact Qd 0 UR (.r rfl) rfl rfl rfl|exact Qd 0 UR (.r rfl) rfl (Qm (TmT.cs_length _ _) rfl) (TmT.cs_length _ _)) ?_)
    refine Zq rfl (QW.call gofn96 (.cons (.r rfl) .nil) (F9 hw)) ?_
    refine Qn [] Hy rfl Lent.nil (fun _=>(.cons (.r rfl) (.cons .const .nil))) (XJ _ _) (.inl rfl) (fun k30 x30 o30 h30=>?_) (fun k30=>?_)
    rotate_left
    · skip
      refine thenQ.p ?_
      exact⟨_,QG [.k,.k] _,_,rfl,rfl,Qk [.k,.k] _,VwR.er (c:=9) (CG (own_9 hlv8 hct (by simpa using k30)) (by decide)) (by decide)⟩
    obtain⟨rfl,rfl⟩:=h30
    refine Zn (J.seq ?_)
    have hpt:(TmT.mk w tg k x a l).partOk=true:=k30
    refine Qg (Zd DE rfl (Zq rfl (Qd 0 Q7 (.r rfl) rfl LC xl) (Zq rfl (QW.call Dy (.cons (.r rfl) .nil) (HE Xc.self h2)) ?_)))
    refine Qn [] Gm rfl Lent.nil (fun _=>(.cons (.r rfl) .nil)) (Y9 _) (.inl rfl) (fun k34 x34 o34 h34=>?_) (fun k34=>?_)
    rotate_left
    · skip
      refine thenQ.p ?_
      exact⟨_,QG [.k,.k] _,_,rfl,rfl,Qk [.k,.k] _,VwR.er (CG ((Ew hlv8 hct hpt).trans (ex_k k34)) k34) k34⟩
    obtain⟨rfl,rfl⟩:=h34
    refine Zn (Zs (Zd N9 rfl (Zq rfl (Qd 0 Q7 (.r rfl) rfl G8 xl) (Zq rfl (QW.call Dy (.cons (.r rfl) .nil) (HE Xc.self h3)) ?_))))
    refine Qn [] Gm rfl Lent.nil (fun _=>(.cons (.r rfl) .nil)) (Y9 _) (.inl rfl) (fun k38 x38 o38 h38=>?_) (fun k38=>?_)
    rotate_left
    · skip
      refine thenQ.p ?_
      exact⟨_,QG [.k,.k] _,_,rfl,rfl,Qk [.k,.k] _,VwR.er (CG ((Ew hlv8 hct hpt).trans (ex_x k34 k38)) k38) k38⟩
    obtain⟨rfl,rfl⟩:=h38
    refine Zn (J.seq (Zs (Zd Gs rfl (Zq rfl (Qe 0 T5 (.r rfl) rfl YL) (Zq rfl (by first|exact Qh Yg (.r rfl) (TmT.css_length _ _)|exact Qh Yg (.r rfl) (SetT.css_length _ _)|exact QC Yg (.r rfl)|exact QW.len_nil Yg (.r rfl)) ?_)))))
    refine Zq rfl (QW.move .const) (Zn (J.block (Ub (ι:=Nat) [1,2,3,40,41] (fun j=>[(42,.c (.int .i64 (j:Int)))]) (fun _ oo=>oo) (fun j=>j≤a.length∧∀i (hi:i<a.length),i<j→a[i].ex.err=0) (fun j=>a.length-j) 0 (⟨Nat.zero_le _,fun i _ hi=>by omega⟩) (QT (.cons rfl lr (.cons rfl lr (.cons rfl lr (.cons rfl lr (.cons rfl lr (.cons rfl lr .nil)))))) (Reown.refl _) (fun _ h=>by first|exact h|simp[h])) ?_)))
    intro j ⟨hj,hall⟩
    refine J.conv (by(try simp only[nl,Qj,Qv,Qw,Qu,QY,AV.cellsOf,Qb,Qc,Nat.reduceAdd]);rfl) ?_
    refine Zs (Zq rfl (QW.lss (.r rfl) (.r rfl)) (Zn (J.seq ?_)))
    refine J.cond (.r rfl) (fun c1=>?_) (fun c1=>?_)
    · skip
      have hlt:j<a.length:=by simpa[SetT.css_length,MF]using c1
      refine Zk (J.seq (J.block (Zs (Zq rfl (Qi Yg U7 rfl (.r rfl) (.r rfl) (by first|rfl|omega|(simp;done)) (by exact SetT.css_getE _ hlt)) ?_))))
      refine Zq rfl (by first|exact Qo U7 (.r rfl) rfl rfl|exact Qo U7 (.r rfl) (QJ (SetT.cs_length _ _) rfl) (SetT.cs_length _ _)) ?_
      refine JL.alloc F2 rfl rfl fun b7=>?_
      first|refine Qa 0 U7 (.r rfl) rfl (.r rfl) (by first|rfl|assumption) rfl rfl rfl ?_|refine Qa 0 U7 (.r rfl) rfl (.r rfl) (by first|rfl|assumption) rfl (SetT.cs_length _ _) rfl ?_|refine Qa 0 U7 (.r rfl) rfl (.r rfl) (by first|rfl|assumption) (SetT.cs_length _ _) rfl rfl ?_|refine Qa 0 U7 (.r rfl) rfl (.r rfl) (by first|rfl|assumption) (SetT.cs_length _ _) (SetT.cs_length _ _) rfl ?_|refine JL.store_box 0 U7 (.r rfl) rfl (.r rfl) (by first|rfl|assumption) rfl rfl rfl rfl ?_|refine JL.store_box 0 U7 (.r rfl) rfl (.r rfl) (by first|rfl|assumption) (SetT.cs_length _ _) rfl rfl rfl ?_
      refine Zn (Qg (Zd Cj rfl (Zq rfl (Qd 0 Q7 (.r rfl) rfl SetT.at1 xl) (Zq rfl (QW.call Dy (.cons (.r rfl) .nil) (HE Xc.self (h5 _ (List.getElem_mem hlt)).ex)) ?_))))
      refine Qn [] Gm rfl Lent.nil (fun _=>(.cons (.r rfl) .nil)) (Y9 _) (.inl rfl) (fun k49 x49 o49 h49=>?_) (fun k49=>?_)
      rotate_left
      · skip
        refine blkQ.p (thenQ.p (thenQ.p (blkQ.p (thenQ.p ?_))))
        exact⟨_,QG [.k,.k,.k] _,_,rfl,rfl,Qk [.k,.k,.k] _,VwR.er (CG ((Ew hlv8 hct hpt).trans (ex_a k34 k38 hlt hall k49)) k49) k49⟩
      obtain⟨rfl,rfl⟩:=h49
      refine JL.nil (blkQ.n (thenQ.n (Qg (Zq rfl (QW.add (.r rfl) .const (by first|exact Wl (by first|rfl|omega|(simp;done)) (by omega)|exact YZ (by omega)|rfl)) ?_))))
      refine Zm rfl (Zn ?_)
      exact⟨j+1,⟨hlt,fun i hi hij=>by rcases Nat.lt_succ_iff_lt_or_eq.1 hij with h|rfl;exact hall i hi h;exact k49⟩,by omega,QT (.cons rfl lr (.cons rfl lr (.cons rfl lr (.cons rfl lr (.cons rfl lr (.cons rfl lr .nil)))))) (Q3 1 _ rfl) (fun _ h=>by first|exact h|simp[h])⟩
    have hge:a.length≤j:=by simpa[SetT.css_length,MF]using c1
    refine J.exit (Qz (Qz (Q1 (thenQ.n (J.seq ?_)))))
    have hx0:=ex_0 (w:=w) (t:=tg) (l:=l) k34 k38 fun i hi=>hall i hi (by omega)
    have how:(TmT.mk w tg k x a l).ownE level n0=0:=(Ew hlv8 hct hpt).trans hx0
    have hlv2:1≤level+1∧level+1≤9:=by omega
    refine Qg (Zm rfl (Zu rfl (Zl 1 UB rfl (Zq rfl (QW.add (.r rfl) .const (by first|exact Wl (by first|rfl|omega|(simp;done)) (by omega)|exact YZ (by omega)|rfl)) ?_))))
    refine Zu rfl (JL.store_box 1 UB (.r rfl) rfl (.r rfl) (by first|rfl|assumption) rfl rfl rfl rfl ?_)
    refine Zn (Zs (Zd KF rfl (Zq rfl (Qe 0 RK (.r rfl) rfl YK) (Zq rfl (by first|exact Qh Xb (.r rfl) (TmT.css_length _ _)|exact Qh Xb (.r rfl) (SetT.css_length _ _)|exact QC Xb (.r rfl)|exact QW.len_nil Xb (.r rfl)) ?_))))
    refine Zq rfl (QW.move .const) (Zn (J.block (Ub (ι:=Nat×Int) [1,2,57,58] (fun⟨i,m⟩=>[(59,.c (.int .i64 (i:Int)))]) (fun⟨i,m⟩ oo=>List.set oo 1 (UC b m)) (fun⟨i,m⟩=>i≤l.length∧(0≤m∧m≤64)∧(TmT.mk w tg k x a l).walk level n0=TmT.walks (l.drop i) (level+1) m) (fun⟨i,m⟩=>l.length-i) ⟨0,n0+1⟩ (⟨Nat.zero_le _,by show 0≤n0+1∧n0+1≤64;omega,vw_go how⟩) (QT (.cons rfl lr (.cons rfl lr (.cons rfl lr (.cons rfl lr (.cons rfl lr .nil))))) (Reown.refl _) (fun _ h=>by first|exact h|simp[h])) ?_)))
    intro⟨i,m⟩ ⟨hi,hm,hwk⟩
    refine J.conv (by(try simp only[nl,Qj,Qv,Qw,Qu,QY,AV.cellsOf,Qb,Qc,Nat.reduceAdd]);rfl) ?_
    refine Zs (Zq rfl (QW.lss (.r rfl) (.r rfl)) (Zn (J.seq ?_)))
    refine J.cond (.r rfl) (fun c2=>?_) (fun c2=>?_)
    · skip
      have hlt2:i<l.length:=by simpa[TmT.css_length,MF]using c2
      refine Zk (J.seq (J.block (Zs (Zq rfl (Qi Xb UR rfl (.r rfl) (.r rfl) (by first|rfl|omega|(simp;done)) (by exact TmT.css_getE _ hlt2)) ?_))))
      refine Zq rfl (by first|exact Qo UR (.r rfl) rfl rfl|exact Qo UR (.r rfl) (QJ (TmT.cs_length _ _) rfl) (TmT.cs_length _ _)) ?_
      refine JL.alloc z40 rfl rfl fun b9=>?_
      first|refine Qa 0 UR (.r rfl) rfl (.r rfl) (by first|rfl|assumption) rfl rfl rfl ?_|refine Qa 0 UR (.r rfl) rfl (.r rfl) (by first|rfl|assumption) rfl (TmT.cs_length _ _) rfl ?_|refine Qa 0 UR (.r rfl) rfl (.r rfl) (by first|rfl|assumption) (TmT.cs_length _ _) rfl rfl ?_|refine Qa 0 UR (.r rfl) rfl (.r rfl) (by first|rfl|assumption) (TmT.cs_length _ _) (TmT.cs_length _ _) rfl ?_|refine JL.store_box 0 UR (.r rfl) rfl (.r rfl) (by first|rfl|assumption) rfl rfl rfl rfl ?_|refine JL.store_box 0 UR (.r rfl) rfl (.r rfl) (by first|rfl|assumption) (TmT.cs_length _ _) rfl rfl rfl ?_
      refine Zn (Qg (Zq rfl (by first|exact Qd 0 UR (.r rfl) rfl rfl rfl|exact Qd 0 UR (.r rfl) rfl (Qm (TmT.cs_length _ _) rfl) (TmT.cs_length _ _)) ?_))
      refine Zm rfl (Zq rfl (QW.add (.r rfl) .const (by first|exact Wl (by first|rfl|omega|(simp;done)) (by omega)|exact YZ (by omega)|rfl)) ?_)
      refine Zm rfl ?_
      refine Qn [.k,.k,.p] Pl rfl Lent.nil (fun _=>(.cons (.r rfl) (.cons (.r rfl) (.cons (.r rfl) .nil)))) (ih (h7 _ (List.getElem_mem hlt2)) (TmT.sz_get hn hlt2) hm hlv2) (.inl rfl) (fun k67 x67 o67 h67=>?_) (fun k67=>?_)
      rotate_left
      · skip
        refine blkQ.p (thenQ.p (thenQ.p (blkQ.p ?_)))
        exact⟨_,QG [.k,.k] _,_,rfl,rfl,Qk [.k,.k] _,VwR.er (n:=(l[i].walk (level+1) m).1) (hwk.trans (vws_no hlt2 k67)) k67⟩
      obtain⟨rfl,rfl⟩:=h67
      refine JL.nil (blkQ.n (thenQ.n (Qg (Zq rfl (QW.add (.r rfl) .const (by first|exact Wl (by first|rfl|omega|(simp;done)) (by omega)|exact YZ (by omega)|rfl)) ?_))))
      refine Zm rfl (Zn ?_)
      rw[vws_go hlt2 k67]at hwk
      exact⟨⟨i+1,(l[i].walk (level+1) m).1⟩,⟨hlt2,TmT.walk_bd _ _ _ hm,hwk⟩,by show l.length-(i+1)<l.length-i;omega,QT (.cons rfl lr (.cons rfl lr (.cons rfl lr (.cons rfl lr (.cons rfl lr .nil))))) (Q3 1 _ rfl) (fun _ h=>by first|exact h|simp[h])⟩
    have hge2:l.length≤i:=by simpa[TmT.css_length,MF]using c2
    exact J.exit (Qz (Qz (Q1 (Zr [.k,.p] (RetEv.none rfl) rfl (VwR.ok (hwk.trans (by rw[List.drop_of_length_le hge2];rfl)))))))
theorem MT(c:Nat)(z:Int):AC Tryz.prog 44 [UC c z] [.c .nilIface,.c (.pointer (some ⟨c,0,none⟩))] (YX fun x o=>x=.c (.bool false)∧o=[UC c z]):=by
  refine AC.of_J Tryz.func44 rfl Tryz.ntmps44 rfl fun w0 A0=>?_
  refine Zs (Zq rfl (QW.assign .const) (Zn (Zs (Zm rfl (Zn (J.block (Zs (Zq rfl (Yz ⟨_,Tryz.underlying47,by intro ms h;cases h⟩ KL (.r rfl)) ?_))))))))
  refine Zx rfl (Zx rfl (Zn ?_))
  refine J.cond (.r rfl) (fun c1=>absurd c1 (by simp)) (fun c1=>?_)
  refine Zs (Zq rfl (QW.bin (r:=.bool true) (.r rfl) .const (fun w=>by kernel_rfl) (fun w=>by kernel_rfl)) ?_)
  refine Zn ?_
  refine J.cond (.r rfl) (fun c2=>?_) (fun c2=>absurd c2 (by simp))
  exact Zs (Za rfl (Zn (Zs (Zq rfl (QW.assign .const) (Zn (J.ret (blkQ.r (Zr [.p] (RetEv.one rfl (REv.tmp rfl lr)) rfl ⟨_,rfl,rfl,rfl⟩))))))))
theorem RH(c:Nat)(z e:Int):AC Tryz.prog 44 [UC c z] [.c (WS e),.c (.pointer (some ⟨c,0,none⟩))] (YX fun x o=>x=.c (.bool true)∧o=[UC c e]):=by
  refine AC.of_J Tryz.func44 rfl Tryz.ntmps44 rfl fun w0 A0=>?_
  refine Zs (Zq rfl (QW.assign .const) (Zn (Zs (Zm rfl (Zn (J.block (Zs (Zq rfl (YA ⟨_,Tryz.underlying47,by intro ms h;cases h⟩ (.r rfl)) ?_))))))))
  refine Zx rfl (Zx rfl (Zn ?_))
  refine J.cond (.r rfl) (fun c1=>?_) (fun c1=>absurd c1 (by simp))
  refine Zs (Za rfl (Zn (Zs (Zm rfl (Zm rfl (Zu rfl (JL.store_box 0 Wc (.r rfl) rfl (.r rfl) (by first|rfl|assumption) rfl rfl rfl rfl ?_)))))))
  exact Zn (Zs (Zq rfl (QW.assign .const) (Zn (J.ret (blkQ.r (Zr [.p] (RetEv.one rfl (REv.tmp rfl lr)) rfl ⟨_,rfl,rfl,rfl⟩))))))
theorem CJ(c:Nat)(z:Int):DC Tryz.prog 52 [UC c z] [.c (.pointer (some ⟨c,0,none⟩))] .returning fun r u' o=>r=.ret (.tup [])∧u'=.returning∧o=[UC c z]:=by
  refine DC.of_JD Tryz.func52 rfl Tryz.ntmps52 rfl fun w0 A0=>?_
  refine Ua rfl rfl (.inl ⟨rfl,rfl,rfl⟩) rfl (JL.callRF [.p] NX rfl Lent.nil (fun _=>(.cons (.r rfl) (.cons (.r rfl) .nil))) (MT c z) (.inl rfl) fun x2 o2 h2=>?_)
  obtain⟨rfl,rfl⟩:=h2
  refine JL.nil ?_
  exact⟨_,QG [.p] _,_,RetEv.none rfl,rfl,Qk [.p] _,⟨rfl,rfl,rfl⟩⟩
theorem CK(c:Nat)(z e:Int):DC Tryz.prog 52 [UC c z] [.c (.pointer (some ⟨c,0,none⟩))] (.panicking [{v:=WS e,recovered:=false}]) fun r u' o=>r=.ret (.tup [])∧u'=.panicking [{v:=WS e,recovered:=true}]∧o=[UC c e]:=by
  refine DC.of_JD Tryz.func52 rfl Tryz.ntmps52 rfl fun w0 A0=>?_
  refine Ua rfl rfl (.inr ⟨[],rfl,rfl⟩) rfl (JL.callRF [.p] NX rfl Lent.nil (fun _=>(.cons (.r rfl) (.cons (.r rfl) .nil))) (RH c z e) (.inl rfl) fun x2 o2 h2=>?_)
  obtain⟨rfl,rfl⟩:=h2
  refine JL.nil ?_
  exact⟨_,QG [.p] _,_,RetEv.none rfl,rfl,Qk [.p] _,⟨rfl,rfl,rfl⟩⟩

end
section
/- Walks: may a template be? a value as a word. -/
set_option maxRecDepth 10000
set_option maxHeartbeats 4000000
theorem Bj{t:TmT}(h:t.what=1):t.err=(t.walk 1 0).2:=if_neg (fun hc=>hc h)
theorem terr_9{t:TmT}(h:¬t.what=1):t.err=9:=if_pos h
def Kr(r:QM×Int):AV:=.tup [.c (Q4 r.1),.c (.int .i64 r.2)]
theorem DJ:Xj (fun i=>some (i*1,1)) [AV.c (Q4 []),AV.c (Q4 [])] [(0,[AV.c (Q4 Hm)]),(1,[AV.c (Q4 MZ)])]=some [AV.c (Q4 Hm),AV.c (Q4 MZ)]:=rfl
section
variable {v:V}
theorem wk_0(h:v.kind=0):Kq v=([],0):=if_pos h
theorem wk_1(h0:¬v.kind=0)(h:v.kind=1):Kq v=(if v.bits=1 then MZ else Hm,0):=(if_neg h0).trans (if_pos h)
theorem wk_2(h0:¬v.kind=0)(h1:¬v.kind=1)(h:v.kind=2)(hi:YF v.bits=0):Kq v=(Hw (YR v.bits),0):=(if_neg h0).trans ((if_neg h1).trans ((if_pos h).trans (if_pos hi)))
theorem wk_2n(h0:¬v.kind=0)(h1:¬v.kind=1)(h:v.kind=2)(hi:¬YF v.bits=0):Kq v=([],81):=(if_neg h0).trans ((if_neg h1).trans ((if_pos h).trans (if_neg hi)))
theorem wk_3(h0:¬v.kind=0)(h1:¬v.kind=1)(h2:¬v.kind=2)(h:v.kind=3):Kq v=(v.text,0):=(if_neg h0).trans ((if_neg h1).trans ((if_neg h2).trans (if_pos h)))
theorem wk_n(h0:¬v.kind=0)(h1:¬v.kind=1)(h2:¬v.kind=2)(h:¬v.kind=3):Kq v=([],81):=(if_neg h0).trans ((if_neg h1).trans ((if_neg h2).trans (if_neg h)))
theorem wt_e(h:¬v.err=0):Xl v=([],v.err):=if_pos h
theorem CC(h:v.err=0){r:QM×Int}(hk:Kq v=r):Xl v=r:=(if_neg (fun hc=>hc h)).trans hk
end
theorem T6{v:V}(h:v.err=0)(hk:v.kind=1):v.bits≤1:=by
  have:=(V.fine_of h).part
  obtain⟨k,b,t,ks,is⟩:=v
  obtain rfl:k=1:=hk
  simp[Q8]at this
  exact this.1.1.1
theorem CL{fr:Bool}{t:TmT}(hw:t.wf):Fn Tryz.prog 19 [.agg (t.cs fr)] (.c (.int .i64 t.err)):=by
  refine T2 Tryz.func19 rfl Tryz.ntmps19 rfl fun w0 A0=>?_
  refine Zs (Qp (.r rfl) rfl fun b1=>JL.alloc z47 rfl rfl fun b2=>Zn (J.seq (Zs (Zd Ra rfl (Zq rfl (Qe 1 UB (.r rfl) rfl TmT.at0) (Zq rfl (QW.neq (.r rfl) .const) (Zn ?_)))))))
  refine J.cond (.r rfl) (fun c1=>?_) (fun c1=>?_)
  · skip
    have h1:¬t.what=1:=by simpa using c1
    refine Zs (JL.store_box 0 Wc (.r rfl) rfl .const (by first|rfl|assumption) rfl rfl rfl rfl ?_)
    refine Zn (J.ret (thenQ.r ?_))
    exact retE.none [.k,.k] (RetEv.one rfl (QQ 0 Wc rfl rfl rfl lr)) rfl ⟨(congrArg (fun n=>Wi.ret (.c (.int .i64 n))) (terr_9 h1).symm),rfl⟩
  have h1:t.what=1:=by simpa using c1
  refine Zk (Zs (Zq rfl (WJ .nil (.cons (.r rfl) .nil)) (JL.defer rfl (.r rfl) (Zn (Zs (JL.alloc z3 rfl rfl fun b3=>JL.store_box 0 UB (.r rfl) rfl .const (by first|rfl|assumption) rfl rfl rfl rfl ?_))))))
  refine Zn (Zs (Zq rfl (by first|exact Qd 2 UR (.r rfl) rfl rfl rfl|exact Qd 2 UR (.r rfl) rfl (Qm (TmT.cs_length _ _) rfl) (TmT.cs_length _ _)) ?_))
  refine Qn [.p] Pl rfl Lent.nil (fun _=>(.cons (.r rfl) (.cons .const (.cons (.r rfl) .nil)))) (Sl _ (fr:=fr) (t:=t) (level:=1) (n0:=0) (b:=b3) hw (Nat.le_refl _) ⟨by decide,by decide⟩ ⟨by decide,by decide⟩) (.inl rfl) (fun k9 x9 o9 h9=>?_) (fun k9=>?_)
  rotate_left
  · skip
    refine thenQ.p ?_
    exact .inl ⟨_,_,[],[_],QG [.p,.k] _,_,rfl,rfl,Pm,Qk [.p,.k] _,DC.mono (CK _ _ _) fun r u' o ⟨h1,h2,h3⟩=>by subst h1 h2 h3;exact⟨⟨_,rfl⟩,rfl,_,[],_,RetEv.one rfl (QQ 0 Wc rfl rfl rfl lr),List.Perm.refl _,(congrArg (fun n=>Wi.ret (.c (.int .i64 n))) (Bj h1).symm),rfl⟩⟩
  obtain⟨rfl,rfl⟩:=h9
  refine Zn (Zs (JL.store_box 1 Wc (.r rfl) rfl .const (by first|rfl|assumption) rfl rfl rfl rfl ?_))
  refine Zn (J.ret ?_)
  exact .inl ⟨_,_,[],[_],QG [.k,.p,.k] _,_,rfl,rfl,Pm,Qk [.k,.p,.k] _,DC.mono (CJ _ _) fun r u' o ⟨h1,h2,h3⟩=>by subst h1 h2 h3;exact⟨⟨_,rfl⟩,rfl,_,[],_,RetEv.one rfl (QQ 0 Wc rfl rfl rfl lr),List.Perm.refl _,(congrArg (fun n=>Wi.ret (.c (.int .i64 n))) ((Bj h1).trans k9).symm),rfl⟩⟩
theorem F8{fr:Bool}{v:V}(hw:v.wf):Fn Tryz.prog 16 [.agg (v.cs fr)] (Kr (Xl v)):=by
  obtain⟨vk,vb,vt,vks,vis⟩:=v
  obtain⟨-,hb64,-⟩:=hw.inv
  refine AC.of_J Tryz.func16 rfl Tryz.ntmps16 rfl fun w0 A0=>?_
  refine Zs (Qp (.r rfl) rfl fun b1=>Zq rfl (QW.assign .const) (Zq rfl (QW.assign .const) (Zn (J.seq (Zs (Zq rfl (by first|exact Qd 0 Ql (.r rfl) rfl rfl rfl|exact Qd 0 Ql (.r rfl) rfl (Qm vl rfl) vl) ?_))))))
  refine Zq rfl (QW.call X5 (.cons (.r rfl) .nil) (Yo (fr:=fr) (v:=.mk vk vb vt vks vis) Vc.self hw)) (Za rfl (Zn (Zs (Zm rfl (Zq rfl (QW.neq (.r rfl) .const) (Zn ?_))))))
  refine J.cond (.r rfl) (fun c1=>?_) (fun c1=>?_)
  · skip
    have he:¬(V.mk vk vb vt vks vis).err=0:=by simpa using c1
    exact Zs (Zm rfl (Zq rfl (QW.assign .const) (Za rfl (Zn (J.ret (thenQ.r (Zr [.k] (Qs rfl (REv.tmp rfl lr) (REv.tmp rfl lr)) rfl ⟨congrArg (fun r=>Wi.ret (Kr r)) (wt_e he).symm,rfl⟩)))))))
  have he:(V.mk vk vb vt vks vis).err=0:=by simpa using c1
  refine Zk (J.seq (Zs (Zd UZ rfl (Zl 0 UB rfl (Zn (J.block (Zs (Zq rfl (QW.eql (.r rfl) .const) (Za rfl ?_)))))))))
  refine Zn ?_
  refine J.cond (.r rfl) (fun c2=>?_) (fun c2=>?_)
  · skip
    have k0:vk=0:=by simpa using c2
    exact Zs (Zq rfl (QW.assign .const) (Zq rfl (QW.assign .const) (Zn (J.ret (blkQ.r (thenQ.r (Zr [.k] (Qs rfl (REv.tmp rfl lr) (REv.tmp rfl lr)) rfl ⟨congrArg (fun r=>Wi.ret (Kr r)) (CC he (wk_0 k0)).symm,rfl⟩)))))))
  have k0:¬vk=0:=by simpa using c2
  refine Zs (Zq rfl (QW.eql (.r rfl) .const) (Za rfl (Zn ?_)))
  refine J.cond (.r rfl) (fun c3=>?_) (fun c3=>?_)
  · skip
    have k1:vk=1:=by simpa using c3
    have hb1:vb≤1:=T6 he k1
    refine Zs (Zq rfl (Ny (idx:=[0,1]) (sz:=1) (by kernel_rfl) z132 rfl (.cons .const (.cons .const .nil)) rfl rfl rfl DJ) ?_)
    refine Zd UG rfl (Zl 0 WM rfl (Zq rfl (D8 (v:=.c (Q4 (if vb=1 then MZ else Hm))) (ln:=2) (et:=9) (by kernel_rfl) U0 (.r rfl) (.r rfl) rfl (by omega) (by rcases(show vb=0∨vb=1 by omega)with rfl|rfl<;>rfl)) ?_))
    exact Za rfl (Zq rfl (QW.assign .const) (Zn (J.ret (blkQ.r (thenQ.r (Zr [.k] (Qs rfl (REv.tmp rfl lr) (REv.tmp rfl lr)) rfl ⟨congrArg (fun r=>Wi.ret (Kr r)) (CC he (wk_1 k0 k1)).symm,rfl⟩))))))
  have k1:¬vk=1:=by simpa using c3
  refine Zs (Zq rfl (QW.eql (.r rfl) .const) (Za rfl (Zn ?_)))
  refine J.cond (.r rfl) (fun c4=>?_) (fun c4=>?_)
  · skip
    have k2:vk=2:=by simpa using c4
    refine Zs (Zd UG rfl (Zl 0 WM rfl (Zq rfl (QW.call Pn (.cons (.r rfl) .nil) (Nn vb hb64)) (Zm rfl (Zx rfl (Zx rfl (Za rfl (Za rfl (Zn ?_)))))))))
    refine Zs (Zm rfl (Zq rfl (QW.eql (.r rfl) .const) (Zn ?_)))
    refine J.cond (.r rfl) (fun c5=>?_) (fun c5=>?_)
    · skip
      have hi:YF vb=0:=by(simp at c5;by_cases hc:YF vb=0;exact hc;simp[hc]at c5)
      exact Zs (Zm rfl (Za rfl (Zq rfl (QW.assign .const) (Zn (J.ret (blkQ.r (thenQ.r (Zr [.k] (Qs rfl (REv.tmp rfl lr) (REv.tmp rfl lr)) rfl ⟨by rw[CC he (wk_2 k0 k1 k2 hi)];show _=Wi.ret (Kr (Hw (YR vb),0));rw[if_pos hi];rfl,rfl⟩))))))))
    have hi:¬YF vb=0:=by(intro hc;simp[hc]at c5)
    exact J.skip (blkQ.n (thenQ.n (Zs (Zq rfl (QW.assign .const) (Zq rfl (QW.assign .const) (Zn (J.ret (Zr [.k] (Qs rfl (REv.tmp rfl lr) (REv.tmp rfl lr)) rfl ⟨congrArg (fun r=>Wi.ret (Kr r)) (CC he (wk_2n k0 k1 k2 hi)).symm,rfl⟩))))))))
  have k2:¬vk=2:=by simpa using c4
  refine Zs (Zq rfl (QW.eql (.r rfl) .const) (Za rfl (Zn ?_)))
  refine J.cond (.r rfl) (fun c5=>?_) (fun c5=>?_)
  · skip
    have k3:vk=3:=by simpa using c5
    exact Zs (Zd Xi rfl (Zl 0 U0 rfl (Za rfl (Zq rfl (QW.assign .const) (Zn (J.ret (blkQ.r (thenQ.r (Zr [.k] (Qs rfl (REv.tmp rfl lr) (REv.tmp rfl lr)) rfl ⟨congrArg (fun r=>Wi.ret (Kr r)) (CC he (wk_3 k0 k1 k2 k3)).symm,rfl⟩)))))))))
  have k3:¬vk=3:=by simpa using c5
  exact J.skip (blkQ.n (thenQ.n (Zs (Zq rfl (QW.assign .const) (Zq rfl (QW.assign .const) (Zn (J.ret (Zr [.k] (Qs rfl (REv.tmp rfl lr) (REv.tmp rfl lr)) rfl ⟨congrArg (fun r=>Wi.ret (Kr r)) (CC he (wk_n k0 k1 k2 k3)).symm,rfl⟩))))))))

end
section
/- Walks: the renderer: what it reckons; words. -/
set_option maxRecDepth 10000
set_option maxHeartbeats 4000000
theorem RJ{e:EX}{s:ScT}{f:Int}{b:Nat}{fr:Bool}(hw:e.wf)(hf:e.Fine)(hs:s.good)(h0:Hf f):
    AC Tryz.prog 126 [mb b s f] [pb b,.agg (e.cs fr)] (EvS (e.ev s f) b s):=by
  obtain⟨⟨v,g,c⟩,hR⟩:∃p,MG e s f=p:=⟨_,rfl⟩
  have hrun:=hR▸run_ok (fr:=fr) Xc.self hw hf hs h0
  refine AC.of_J Tryz.func126 rfl Tryz.ntmps126 rfl fun w0 A0=>?_
  refine Zs (Qp (.r rfl) rfl fun b3=>JL.alloc Yf rfl rfl fun b4=>Zn (J.seq (QO mixed (Zo 0 1 [] rfl (fun _ ho_=>by first|exact Qd 1 Q7 (.r rfl) ho_ rfl rfl|exact Qd 1 Q7 (.r rfl) ho_ (Qm xl rfl) xl) ?_))))
  refine Zf 1 [] rfl (fun _=>QW.move (.r rfl)) (Zf 2 [10] rfl (fun _=>W8 (.r rfl)) (Zf 3 [11] rfl (fun _=>Qf Lv (.r rfl) rfl) (Zo 4 2 [12] rfl (fun _ ho_=>Qd 2 ty120 (.r rfl) ho_ B0 (Mv _)) (Zf 5 [] rfl (fun _=>QW.move (.r rfl)) (Zf 6 [14] rfl (fun _=>W8 (.r rfl)) (Zf 7 [15] rfl (fun _=>Qf Ci (.r rfl) rfl) (Zo 8 2 [16] rfl (fun _ ho_=>Qe 2 UB (.r rfl) ho_ NR) (Zf 9 [9,13,17] rfl (fun _=>QW.call QaO (.cons (.r rfl) (.cons (.r rfl) (.cons (.r rfl) .nil))) (hrun)) (Zf 10 [18] rfl (fun _=>QW.move (.r rfl)) ?_)))))))))
  refine Zf 11 [8] rfl (fun _=>QW.extract (.r rfl) rfl) (Zf 12 [8] rfl (fun _=>QW.extract (.r rfl) rfl) (Zf 13 [8] rfl (fun _=>QW.extract (.r rfl) rfl) (JX.a 14 rfl (AllocOp.mk Yf rfl) rfl rfl rfl rfl rfl (JX.one 15 [true,false,false,true,true,true,true,true,true,true,true,true,true,true,true] rfl (by kernel_rfl) (by kernel_rfl) rfl rfl (by kernel_rfl) rfl fun bs15_ pe_ ex_=>?_))))
  refine JL.conv (by(try simp only[Uc,Ui,Q5,QR,Flt.val,Flt.bx,nx,nl,Qj,Qv,Qw,Qu,QY,AV.cellsOf,Qb,Qc,Nat.reduceAdd]);rfl) ?_
  first|refine Qa 3 Ql (.r rfl) rfl (.r rfl) (by first|rfl|assumption) rfl rfl rfl ?_|refine Qa 3 Ql (.r rfl) rfl (.r rfl) (by first|rfl|assumption) rfl vl rfl ?_|refine Qa 3 Ql (.r rfl) rfl (.r rfl) (by first|rfl|assumption) vl rfl rfl ?_|refine Qa 3 Ql (.r rfl) rfl (.r rfl) (by first|rfl|assumption) vl vl rfl ?_|refine JL.store_box 3 Ql (.r rfl) rfl (.r rfl) (by first|rfl|assumption) rfl rfl rfl rfl ?_|refine JL.store_box 3 Ql (.r rfl) rfl (.r rfl) (by first|rfl|assumption) vl rfl rfl rfl ?_
  refine JL.nil ?_
  refine thenQ.n ⟨[],_,rfl,rfl,rfl,rfl,rfl,QK 4 rfl,trivial,⟨trivial,⟨trivial,trivial⟩⟩,?_⟩
  refine JX.conv (S':=[15,14,11,10,9,8,7,6,5,4,3,2,1,0]) rfl (by(try simp only[QR]);rfl) (by(try simp only[Uc,Ui,Q5,QR,Flt.val,Flt.bx,nx,nl,Qj,Qv,Qw,Qu,QY,AV.cellsOf,Qb,Qc,Nat.reduceAdd]);rfl) ?_
  refine Zf 16 [20] rfl (fun _=>QW.assign (.r rfl)) (Zf 17 [21] rfl (fun _=>QW.assign (.r rfl)) (JX.fin (by kernel_rfl) (by kernel_rfl) fun bs_=>?_))
  refine QX.conv (by(try simp only[Uc,Ui,Q5,QR,Flt.val,Flt.bx,nx,nl,Qj,Qv,Qw,Qu,QY,AV.cellsOf,Qb,Qc,Nat.reduceAdd]);rfl) ?_
  refine thenQ.n (Zs (Zm rfl ?_))
  refine Qn [] Gm rfl Lent.nil (fun _=>(.cons (.r rfl) .nil)) (Y9 _) (.inl rfl) (fun k23 x23 o23 h23=>?_) (fun k23=>?_)
  rotate_left
  · skip
    refine thenQ.p ?_
    exact⟨_,QG [.k,.k,.k,.k] _,_,rfl,rfl,Qk [.k,.k,.k,.k] _,EvS.er (SB hR k23) k23⟩
  obtain⟨rfl,rfl⟩:=h23
  refine Zn (J.seq ?_)
  obtain rfl:c=0:=k23
  have hv:=Bv (Wb e s f hf) hR
  refine Qg (Zm rfl (Zm rfl (Zu rfl (Zd Ci rfl (JL.store_box 2 UB (.r rfl) rfl (.r rfl) rfl rfl (by rw[Gj];rfl) EF rfl ?_)))))
  refine Zn (Zs (Zq rfl (by first|exact Qd 3 Ql (.r rfl) rfl rfl rfl|exact Qd 3 Ql (.r rfl) rfl (Qm vl rfl) vl) ?_))
  first|refine Qa 0 Ql (.r rfl) rfl (.r rfl) (by first|rfl|assumption) rfl rfl rfl ?_|refine Qa 0 Ql (.r rfl) rfl (.r rfl) (by first|rfl|assumption) rfl vl rfl ?_|refine Qa 0 Ql (.r rfl) rfl (.r rfl) (by first|rfl|assumption) vl rfl rfl ?_|refine Qa 0 Ql (.r rfl) rfl (.r rfl) (by first|rfl|assumption) vl vl rfl ?_|refine JL.store_box 0 Ql (.r rfl) rfl (.r rfl) (by first|rfl|assumption) rfl rfl rfl rfl ?_|refine JL.store_box 0 Ql (.r rfl) rfl (.r rfl) (by first|rfl|assumption) vl rfl rfl rfl ?_
  exact Zn (J.ret (Zr [.k,.k,.p,.k] (RetEv.one rfl (by first|exact REv.cell 0 Ql rfl rfl rfl rfl lr|exact REv.cell 0 Ql rfl rfl (Qm vl rfl) vl lr)) rfl (EvS.ok hv)))
def WdS(r:ER QM)(b:Nat)(s:ScT):Wi→List Own→Prop:=PanR (Xk r=0) (WS (Xk r)) fun x o=>∃v f',r=.ok (v,f')∧x=.c (Q4 v)∧o=[mb b s f']
theorem WdS.ok{r:ER QM}{b:Nat}{s:ScT}{v:QM}{f':Int}(h:r=.ok (v,f')):WdS r b s (.ret (.c (Q4 v))) [mb b s f']:=.inl ⟨by rw[h];rfl,_,rfl,v,f',h,rfl,rfl⟩
theorem WdS.er{r:ER QM}{b:Nat}{s:ScT}{c:Int}(h:r=.error c)(hc:¬c=0):WdS r b s (.pan (.iface 47 (.int .i64 c))) []:=.inr ⟨by rw[h];exact hc,by rw[h];rfl,rfl⟩
theorem F6{r:ER V}{c:Int}(h:r=.error c):WK r=.error c:=by rw[h];rfl
theorem F5{r:ER V}{v:V}{f:Int}(h:r=.ok (v,f))(h2:¬(Xl v).2=0):WK r=.error (Xl v).2:=by rw[h];exact if_neg h2
theorem CD{r:ER V}{v:V}{f:Int}(h:r=.ok (v,f))(h2:(Xl v).2=0):WK r=.ok ((Xl v).1,f):=by rw[h];exact if_pos h2
theorem Hg{e:EX}{s:ScT}{f:Int}{b:Nat}{fr:Bool}(hw:e.wf)(hf:e.Fine)(hs:s.good)(h0:Hf f):
    AC Tryz.prog 82 [mb b s f] [pb b,.agg (e.cs fr)] (WdS (WK (e.ev s f)) b s):=by
  refine AC.of_J Tryz.func82 rfl Tryz.ntmps82 rfl fun w0 A0=>?_
  refine Zs (Qp (.r rfl) rfl fun b3=>Zq rfl (QW.assign .const) (Zn (Zs (Zm rfl (Zq rfl (by first|exact Qd 0 Q7 (.r rfl) rfl rfl rfl|exact Qd 0 Q7 (.r rfl) rfl (Qm xl rfl) xl) ?_)))))
  refine Qn [.k,.p] E9 rfl Lent.nil (fun _=>(.cons (.r rfl) (.cons (.r rfl) .nil))) (RJ (fr:=fr) hw hf hs h0) (.inl rfl) (fun k10 x10 o10 h10=>?_) (fun k10=>?_)
  rotate_left
  · skip
    refine thenQ.p ?_
    exact⟨_,QG [.k] _,_,rfl,rfl,Qk [.k] _,WdS.er (F6 (UN k10)) k10⟩
  obtain⟨v10,f10,hv10,rfl,rfl⟩:=h10
  obtain⟨hgv,hfv⟩:=HD hw hf hs h0 hv10
  refine Zq rfl (QW.call gofn16 (.cons (.r rfl) .nil) (F8 (fr:=true) (v:=v10) hgv.wf)) (Zm rfl (Zx rfl (Zx rfl (Za rfl (Za rfl (Zn (Zs (Zm rfl ?_))))))))
  refine Qn [] Gm rfl Lent.nil (fun _=>(.cons (.r rfl) .nil)) (Y9 _) (.inl rfl) (fun k15 x15 o15 h15=>?_) (fun k15=>?_)
  rotate_left
  · skip
    refine thenQ.p ?_
    exact⟨_,QG [.k,.k] _,_,rfl,rfl,Qk [.k,.k] _,WdS.er (F5 hv10 k15) k15⟩
  obtain⟨rfl,rfl⟩:=h15
  exact Zn (Zs (Zm rfl (Za rfl (Zn (J.ret (Zr [.k,.p] (RetEv.one rfl (REv.tmp rfl lr)) rfl (WdS.ok (CD hv10 k15))))))))

end
section
/- Walks: the renderer: kids, from the parts. -/
set_option maxRecDepth 10000
set_option maxHeartbeats 4000000
def okQ(f:Int):Prop:=0≤f∧f≤4096
theorem okQ.F{f:Int}(h:okQ f):Hf f:=⟨h.1,Int.le_trans h.2 (by decide)⟩
def VkS(r:ER (List TrT))(b:Nat)(s:ScT):Wi→List Own→Prop:=PanR (Xk r=0) (WS (Xk r)) fun x o=>∃l f',r=.ok (l,f')∧x=.sl true false eTr (TrT.css true l)∧o=[mb b s f']
theorem VkS.ok{r:ER (List TrT)}{b:Nat}{s:ScT}{l:List TrT}{f':Int}(h:r=.ok (l,f')):VkS r b s (.ret (.sl true false eTr (TrT.css true l))) [mb b s f']:=.inl ⟨by rw[h];rfl,_,rfl,l,f',h,rfl,rfl⟩
theorem VkS.er{r:ER (List TrT)}{b:Nat}{s:ScT}{c:Int}(h:r=.error c)(hc:¬c=0):VkS r b s (.pan (.iface 47 (.int .i64 c))) []:=.inr ⟨by rw[h];exact hc,by rw[h];rfl,rfl⟩
def VeS(r:ER TrT)(b:Nat)(s:ScT):Wi→List Own→Prop:=PanR (Xk r=0) (WS (Xk r)) fun x o=>∃y f',r=.ok (y,f')∧x=.agg (y.cs true)∧o=[mb b s f']
theorem VeS.ok{r:ER TrT}{b:Nat}{s:ScT}{y:TrT}{f':Int}(h:r=.ok (y,f')):VeS r b s (.ret (.agg (y.cs true))) [mb b s f']:=.inl ⟨by rw[h];rfl,_,rfl,y,f',h,rfl,rfl⟩
theorem VeS.er{r:ER TrT}{b:Nat}{s:ScT}{c:Int}(h:r=.error c)(hc:¬c=0):VeS r b s (.pan (.iface 47 (.int .i64 c))) []:=.inr ⟨by rw[h];exact hc,by rw[h];rfl,rfl⟩
def Rv(n:Nat):Prop:=∀(t:TmT) (s:ScT) (f:Int) (b:Nat) (fr:Bool),t.sz≤n→t.wf→t.Fine→s.good→okQ f→AC Tryz.prog 130 [mb b s f] [pb b,.agg (t.cs fr)] (VkS (t.partE s f) b s)
def YE(ts:List TrT):ER (List TrT)→ER (List TrT)
  |.error c=>.error c
  |.ok (l,f)=>.ok (ts++l,f)
theorem Na(r:ER (List TrT)):r=YE [] r:=by rcases r with c|⟨l,f⟩<;>rfl
theorem Fh{s:ScT}{ts:List TrT}{g:Int}:YE ts (Qy [] s g)=.ok (ts,g):=by rw[Qy];simp[YE]
theorem Fg{l:List TmT}{s:ScT}{j:Nat}{ts a:List TrT}{g f1:Int}(hj:j<l.length)(h:l[j].partE s g=.ok (a,f1)):YE ts (Qy (l.drop j) s g)=YE (ts++a) (Qy (l.drop (j+1)) s f1):=by
  rw[List.drop_eq_getElem_cons hj,Qy,h]
  show YE ts (Uh (Qy (l.drop (j+1)) s f1) fun b f2=>.ok (a++b,f2))=_
  rcases Qy (l.drop (j+1)) s f1 with c|⟨b,f2⟩
  · rfl
  · simp[YE,Uh]
theorem B7{l:List TmT}{s:ScT}{j:Nat}{ts:List TrT}{g c:Int}(hj:j<l.length)(h:l[j].partE s g=.error c):YE ts (Qy (l.drop j) s g)=.error c:=by
  rw[List.drop_eq_getElem_cons hj,Qy,h];rfl
theorem LI{n:Nat}(ih:Rv n){l:List TmT}{s:ScT}{f:Int}{b:Nat}{fr:Bool}(h16:l.length≤16)(hn:∀x∈l,x.sz≤n)(hw:∀x∈l,x.wf)(hf:∀x∈l,x.Fine)(hs:s.good)(h0:okQ f):
    AC Tryz.prog 87 [mb b s f] [pb b,.sl fr false eTm (TmT.css fr l)] (VkS (Qy l s f) b s):=by
  refine AC.of_J Tryz.func87 rfl Tryz.ntmps87 rfl fun w0 A0=>?_
  refine Zs (Zq rfl (QW.assign .const) (Zn (J.seq (Zs (Zm rfl (Zq rfl (by first|exact Qh Xb (.r rfl) wl|exact Qh Xb (.r rfl) (TmT.css_length _ _)|exact Qh Xb (.r rfl) (SetT.css_length _ _)|exact Qh Xb (.r rfl) (TrT.css_length _ _)|exact QC Xb (.r rfl)|exact QW.len_nil Xb (.r rfl)) ?_))))))
  refine Zq rfl (QW.move .const) (Zn (J.block (J.reown (Ur eTr _) (Ub (ι:=Nat×Value×List TrT×Int) [0,7,8] (fun⟨j,v,ts,g⟩=>[(9,.c (.int .i64 (j:Int))),(4,.c v)]) (fun⟨j,v,ts,g⟩ oo=>List.set (List.set oo 1 (.arr v eTr (TrT.css true ts))) 0 (mb b s g)) (fun⟨j,v,ts,g⟩=>j≤l.length∧(ts.length:Int)+g≤f∧okQ g∧Qy l s f=YE ts (Qy (l.drop j) s g)) (fun⟨j,v,ts,g⟩=>l.length-j) ⟨0,.slice none 0 0,[],f⟩ (⟨Nat.zero_le _,by show((0:Nat):Int)+f≤f;omega,h0,Na _⟩) (QT (.cons rfl lr (.cons rfl lr (.cons rfl lr (.cons rfl lr (.cons rfl lr .nil))))) (Reown.refl _) (fun _ h=>by first|exact h|simp[h])) ?_))))
  intro⟨j,v,ts,g⟩ ⟨hj,hts,hg,hk⟩
  refine J.conv (by(try simp only[nl,Qj,Qv,Qw,Qu,QY,AV.cellsOf,Qb,Qc,Nat.reduceAdd]);rfl) ?_
  refine Zs (Zq rfl (QW.lss (.r rfl) (.r rfl)) (Zn (J.seq ?_)))
  refine J.cond (.r rfl) (fun c1=>?_) (fun c1=>?_)
  · skip
    have hlt:j<l.length:=by simpa[TmT.css_length]using c1
    refine Zk (J.seq (J.block (Zs (Zq rfl (Qi Xb UR rfl (.r rfl) (.r rfl) (by first|rfl|omega|(simp;done)) (by exact TmT.css_getE _ hlt)) ?_))))
    refine Zq rfl (by first|exact Qo UR (.r rfl) rfl rfl|exact Qo UR (.r rfl) (QJ (TmT.cs_length _ _) rfl) (TmT.cs_length _ _)) ?_
    refine JL.alloc z40 rfl rfl fun b6=>?_
    first|refine Qa 0 UR (.r rfl) rfl (.r rfl) (by first|rfl|assumption) rfl rfl rfl ?_|refine Qa 0 UR (.r rfl) rfl (.r rfl) (by first|rfl|assumption) rfl (TmT.cs_length _ _) rfl ?_|refine Qa 0 UR (.r rfl) rfl (.r rfl) (by first|rfl|assumption) (TmT.cs_length _ _) rfl rfl ?_|refine Qa 0 UR (.r rfl) rfl (.r rfl) (by first|rfl|assumption) (TmT.cs_length _ _) (TmT.cs_length _ _) rfl ?_|refine JL.store_box 0 UR (.r rfl) rfl (.r rfl) (by first|rfl|assumption) rfl rfl rfl rfl ?_|refine JL.store_box 0 UR (.r rfl) rfl (.r rfl) (by first|rfl|assumption) (TmT.cs_length _ _) rfl rfl rfl ?_
    refine Zn (Qg (Zm rfl (Zm rfl (Zq rfl (by first|exact Qd 0 UR (.r rfl) rfl rfl rfl|exact Qd 0 UR (.r rfl) rfl (Qm (TmT.cs_length _ _) rfl) (TmT.cs_length _ _)) ?_))))
    refine Qn [.k,.p] QaU rfl Lent.nil (fun _=>(.cons (.r rfl) (.cons (.r rfl) .nil))) (ih l[j] s g b fr (hn _ (List.getElem_mem hlt)) (hw _ (List.getElem_mem hlt)) (hf _ (List.getElem_mem hlt)) hs hg) (.inl rfl) (fun k16 x16 o16 h16=>?_) (fun k16=>?_)
    rotate_left
    · skip
      refine blkQ.p (thenQ.p (thenQ.p (blkQ.p (thenQ.p ?_))))
      exact⟨_,QG [.k,.k] _,_,rfl,rfl,Qk [.k,.k] _,VkS.er (hk.trans (B7 hlt (UN k16))) k16⟩
    obtain⟨v16,f16,hv16,rfl,rfl⟩:=h16
    obtain⟨-,hlv,hf0⟩:=K7 _ (hf _ (List.getElem_mem hlt)) (hw _ (List.getElem_mem hlt)) hs hg.1 hg.2 _ _ hv16
    refine JL.append 2 Uw Qbd rfl (.r rfl) rfl (Ww Uw (.r rfl)) (by rw[TrT.css_length,TrT.css_length];show(_+_)*96≤_;unfold Qr;have:=h0.2;omega) rfl fun v17=>?_
    refine Za rfl (JL.nil (blkQ.n (thenQ.n (Qg (Zq rfl (QW.add (.r rfl) .const (by first|exact Wl (by first|rfl|omega|(simp;done)) (by omega)|exact YZ (by omega)|rfl)) ?_)))))
    refine Zm rfl (Zn ?_)
    rw[← TrT.css_append]
    exact⟨⟨j+1,v17,ts++v16,f16⟩,⟨hlt,by simp;omega,⟨hf0,by have:=hg.2;omega⟩,hk.trans (Fg hlt hv16)⟩,by show l.length-(j+1)<l.length-j;omega,QT (.cons rfl lr (.cons rfl lr (.cons rfl lr (.cons rfl lr (.cons rfl lr .nil))))) (Q3 1 _ rfl) (fun _ h=>by first|exact h|simp[h])⟩
  have hge:l.length≤j:=by simpa[TmT.css_length]using c1
  rw[List.drop_of_length_le hge,Fh]at hk
  refine J.exit (Qz (Qz (Q1 (thenQ.n (J.seq (J.closeArr 1 rfl (by rw[TrT.css_length];show _*96≤_;unfold Qr;have:=h0.2;have:=hg.1;omega) rfl (fun z hz=>by simp only[mb,QS,UW,Own.fp,List.append_nil,List.mem_singleton]at hz;subst hz;simp[mb,QS,Own.fp]) ?_))))))
  exact Qg (Zm rfl (Za rfl (Zn (J.ret (Zr [.p] (RetEv.one rfl (REv.tmp rfl (.fact (by simp) lr))) rfl (VkS.ok hk))))))

end
section
/- The sort of attributes by their names, by the kit's contract of slices.SortFunc. -/
set_option maxRecDepth 10000
set_option maxHeartbeats 4000000
open Go.Shelf Go.Lib Go.Sort
def RR:Go.Shelf.Ren:=⟨fun|6=>84|15=>128|14=>127|28=>178|29=>179|20=>170|21=>171|22=>172|23=>173|24=>174|25=>175|26=>176|27=>177|46=>211|47=>212|48=>213|49=>214|50=>215|57=>237|n=>n,fun|22=>43|24=>191|25=>194|3=>3|39=>247|0=>0|53=>289|55=>22|4=>4|46=>282|45=>281|50=>286|5=>5|9=>9|66=>312|70=>136|76=>333|77=>137|n=>n,fun|n=>n⟩
theorem Eo:Go.Proofs.SlLaysF0.n6 Tryz.prog RR:={
  mixed:=by kernel_rfl
  f6:=⟨Tryz.f84.name,by decide,Tryz.func84.trans (congrArg some (by kernel_rfl))⟩
  f14:=⟨Tryz.f127.name,by decide,Tryz.func127.trans (congrArg some (by kernel_rfl))⟩
  f15:=Tryz.func128.trans (congrArg some (by kernel_rfl))
  f20:=⟨Tryz.f170.name,by decide,Tryz.func170.trans (congrArg some (by kernel_rfl))⟩
  f21:=⟨Tryz.f171.name,by decide,Tryz.func171.trans (congrArg some (by kernel_rfl))⟩
  f22:=⟨Tryz.f172.name,by decide,Tryz.func172.trans (congrArg some (by kernel_rfl))⟩
  f23:=⟨Tryz.f173.name,by decide,Tryz.func173.trans (congrArg some (by kernel_rfl))⟩
  f24:=⟨Tryz.f174.name,by decide,Tryz.func174.trans (congrArg some (by kernel_rfl))⟩
  f25:=⟨Tryz.f175.name,by decide,Tryz.func175.trans (congrArg some (by kernel_rfl))⟩
  f26:=⟨Tryz.f176.name,by decide,Tryz.func176.trans (congrArg some (by kernel_rfl))⟩
  f27:=⟨Tryz.f177.name,by decide,Tryz.func177.trans (congrArg some (by kernel_rfl))⟩
  f28:=Tryz.func178.trans (congrArg some (by kernel_rfl))
  f29:=Tryz.func179.trans (congrArg some (by kernel_rfl))
  f46:=⟨Tryz.f211.name,by decide,Tryz.func211.trans (congrArg some (by kernel_rfl))⟩
  f47:=Tryz.func212.trans (congrArg some (by kernel_rfl))
  f48:=Tryz.func213.trans (congrArg some (by kernel_rfl))
  f49:=⟨Tryz.f214.name,by decide,Tryz.func214.trans (congrArg some (by kernel_rfl))⟩
  f50:=⟨Tryz.f215.name,by decide,Tryz.func215.trans (congrArg some (by kernel_rfl))⟩
  f57:=⟨Tryz.f237.name,by decide,Tryz.func237.trans (congrArg some (by kernel_rfl))⟩
  t0:=Tryz.underlying0
  a0:=Tryz.isAgg0
  z0:=Tryz.sizeOf0
  v0:=Tryz.zeroValue0
  t3:=Tryz.underlying3
  a3:=Tryz.isAgg3
  z3:=Tryz.sizeOf3
  v3:=Tryz.zeroValue3
  t4:=Tryz.underlying4
  a4:=Tryz.isAgg4
  z4:=Tryz.sizeOf4
  v4:=Tryz.zeroValue4
  t5:=Tryz.underlying5
  a5:=Tryz.isAgg5
  z5:=Tryz.sizeOf5
  v5:=Tryz.zeroValue5
  t9:=Tryz.underlying9
  a9:=Tryz.isAgg9
  z9:=Tryz.sizeOf9
  v9:=Tryz.zeroValue9
  t22:=Tryz.underlying43
  a22:=Tryz.isAgg43
  z22:=Tryz.sizeOf43
  v22:=Tryz.zeroValue43
  t25:=Tryz.underlying194
  a25:=Tryz.isAgg194
  z25:=Tryz.sizeOf194
  v25:=Tryz.zeroValue194
  t39:=Tryz.underlying247
  a39:=Tryz.isAgg247
  z39:=Tryz.sizeOf247
  v39:=Tryz.zeroValue247
  t45:=Tryz.underlying281
  a45:=Tryz.isAgg281
  z45:=Tryz.sizeOf281
  v45:=Tryz.zeroValue281
  t46:=Tryz.underlying282
  a46:=Tryz.isAgg282
  z46:=Tryz.sizeOf282
  v46:=Tryz.zeroValue282
  t50:=Tryz.underlying286
  a50:=Tryz.isAgg286
  z50:=Tryz.sizeOf286
  v50:=Tryz.zeroValue286
  t53:=Tryz.underlying289
  a53:=Tryz.isAgg289
  z53:=Tryz.sizeOf289
  v53:=Tryz.zeroValue289
  t55:=Tryz.underlying22
  a55:=Tryz.isAgg22
  z55:=Tryz.sizeOf22
  v55:=Tryz.zeroValue22
  t66:=Tryz.underlying312
  a66:=Tryz.isAgg312
  z66:=Tryz.sizeOf312
  v66:=Tryz.zeroValue312
  t70:=Tryz.underlying136
  a70:=Tryz.isAgg136
  z70:=Tryz.sizeOf136
  v70:=Tryz.zeroValue136
  t76:=Tryz.underlying333
  a76:=Tryz.isAgg333
  z76:=Tryz.sizeOf333
  v76:=Tryz.zeroValue333
  t77:=Tryz.underlying137
  a77:=Tryz.isAgg137
  z77:=Tryz.sizeOf137
  v77:=Tryz.zeroValue137}
theorem Do(x:ByteArray)(W:World):Calls Tryz.prog 129 #[.string x] W fun e w'=>e=.returned (.bool false)∧w'=W:=by
  go_enter Tryz.func129,Tryz.ntmps129
  go_wp2
  go_ret
  exact⟨by simp,rfl⟩
theorem DR(x y:ByteArray)(W:World):Calls Tryz.prog 86 #[.string x,.string y] W fun e w'=>e=.returned (.int .i64 (XO x.toList y.toList))∧w'=W:=by
  have hcon:=fun z W'=>Do z W'
  go_enter Tryz.func86,Tryz.ntmps86
  go_wp2_with (go_at_call 129;refine(hcon _ _).mono ?_;rintro e w' ⟨rfl,rfl⟩)
  all_goals go_ret
  all_goals (refine⟨?_,rfl⟩;unfold XO;rename_i h;first|(simp_all [WU];done)|(rcases GJ x.toList y.toList with k|k|k<;>simp_all [GK]))
theorem FH(a b c d:QM)(W:World):Calls Tryz.prog 85 #[.agg #[Q4 a,Q4 b],.agg #[Q4 c,Q4 d]] W fun e w'=>e=.returned (.int .i64 (XO a c))∧∃q os',w'=grow (W.drewN q) os':=by
  have hcon:=fun W'=>DR ⟨a.toArray⟩ ⟨c.toArray⟩ W'
  rw[Uu,Uu]at hcon
  generalize XO a c=r at hcon⊢
  go_enter Tryz.func85,Tryz.ntmps85
  go_wp2_with (go_at_call 86;refine(hcon _).mono ?_;rintro e w' ⟨rfl,rfl⟩)
  go_ret
  exact⟨rfl,0,_,by rw[alloc_eq_grow,alloc_eq_grow,grow_grow];rfl⟩
def Kl(a:AtT):List Value:=[Q4 a.name,Q4 a.value]
theorem S0(x y:AtT):ltOf (fun x y:AtT=>XO x.name y.name) x y=Op.bytesLess x.name y.name:=by
  unfold ltOf
  rw[Bool.eq_iff_iff,decide_eq_true_eq]
  exact cmpS_lt
theorem swoAt:SWO (ltOf fun x y:AtT=>XO x.name y.name) where
  irrefl x:=by rw[S0];exact GK _
  trans x y z h1 h2:=by rw[S0]at*;exact W3 h1 h2
  ntrans x y z h1 h2:=by
    rw[S0]at*
    cases h3:Op.bytesLess x.name z.name with
    |false=>rfl
    |true=>
      rcases GJ x.name y.name with k|k|k
      · rw[h1]at k;cases k
      · rw[← k,h3]at h2;cases h2
      · have:=W3 k h3;rw[h2]at this;cases this
instance:Inhabited AtT:=⟨⟨[],[]⟩⟩
theorem Cr(a:AtT)(k:Nat):((Kl a)[k%2]!).oneCell'=true:=by
  rcases Nat.mod_two_eq_zero_or_one k with h|h<;>rw[h]<;>rfl
theorem Ri:∀(l:List AtT) (t:Nat),t<l.length*2→(AtT.css l).flatten[t]? =some (.c ((Kl l[t / 2]!)[t%2]!))
  |a::r,0,_=>rfl
  |a::r,1,_=>rfl
  |a::r,t+2,h=>by
    have h1:=Ri r t (by simp only[List.length_cons]at h;omega)
    have h2:(t+2) / 2=t / 2+1:=by omega
    rw[h2,Nat.add_mod_right]
    show(a.cs++(AtT.css r).flatten)[t+2]? =_
    rw[List.getElem?_append_right (by show 2≤t+2;omega)]
    show(AtT.css r).flatten[t+2-2]? =_
    rw[Nat.add_sub_cancel,h1]
    rfl
theorem Px(l:List AtT):(AtT.css l).flatten.length=l.length*2:=by
  induction l with
  |nil=>rfl
  |cons a r ih=>
    show(a.cs++(AtT.css r).flatten).length=_
    rw[List.length_append,ih,List.length_cons]
    show 2+r.length*2=_
    omega
theorem Hp.more{n0:Nat}{fp0:List Nat}{A0 A:QV}{own:List Own}{w w':World}(h:Hp n0 fp0 A0 own w A)(hk:Keep [] w w'):Hp n0 fp0 A0 own w' A:=
  ⟨h.mono,h.sup,h.sub,fun fr b hb=>Nat.lt_of_lt_of_le (h.lt fr b hb) hk.size,fun b hb=>let ⟨h1,h2,h3⟩:=h.fp b hb;⟨Nat.lt_of_lt_of_le h1 hk.size,h2,h3⟩,h.nodup,fun o ho=>
    (h.own o ho).move (fun _ _ h _=>h) (fun fr b _ hlt=>hk.block b hlt (by simp)) fun b hb=>hk.block b (h.fp b (Us ho hb)).1 (by simp)⟩
theorem Bo{l:List AtT}(hl:l.length*32≤Qr)(v:Value):AC Tryz.prog 84 [.arr v DP (AtT.css l)] [.c v,.c (.func (.func 85) #[] #[])] (YX fun x o=>x=.tup []∧∃l',l.Perm l'∧F1 l'∧o=[.arr v DP (AtT.css l')]):=fun w A0 vs hp hargs=>by
  obtain⟨hsz,hrd⟩:=hargs
  have h0:=(hrd 0 _ rfl).eq
  have h1:=(hrd 1 _ rfl).eq
  obtain rfl:vs= #[v,.func (.func 85) #[] #[]]:=by
    apply Array.ext_getElem?
    intro i
    match i with
    |0=>rw[Array.getD_eq_getD_getElem?]at h0;rw[Array.getElem?_eq_getElem (by simp at hsz;omega)]at h0⊢;simpa using h0
    |1=>rw[Array.getD_eq_getD_getElem?]at h1;rw[Array.getElem?_eq_getElem (by simp at hsz;omega)]at h1⊢;simpa using h1
    |i+2=>rw[Array.getElem?_eq_none (by simp at hsz;omega),Array.getElem?_eq_none (by simp)]
  have hok:=hp.own _ (List.mem_cons_self)
  simp only[Own.ok]at hok
  by_cases hl0:l=[]
  · subst hl0
    obtain⟨a,c,rfl⟩:∃a c,v=.slice a 0 c:=by
      rcases hok with ⟨a,rfl,-⟩|⟨b,cap,us,t,rfl,-⟩
      · exact⟨_,_,rfl⟩
      · exact⟨_,_,rfl⟩
    refine(AnyF.slices_SortFunc_none Eo a c (.func (.func 85) #[] #[]) w).mono fun e w' ⟨he,hw⟩=>?_
    subst he hw
    exact⟨.ret (.tup []),_,A0,⟨_,rfl,rfl,[],.refl _,List.Pairwise.nil,rfl⟩,.refl _ _,hp,⟨_,rfl,.mk_tup rfl fun k y hk=>by cases hk⟩⟩
  rcases hok with ⟨a,rfl,hnil⟩|⟨b,cap,us,t,rfl,hb,hle,hrow,hel,hc⟩
  · exact absurd (by simpa[AtT.css]using hnil) hl0
  · have hlen:(AtT.css l).length=l.length:=AtT.css_length l
    have hn:l.length*2≤us.size:=by rw[hrow.size];show _≤(cap+1)*2;rw[hlen]at hle;omega
    have hlt:=X4 hb
    have hH:HoldsK Kl 2 w b 0 l.toArray:=fun j hj=>by
      have hj2:j<l.length*2:=by simpa using hj
      obtain⟨u,g1,g2,g3⟩:=hc j _ (Ri l j hj2)
      have hu:=g3.eq
      rw[get_flatK Kl 2 l.toArray j (by simpa using hj2)]
      refine⟨?_,by simp[World.frozen?,hb]⟩
      rw[Kg hb,g1,hu]
      simp
    have hcall:=AnyQ.slices_SortFunc Eo 2 (fun w=>Y5 Ks) (fun w=>Up Ks) Kl (fun _=>rfl) (fun x v hv=>by simp[Kl]at hv;rcases hv with rfl|rfl<;>rfl) (fun x y=>XO x.name y.name) swoAt 85 #[] b 0 (cap+1) l.toArray w
      (enters_of Tryz.func85 (by kernel_rfl) rfl) (fun _ _ _ _ x y=>FH x.name x.value y.name y.value _) hH hlt (by simp;unfold Qr at hl;omega)
    rw[show l.toArray.size=(AtT.css l).length by simp[hlen]]at hcall
    refine hcall.mono fun e w' ⟨he,d',n,os,hpm,hst,hw⟩=>?_
    subst he hw
    obtain⟨p1,-,p3⟩:=hpm
    have hsz2:d'.size=l.length:=by simpa using p1
    have hpl:l.Perm d'.toList:=by
      have e1:d'.extract 0 (AtT.css l).length=d':=by rw[hlen,← hsz2];exact Array.extract_size
      have e2:l.toArray.extract 0 (AtT.css l).length=l.toArray:=by rw[hlen];simp
      rw[e1,e2]at p3
      simpa using p3.symm
    have hsrt:F1 d'.toList:=by
      unfold F1
      rw[List.pairwise_iff_getElem]
      intro i j hi hj hij
      have:=hst i j (Nat.zero_le _) hij (by rw[hlen,← hsz2];simpa using hj)
      rw[S0]at this
      simp only[Array.length_toList]at hi hj
      simpa[getElem!_pos d' i hi,getElem!_pos d' j hj]using this
    have hF:(flatK Kl 2 d').size=l.length*2:=by rw[size_flatK,hsz2]
    obtain⟨us',hus⟩:∃us',us'=putCells id 0 (flatK Kl 2 d') us:=⟨_,rfl⟩
    have hs':us'.size=us.size:=by rw[hus,putCells];simp
    have hget:∀k,k<us.size→us'[k]? =some (if k<l.length*2 then(Kl d'.toList[k / 2]!)[k%2]! else us[k]!):=fun k hk=>by
      rw[hus,putCells,Array.getElem?_mapIdx,Array.getElem?_eq_getElem hk]
      simp only[Option.map_some,Nat.zero_le,true_and,Nat.zero_add,hF,Nat.sub_zero,id]
      congr 1
      by_cases h:k<l.length*2
      · have hk2:k / 2<d'.size:=by omega
        rw[if_pos h,if_pos h,get_flatK Kl 2 d' k (by rw[hsz2];exact h),getElem!_pos d' _ hk2,getElem!_pos d'.toList _ (by simpa using hk2)]
        simp
      · rw[if_neg h,if_neg h,getElem!_pos us k hk]
    obtain⟨w1,hw1⟩:∃w1,w1=mapBlock (Go.Sort.ahead w n) b (putCells id 0 (flatK Kl 2 d')):=⟨_,rfl⟩
    have hb1:w1.heap[b]? =some (.cells us' t (0,0)):=by
      rw[hw1,hus]
      show(w.heap.modify b _)[b]? =_
      rw[Array.getElem?_modify,if_pos rfl,hb];rfl
    have hk1:Keep [b] w w1:=by
      rw[hw1]
      refine⟨rfl,rfl,rfl,by show _≤(w.heap.modify b _).size;simp,fun k _ hk=>?_⟩
      show(w.heap.modify b _)[k]? =_
      rw[Array.getElem?_modify,if_neg (by simpa using fun h=>hk (by simp[h]))]
    have hz1:w1.heap.size=w.heap.size:=by rw[hw1];show(w.heap.modify b _).size=_;simp
    have hlen2:(AtT.css d'.toList).length=l.length:=by rw[AtT.css_length];simpa using hsz2
    have hnew:(Own.arr (.slice (some ⟨b,0,none⟩) (AtT.css l).length (cap+1)) DP (AtT.css d'.toList)).ok w1 A0:=by
      simp only[Own.ok]
      refine .inr ⟨b,cap,us',t,by rw[hlen,hlen2],hb1,by rw[hlen2];rw[hlen]at hle;exact hle,⟨by rw[hs'];exact hrow.size,fun k u hu=>?_⟩,AtT.css_sz _,fun k y hk=>?_⟩
      · have hku:k<us.size:=by rw[← hs'];exact(Array.getElem?_eq_some_iff.1 hu).1
        rw[hget k hku]at hu
        cases hu
        split
        · exact Cr _ k
        · exact hrow.one k _ (by rw[getElem!_pos us k hku];exact Array.getElem?_eq_getElem hku)
      · have hkl:k<l.length*2:=by
          have:=(List.getElem?_eq_some_iff.1 hk).1
          rw[Px]at this
          simpa[hsz2]using this
        rw[Ri _ _ (by simpa[hsz2]using hkl)]at hk
        cases hk
        refine⟨_,by rw[Nat.zero_add];exact hget k (by omega),?_,?_⟩
        · rw[if_pos hkl];exact Cr _ k
        · rw[if_pos hkl];exact .c _
    have hfp:(Own.arr (.slice (some ⟨b,0,none⟩) (AtT.css l).length (cap+1)) DP (AtT.css l)).fp=[b]:=by
      rw[hlen]
      obtain⟨m,hm⟩:∃m,l.length=m+1:=⟨l.length-1,by have:=List.length_pos_iff.2 hl0;omega⟩
      rw[hm];rfl
    have hfps:UP [Own.arr (.slice (some ⟨b,0,none⟩) (AtT.css l).length (cap+1)) DP (AtT.css l)]=[b]:=by simp[QS,UW,hfp]
    have hp1:=hp.upd (i:=0) (o':=.arr (.slice (some ⟨b,0,none⟩) (AtT.css l).length (cap+1)) DP (AtT.css d'.toList)) rfl rfl (by rw[hfp];exact hk1) hz1 hnew
    have hk2:Keep [] w1 (grow w1 os):=⟨rfl,rfl,rfl,by rw[size_grow];omega,fun k hk _=>by show(w1.heap++os)[k]? =_;rw[Array.getElem?_append_left hk]⟩
    have hww:sortWorldK Kl 2 w b 0 n d' os=grow w1 os:=by rw[hw1];rfl
    rw[hww]
    exact⟨.ret (.tup []),_,A0,⟨_,rfl,rfl,d'.toList,hpl,hsrt,rfl⟩,(hfps▸hk1).trans hk2 (fun x hx=>by cases hx),hp1.more hk2,⟨_,rfl,.mk_tup rfl fun k y hk=>by cases hk⟩⟩

end
section
/- Walks: the renderer: an element. -/
set_option maxRecDepth 10000
set_option maxHeartbeats 4000000
def GL(ts:List AtT):ER (List AtT)→ER (List AtT)
  |.error c=>.error c
  |.ok (l,f)=>.ok (ts++l,f)
theorem Fj(r:ER (List AtT)):r=GL [] r:=by rcases r with c|⟨l,f⟩<;>rfl
theorem PU{s:ScT}{ts:List AtT}{g:Int}:GL ts (Ye s [] g)=.ok (ts,g):=by rw[Ye];simp[GL]
theorem PS{a:List SetT}{s:ScT}{j:Nat}{ts:List AtT}{g f1:Int}{w:QM}(hj:j<a.length)(h:WK (a[j].ex.ev s g)=.ok (w,f1)):GL ts (Ye s (a.drop j) g)=GL (ts++[⟨a[j].key,w⟩]) (Ye s (a.drop (j+1)) f1):=by
  rw[List.drop_eq_getElem_cons hj,Ye,h]
  show GL ts (Uh (Ye s (a.drop (j+1)) f1) fun b f2=>.ok (⟨a[j].key,w⟩::b,f2))=_
  rcases Ye s (a.drop (j+1)) f1 with c|⟨b,f2⟩
  · rfl
  · simp[GL,Uh]
theorem ats_bad{a:List SetT}{s:ScT}{j:Nat}{ts:List AtT}{g c:Int}(hj:j<a.length)(h:WK (a[j].ex.ev s g)=.error c):GL ts (Ye s (a.drop j) g)=.error c:=by
  rw[List.drop_eq_getElem_cons hj,Ye,h];rfl
section
variable {t:QM} {k:EX} {a:List SetT} {q:ScT→Int→ER (List TrT)} {s:ScT} {f f1 f2 f3 c:Int} {key:QM} {ats:List AtT} {ks:List TrT}
theorem elem_w(h:WK (k.ev s f)=.error c):Yq t k a q s f=.error c:=by rw[Yq,h];rfl
theorem elem_5(h:WK (k.ev s f)=.ok (key,f1))(h2:16<key.length):Yq t k a q s f=.error 5:=by rw[Yq,h];exact if_pos h2
theorem DO(h:WK (k.ev s f)=.ok (key,f1))(h2:¬16<key.length):Yq t k a q s f=Uh (Ye s a f1) fun ats f2=>Uh (q s f2) fun ks f3=>.ok (.mk t key [] (GB ats) ks,f3):=by rw[Yq,h];exact if_neg h2
theorem elem_a(h:WK (k.ev s f)=.ok (key,f1))(h2:¬16<key.length)(h3:Ye s a f1=.error c):Yq t k a q s f=.error c:=by rw[DO h h2,h3];rfl
theorem elem_k(h:WK (k.ev s f)=.ok (key,f1))(h2:¬16<key.length)(h3:Ye s a f1=.ok (ats,f2))(h4:q s f2=.error c):Yq t k a q s f=.error c:=by rw[DO h h2,h3];show Uh (q s f2) _=_;rw[h4];rfl
theorem elem_y(h:WK (k.ev s f)=.ok (key,f1))(h2:¬16<key.length)(h3:Ye s a f1=.ok (ats,f2))(h4:q s f2=.ok (ks,f3)):Yq t k a q s f=.ok (.mk t key [] (GB ats) ks,f3):=by rw[DO h h2,h3];show Uh (q s f2) _=_;rw[h4];rfl
end
theorem HM{n:Nat}(ih:Rv n){t:QM}{k x:EX}{a:List SetT}{l:List TmT}{s:ScT}{f:Int}{b:Nat}{fr:Bool}(hn:∀x∈l,x.sz≤n)(hw:(TmT.mk 1 t k x a l).wf)(hf:(TmT.mk 1 t k x a l).Fine)(hs:s.good)(h0:okQ f):
    AC Tryz.prog 45 [mb b s f] [pb b,.agg ((TmT.mk 1 t k x a l).cs fr)] (VeS (Yq t k a (fun s f=>Qy l s f) s f) b s):=by
  obtain⟨-,htw,hkw,hxw,haw,hws,hlw,hwl⟩:=hw.inv
  obtain⟨-,ha16,hl16,hkf,hxf,hsf,hlf⟩:=hf.inv
  obtain⟨-,-,-,hnd⟩:=Rj hf
  have hal:a.length≤9223372036854775805:=by omega
  refine AC.of_J Tryz.func45 rfl Tryz.ntmps45 rfl fun w0 A0=>?_
  refine Zs (Qp (.r rfl) rfl fun b3=>JL.alloc z46 rfl rfl fun b4=>Zn (J.seq (QO mixed (Zf 0 [] rfl (fun _=>Qf DF (.r rfl) rfl) (Zo 1 1 [8] rfl (fun _ ho_=>Qe 1 U0 (.r rfl) ho_ TmT.at1) (Zf 2 [] rfl (fun _=>QW.move (.r rfl)) (Zf 3 [] rfl (fun _=>Qf DE (.r rfl) rfl) ?_)))))))
  refine Zo 4 1 [11] rfl (fun _ ho_=>Qd 1 Q7 (.r rfl) ho_ LC xl) (JX.a 7 rfl (AllocOp.mk z46 rfl) rfl rfl rfl rfl rfl (JX.one 5 [false,true,true,true,false,false] rfl (by kernel_rfl) (by kernel_rfl) rfl rfl (by kernel_rfl) rfl fun bs5_ pe_ ex_=>?_))
  refine JL.conv (by(try simp only[Uc,Ui,Q5,QR,Flt.val,Flt.bx,nx,nl,Qj,Qv,Qw,Qu,QY,AV.cellsOf,Qb,Qc,Nat.reduceAdd]);rfl) ?_
  refine Qn [.k,.k,.p] DA rfl Lent.nil (fun _=>(.cons (.r rfl) (.cons (.r rfl) .nil))) (Hg (fr:=fr) (b:=b) hkw hkf hs h0.F) (.inl rfl) (fun k13 x13 o13 h13=>?_) (fun k13=>?_)
  rotate_left
  · skip
    refine thenQ.p (thenQ.p ?_)
    exact⟨_,QG [.k,.k] _,_,rfl,rfl,Qk [.k,.k] _,VeS.er (elem_w (UN k13)) k13⟩
  obtain⟨v13,f13,hv13,rfl,rfl⟩:=h13
  refine JL.nil ?_
  refine thenQ.n ⟨[_],_,rfl,rfl,rfl,rfl,rfl,U4 3 rfl rfl,⟨rfl,rfl⟩,⟨trivial,⟨rfl,⟨trivial,trivial⟩⟩⟩,?_⟩
  refine JX.conv (S':=[5,4,3,2]) rfl (by(try simp only[QR]);rfl) (by(try simp only[Uc,Ui,Q5,QR,Flt.val,Flt.bx,nx,nl,Qj,Qv,Qw,Qu,QY,AV.cellsOf,Qb,Qc,Nat.reduceAdd]);rfl) ?_
  refine Zf 6 [9,13] rfl (fun _=>QW.build (idx:=[0,1]) Dg z46 rfl (.cons (.r rfl) (.cons (.r rfl) .nil)) rfl rfl rfl rfl) (JX.one 8 [true,true,true,true] rfl (by kernel_rfl) (by kernel_rfl) rfl rfl (by kernel_rfl) rfl fun bs8_ pe_ ex_=>?_)
  refine JL.conv (by(try simp only[Uc,Ui,Q5,QR,Flt.val,Flt.bx,nx,nl,Qj,Qv,Qw,Qu,QY,AV.cellsOf,Qb,Qc,Nat.reduceAdd]);rfl) ?_
  first|refine Qa 3 QE (.r rfl) rfl (.r rfl) (by first|rfl|assumption) rfl rfl rfl ?_|refine Qa 3 QE (.r rfl) rfl (.r rfl) (by first|rfl|assumption) rfl (TrT.cs_length _ _) rfl ?_|refine Qa 3 QE (.r rfl) rfl (.r rfl) (by first|rfl|assumption) (TrT.cs_length _ _) rfl rfl ?_|refine Qa 3 QE (.r rfl) rfl (.r rfl) (by first|rfl|assumption) (TrT.cs_length _ _) (TrT.cs_length _ _) rfl ?_|refine JL.store_box 3 QE (.r rfl) rfl (.r rfl) (by first|rfl|assumption) rfl rfl rfl rfl ?_|refine JL.store_box 3 QE (.r rfl) rfl (.r rfl) (by first|rfl|assumption) (TrT.cs_length _ _) rfl rfl rfl ?_
  refine JL.nil ?_
  refine thenQ.n ⟨[],_,rfl,rfl,rfl,rfl,rfl,QK 4 rfl,trivial,trivial,?_⟩
  refine JX.conv (S':=[8,6,7,1,0,5,4,3,2]) rfl (by(try simp only[QR]);rfl) (by(try simp only[Uc,Ui,Q5,QR,Flt.val,Flt.bx,nx,nl,Qj,Qv,Qw,Qu,QY,AV.cellsOf,Qb,Qc,Nat.reduceAdd]);rfl) ?_
  refine JX.fin (by kernel_rfl) (by kernel_rfl) fun bs_=>?_
  refine QX.conv (by(try simp only[Uc,Ui,Q5,QR,Flt.val,Flt.bx,nx,nl,Qj,Qv,Qw,Qu,QY,AV.cellsOf,Qb,Qc,Nat.reduceAdd]);rfl) ?_
  refine thenQ.n (J.seq ?_)
  have hq:=XI hkf hkw hs hv13
  have hq13:okQ f13:=⟨hq.2.2,by have:=h0.2;omega⟩
  refine Qg (Zd Gq rfl (Zl 3 U0 rfl (Zq rfl (Wn RF (.r rfl)) (Zq rfl (QW.leq (.r rfl) .const) ?_))))
  refine Qn [] Hy rfl Lent.nil (fun _=>(.cons (.r rfl) (.cons .const .nil))) (XJ _ _) (.inl rfl) (fun k19 x19 o19 h19=>?_) (fun k19=>?_)
  rotate_left
  · skip
    refine thenQ.p ?_
    exact⟨_,QG [.k,.k,.k,.k] _,_,rfl,rfl,Qk [.k,.k,.k,.k] _,VeS.er (c:=5) (elem_5 hv13 (by simp at k19;omega)) (by decide)⟩
  obtain⟨rfl,rfl⟩:=h19
  refine Zn (J.seq (J.seq ?_))
  have h16:¬16<v13.length:=by simp at k19;omega
  refine Qg (Zd Gs rfl (Zq rfl (Qe 1 T5 (.r rfl) rfl YL) (Zq rfl (by first|exact Qh Yg (.r rfl) wl|exact Qh Yg (.r rfl) (TmT.css_length _ _)|exact Qh Yg (.r rfl) (SetT.css_length _ _)|exact Qh Yg (.r rfl) (TrT.css_length _ _)|exact Qh Yg (.r rfl) (AtT.css_length _)|exact QC Yg (.r rfl)|exact QW.len_nil Yg (.r rfl)) ?_)))
  refine Zq rfl (QW.move .const) (Zn (J.block (J.reown (Ur DP _) (Ub (ι:=Nat×Value×List AtT×Int) [0,3,4,5,21,22] (fun⟨j,v,ats,g⟩=>[(23,.c (.int .i64 (j:Int)))]) (fun⟨j,v,ats,g⟩ oo=>List.set (List.set (List.set oo 4 (.arr v DP (AtT.css ats))) 2 (mb b s g)) 3 (.box (bs8_ 7) [.c (Q4 t),.c (Q4 v13),.c (Q4 []),.c v,.c (.slice none 0 0)])) (fun⟨j,v,ats,g⟩=>j≤a.length∧ats.length=j∧okQ g∧Ye s a f13=GL ats (Ye s (a.drop j) g)) (fun⟨j,v,ats,g⟩=>a.length-j) ⟨0,.slice none 0 0,[],f13⟩ (⟨Nat.zero_le _,rfl,hq13,Fj _⟩) (QT (.cons rfl lr (.cons rfl lr (.cons rfl lr (.cons rfl lr (.cons rfl lr (.cons rfl lr (.cons rfl lr .nil))))))) (Reown.refl _) (fun _ h=>by first|exact h|simp[h])) ?_))))
  intro⟨j,v,ats,g⟩ ⟨hj,hjl,hg,hk⟩
  refine J.conv (by(try simp only[nl,Qj,Qv,Qw,Qu,QY,AV.cellsOf,Qb,Qc,Nat.reduceAdd]);rfl) ?_
  refine Zs (Zq rfl (QW.lss (.r rfl) (.r rfl)) (Zn (J.seq ?_)))
  refine J.cond (.r rfl) (fun c1=>?_) (fun c1=>?_)
  · skip
    have hlt:j<a.length:=by simpa[SetT.css_length,TmT.attrs]using c1
    refine Zk (J.seq (J.block (Zs (Zq rfl (Qi Yg U7 rfl (.r rfl) (.r rfl) (by first|rfl|omega|(simp;done)) (by exact SetT.css_getE _ hlt)) ?_))))
    refine Zq rfl (by first|exact Qo U7 (.r rfl) rfl rfl|exact Qo U7 (.r rfl) (QJ (SetT.cs_length _ _) rfl) (SetT.cs_length _ _)) ?_
    refine JL.alloc F2 rfl rfl fun b7=>?_
    first|refine Qa 0 U7 (.r rfl) rfl (.r rfl) (by first|rfl|assumption) rfl rfl rfl ?_|refine Qa 0 U7 (.r rfl) rfl (.r rfl) (by first|rfl|assumption) rfl (SetT.cs_length _ _) rfl ?_|refine Qa 0 U7 (.r rfl) rfl (.r rfl) (by first|rfl|assumption) (SetT.cs_length _ _) rfl rfl ?_|refine Qa 0 U7 (.r rfl) rfl (.r rfl) (by first|rfl|assumption) (SetT.cs_length _ _) (SetT.cs_length _ _) rfl ?_|refine JL.store_box 0 U7 (.r rfl) rfl (.r rfl) (by first|rfl|assumption) rfl rfl rfl rfl ?_|refine JL.store_box 0 U7 (.r rfl) rfl (.r rfl) (by first|rfl|assumption) (SetT.cs_length _ _) rfl rfl rfl ?_
    refine Zn (QO mixed (Zf 0 [] rfl (fun _=>Qf HA (.r rfl) rfl) (Zo 1 4 [27] rfl (fun _ ho_=>Qe 4 CM (.r rfl) ho_ rfl) (Zf 2 [] rfl (fun _=>Qf Lw (.r rfl) rfl) (Zo 3 0 [29] rfl (fun _ ho_=>Qe 0 U0 (.r rfl) ho_ rfl) (Zf 4 [] rfl (fun _=>QW.move (.r rfl)) (Zf 5 [] rfl (fun _=>Qf Cj (.r rfl) rfl) (Zo 6 0 [32] rfl (fun _ ho_=>Qd 0 Q7 (.r rfl) ho_ SetT.at1 xl) (JX.one 7 [true,true,true,false,false,false,false] rfl (by kernel_rfl) (by kernel_rfl) rfl rfl (by kernel_rfl) rfl fun bs7_ pe_ ex_=>?_)))))))))
    refine JL.conv (by(try simp only[Uc,Ui,Q5,QR,Flt.val,Flt.bx,nx,nl,Qj,Qv,Qw,Qu,QY,AV.cellsOf,Qb,Qc,Nat.reduceAdd]);rfl) ?_
    refine Qn [.k,.k,.k,.p] DA rfl Lent.nil (fun _=>(.cons (.r rfl) (.cons (.r rfl) .nil))) (Hg (fr:=fr) (b:=b) (hws _ (List.getElem_mem hlt)).ex (hsf _ (List.getElem_mem hlt)) hs hg.F) (.inl rfl) (fun k34 x34 o34 h34=>?_) (fun k34=>?_)
    rotate_left
    · skip
      refine thenQ.p (blkQ.p (thenQ.p (thenQ.p (blkQ.p (thenQ.p ?_)))))
      exact⟨_,QG [.k,.k,.k,.k,.k] _,_,rfl,rfl,Qk [.k,.k,.k,.k,.k] _,VeS.er (elem_a hv13 h16 (hk.trans (ats_bad hlt (UN k34)))) k34⟩
    obtain⟨v34,f34,hv34,rfl,rfl⟩:=h34
    refine JL.nil ?_
    refine thenQ.n ⟨[_],_,rfl,rfl,rfl,rfl,rfl,U4 6 rfl rfl,⟨rfl,rfl⟩,⟨rfl,⟨trivial,⟨rfl,⟨trivial,trivial⟩⟩⟩⟩,?_⟩
    refine JX.conv (S':=[7,6,5,4]) rfl (by(try simp only[QR]);rfl) (by(try simp only[Uc,Ui,Q5,QR,Flt.val,Flt.bx,nx,nl,Qj,Qv,Qw,Qu,QY,AV.cellsOf,Qb,Qc,Nat.reduceAdd]);rfl) ?_
    refine Zf 8 [30,34] rfl (fun _=>QW.build (idx:=[0,1]) pl191 z191 rfl (.cons (.r rfl) (.cons (.r rfl) .nil)) rfl rfl rfl rfl) (Zf 9 [35] rfl (fun _=>QW.buildSlice (idx:=[0]) (xs:=[AtT.cs ⟨a[j].key,v34⟩]) WN el191 z191 rfl (.cons (.r rfl) .nil) rfl rfl rfl rfl rfl rfl rfl rfl rfl) (JX.one 10 [true,true,true,true,true,true] rfl (by kernel_rfl) (by kernel_rfl) rfl rfl (by kernel_rfl) rfl fun bs10_ pe_ ex_=>?_))
    refine JL.conv (by(try simp only[Uc,Ui,Q5,QR,Flt.val,Flt.bx,nx,nl,Qj,Qv,Qw,Qu,QY,AV.cellsOf,Qb,Qc,Nat.reduceAdd]);rfl) ?_
    refine JL.append 5 WN el191 rfl (.r rfl) rfl (Ww WN (.r rfl)) (by rw[AtT.css_length];show(_+1)*32≤_;unfold Qr;omega) rfl fun v37=>?_
    refine JL.nil ?_
    refine thenQ.n ⟨[_],_,rfl,rfl,rfl,rfl,rfl,QK 6 rfl,⟨rfl,rfl⟩,trivial,?_⟩
    refine JX.conv (S':=[10,9,8,3,2,1,0,7,6,5,4]) rfl (by(try simp only[QR]);rfl) (by(try simp only[Uc,Ui,Q5,QR,Flt.val,Flt.bx,nx,nl,Qj,Qv,Qw,Qu,QY,AV.cellsOf,Qb,Qc,Nat.reduceAdd]);rfl) ?_
    refine Zf 11 [] rfl (fun _=>Qf HA (.r rfl) rfl) (JX.one 12 [true] rfl (by kernel_rfl) (by kernel_rfl) rfl rfl (by kernel_rfl) rfl fun bs12_ pe_ ex_=>?_)
    refine JL.conv (by(try simp only[Uc,Ui,Q5,QR,Flt.val,Flt.bx,nx,nl,Qj,Qv,Qw,Qu,QY,AV.cellsOf,Qb,Qc,Nat.reduceAdd]);rfl) ?_
    refine JL.isSlice 5 rfl fun hs1=>JL.store_box 4 CM (.r rfl) rfl (.r rfl) (by first|rfl|assumption) rfl rfl rfl rfl ?_
    refine JL.nil ?_
    refine thenQ.n ⟨[],_,rfl,rfl,rfl,rfl,rfl,QK 6 rfl,trivial,trivial,?_⟩
    refine JX.conv (S':=[12,11,10,9,8,3,2,1,0,7,6,5,4]) rfl (by(try simp only[QR]);rfl) (by(try simp only[Uc,Ui,Q5,QR,Flt.val,Flt.bx,nx,nl,Qj,Qv,Qw,Qu,QY,AV.cellsOf,Qb,Qc,Nat.reduceAdd]);rfl) ?_
    refine JX.fin (by kernel_rfl) (by kernel_rfl) fun bs_=>?_
    refine QX.conv (by(try simp only[Uc,Ui,Q5,QR,Flt.val,Flt.bx,nx,nl,Qj,Qv,Qw,Qu,QY,AV.cellsOf,Qb,Qc,Nat.reduceAdd]);rfl) ?_
    refine blkQ.n (thenQ.n (Qg (Zq rfl (QW.add (.r rfl) .const (by first|exact Wl (by first|rfl|omega|(simp;done)) (by omega)|exact YZ (by omega)|rfl)) ?_)))
    refine Zm rfl (Zn ?_)
    rw[AtT.css_snoc]
    have hq34:=XI (hsf _ (List.getElem_mem hlt)) (hws _ (List.getElem_mem hlt)).ex hs hv34
    exact⟨⟨j+1,v37,ats++[⟨a[j].key,v34⟩],f34⟩,⟨hlt,by simp;omega,⟨hq34.2.2,by have:=hg.2;omega⟩,hk.trans (PS hlt hv34)⟩,by show a.length-(j+1)<a.length-j;omega,QT (.cons rfl lr (.cons rfl lr (.cons rfl lr (.cons rfl lr (.cons rfl lr (.cons rfl lr (.cons rfl lr .nil))))))) (Q3 1 _ rfl) (fun _ h=>by first|exact h|simp[h])⟩
  have hge:a.length≤j:=by simpa[SetT.css_length,TmT.attrs]using c1
  rw[List.drop_of_length_le hge,PU]at hk
  refine J.exit (Qz (Qz (Q1 (thenQ.n (Zs (Zd HA rfl (Zl 3 CM rfl (JL.callRF [.k,.k,.k,.k,.p] gofn84 rfl Lent.nil (fun _=>(.cons (.r rfl) (.cons .func .nil))) (Bo (l:=ats) (by omega) v) (.inl rfl) fun x42 o42 h42=>?_))))))))
  obtain⟨rfl,l2,hpm,hsr,rfl⟩:=h42
  refine Zn (Zs (Zm rfl (Zd KF rfl (Zq rfl (Qe 1 RK (.r rfl) rfl YK) ?_))))
  refine Qn [.k,.k,.p] Dz rfl Lent.nil (fun _=>(.cons (.r rfl) (.cons (.r rfl) .nil))) (LI (fr:=fr) ih hl16 hn hwl hlf hs hg) (.inl rfl) (fun k46 x46 o46 h46=>?_) (fun k46=>?_)
  rotate_left
  · skip
    refine thenQ.p ?_
    exact⟨_,QG [.k,.k,.k,.k] _,_,rfl,rfl,Qk [.k,.k,.k,.k] _,VeS.er (elem_k hv13 h16 hk (UN k46)) k46⟩
  obtain⟨v46,f46,hv46,rfl,rfl⟩:=h46
  refine Zd WO rfl (JL.store_box 3 KY (.r rfl) rfl (.r rfl) (by first|rfl|assumption) rfl rfl rfl rfl ?_)
  refine Zn (J.seq ?_)
  obtain rfl:=NJ hpm (by rw[(Mj hs hsf hws hq13.1 hk).1];exact X0.1 hnd) hsr
  refine J.closeArr 4 rfl (by rw[AtT.css_length,GA];show _*32≤_;unfold Qr;omega) rfl (fun z hz=>by simp only[mb,QS,UW,Own.fp,List.append_nil,List.mem_singleton]at hz;subst hz;simp[mb,QS,Own.fp,QY]) ?_
  refine Qg (Zq rfl (by first|exact Qd 3 QE (.r rfl) rfl rfl rfl|exact Qd 3 QE (.r rfl) rfl (Qm (TrT.cs_length _ _) rfl) (TrT.cs_length _ _)) ?_)
  first|refine Qa 0 QE (.r rfl) rfl (.r rfl) (by first|rfl|assumption) rfl rfl rfl ?_|refine Qa 0 QE (.r rfl) rfl (.r rfl) (by first|rfl|assumption) rfl (TrT.cs_length _ _) rfl ?_|refine Qa 0 QE (.r rfl) rfl (.r rfl) (by first|rfl|assumption) (TrT.cs_length _ _) rfl rfl ?_|refine Qa 0 QE (.r rfl) rfl (.r rfl) (by first|rfl|assumption) (TrT.cs_length _ _) (TrT.cs_length _ _) rfl ?_|refine JL.store_box 0 QE (.r rfl) rfl (.r rfl) (by first|rfl|assumption) rfl rfl rfl rfl ?_|refine JL.store_box 0 QE (.r rfl) rfl (.r rfl) (by first|rfl|assumption) (TrT.cs_length _ _) rfl rfl rfl ?_
  exact Zn (J.ret (Zr [.k,.k,.p,.k] (RetEv.one rfl (by first|exact REv.cell 0 QE rfl rfl rfl rfl (.aggL (.cons lr (.cons lr (.cons lr (.cons (.fact (by simp) lr) (.cons lr .nil))))))|exact REv.cell 0 QE rfl rfl (Qm (TrT.cs_length _ _) rfl) (TrT.cs_length _ _) (.aggL (.cons lr (.cons lr (.cons lr (.cons (.fact (by simp) lr) (.cons lr .nil)))))))) rfl (VeS.ok (elem_y hv13 h16 hk hv46))))

end
section
/- Walks: the renderer: a part. -/
set_option maxRecDepth 10000
set_option maxHeartbeats 4000000
section
variable {w:Int} {t:QM} {k x:EX} {a:List SetT} {l:List TmT} {s:ScT} {f f1 c:Int}
theorem BK(h:w=1):(TmT.mk w t k x a l).partE s f=Uh (Yq t k a (fun s f=>Qy l s f) s f) fun y f1=>.ok ([y],f1):=by rw[TmT.partE,if_pos h]
theorem BJ(h:w=2):(TmT.mk w t k x a l).partE s f=Uh (WK (x.ev s f)) fun y f1=>.ok ([.txt y],f1):=by rw[TmT.partE,if_neg (by omega),if_pos h]
theorem part_x(h:¬w=1)(h2:¬w=2)(h3:x.ev s f=.error c):(TmT.mk w t k x a l).partE s f=.error c:=by rw[TmT.partE,if_neg h,if_neg h2,h3];rfl
theorem LU{v:V}(h:¬w=1)(h2:¬w=2)(h3:x.ev s f=.ok (v,f1)):(TmT.mk w t k x a l).partE s f=if w=3 then(if(WQ v).2≠0 then .error (WQ v).2 else if(WQ v).1 then Qy l s f1 else .ok ([],f1))
      else if v.kind=4 then UX (fun y f=>Qy l {s with it:=y} f) v.items f1 else .error 81:=by rw[TmT.partE,if_neg h,if_neg h2,h3];rfl
theorem SJ{v:V}(h:w=3)(h3:x.ev s f=.ok (v,f1))(h4:¬(WQ v).2=0):(TmT.mk w t k x a l).partE s f=.error (WQ v).2:=by rw[LU (by omega) (by omega) h3,if_pos h,if_pos h4]
theorem Eu{v:V}(h:w=3)(h3:x.ev s f=.ok (v,f1))(h4:(WQ v).2=0)(h5:(WQ v).1=true):(TmT.mk w t k x a l).partE s f=Qy l s f1:=by rw[LU (by omega) (by omega) h3,if_pos h,if_neg (fun hc=>hc h4),if_pos h5]
theorem SI{v:V}(h:w=3)(h3:x.ev s f=.ok (v,f1))(h4:(WQ v).2=0)(h5:(WQ v).1=false):(TmT.mk w t k x a l).partE s f=.ok ([],f1):=by rw[LU (by omega) (by omega) h3,if_pos h,if_neg (fun hc=>hc h4),if_neg (by simp[h5])]
theorem SH{v:V}(h:¬w=1)(h2:¬w=2)(h0:¬w=3)(h3:x.ev s f=.ok (v,f1))(h4:¬v.kind=4):(TmT.mk w t k x a l).partE s f=.error 81:=by rw[LU h h2 h3,if_neg h0,if_neg h4]
theorem Et{v:V}(h:¬w=1)(h2:¬w=2)(h0:¬w=3)(h3:x.ev s f=.ok (v,f1))(h4:v.kind=4):(TmT.mk w t k x a l).partE s f=UX (fun y f=>Qy l {s with it:=y} f) v.items f1:=by rw[LU h h2 h3,if_neg h0,if_pos h4]
end
theorem PR{α β:Type}{r:ER α}{q:α→Int→ER β}{c:Int}(h:r=.error c):Uh r q=.error c:=by rw[h];rfl
theorem PQ{α β:Type}{r:ER α}{q:α→Int→ER β}{v:α}{f:Int}(h:r=.ok (v,f)):Uh r q=q v f:=by rw[h];rfl
theorem Yl{F:List (Value×AV)}{fr:Bool}{e:Wq}{xs:List (List AV)}(hs:∀y∈xs,y.length=e.sz):Le F (.sl fr true e xs) (.sl fr false e xs):=.sl id (fun h=>by cases h) rfl hs (fun k x y hx hy=>by rw[hx]at hy;cases hy;exact .refl _) rfl
section
variable {g:V→Int→ER (List TrT)} {is:List V} {j:Nat} {ts a:List TrT} {f f1 c:Int}
theorem FE:YE ts (UX g [] f)=.ok (ts,f):=by rw[UX];simp[YE]
theorem FD(hj:j<is.length)(h:g is[j] f=.ok (a,f1)):YE ts (UX g (is.drop j) f)=YE (ts++a) (UX g (is.drop (j+1)) f1):=by
  rw[List.drop_eq_getElem_cons hj,UX,h]
  show YE ts (Uh (UX g (is.drop (j+1)) f1) fun b f2=>.ok (a++b,f2))=_
  rcases UX g (is.drop (j+1)) f1 with c|⟨b,f2⟩
  · rfl
  · simp[YE,Uh]
theorem PL(hj:j<is.length)(h:g is[j] f=.error c):YE ts (UX g (is.drop j) f)=.error c:=by
  rw[List.drop_eq_getElem_cons hj,UX,h];rfl
end
theorem Sm:∀(n:Nat),Rv n:=by
  intro n
  induction n with
  |zero=>intro t s f b fr h;exact absurd h (by have:=t.sz_pos;omega)
  |succ n ih=>
    intro t s f b fr hn hw hf hs h0
    obtain⟨w,tg,k,x,a,l⟩:=t
    obtain⟨-,htw,hkw,hxw,haw,hws,hlw,hwl⟩:=hw.inv
    obtain⟨-,ha16,hl16,hkf,hxf,hsf,hlf⟩:=hf.inv
    have hkn:∀y∈l,y.sz≤n:=fun y hy=>by
      have:=TmT.szs_mem hy
      unfold TmT.sz at hn;omega
    refine AC.of_J Tryz.func130 rfl Tryz.ntmps130 rfl fun w0 A0=>?_
    refine Zs (Qp (.r rfl) rfl fun b3=>Zq rfl (QW.assign .const) (Zn (J.seq (Zs (Zd Ra rfl (Zq rfl (Qe 0 UB (.r rfl) rfl TmT.at0) (Zn (J.block ?_))))))))
    refine Zs (Zq rfl (QW.eql (.r rfl) .const) (Za rfl (Zn ?_)))
    refine J.cond (.r rfl) (fun c1=>?_) (fun c1=>?_)
    · skip
      have w1:w=1:=by simpa[TmT.what]using c1
      subst w1
      refine Zs (Zm rfl (Zq rfl (by first|exact Qd 0 UR (.r rfl) rfl rfl rfl|exact Qd 0 UR (.r rfl) rfl (Qm (TmT.cs_length _ _) rfl) (TmT.cs_length _ _)) ?_))
      refine Qn [.k,.p] Po rfl Lent.nil (fun _=>(.cons (.r rfl) (.cons (.r rfl) .nil))) (HM (fr:=fr) ih hkn hw hf hs h0) (.inl rfl) (fun k17 x17 o17 h17=>?_) (fun k17=>?_)
      rotate_left
      · skip
        refine thenQ.p (blkQ.p (thenQ.p ?_))
        exact⟨_,QG [.k] _,_,rfl,rfl,Qk [.k] _,VkS.er ((BK rfl).trans (PR (UN k17))) k17⟩
      obtain⟨v17,f17,hv17,rfl,rfl⟩:=h17
      refine Zq rfl (QW.buildSlice (idx:=[0]) (xs:=[TrT.cs true v17]) Uw Qbd z46 rfl (.cons (.r rfl) .nil) rfl rfl rfl rfl rfl (by exact Lx (TrT.cs_length _ _)) rfl (Rn (TrT.cs_length _ _)) rfl) ?_
      exact Za rfl (Zn (J.ret (blkQ.r (thenQ.r (Zr [.k,.p] (RetEv.one rfl (REv.tmp rfl (Yl (TrT.css_sz true [v17])))) rfl (VkS.ok ((BK rfl).trans (PQ hv17))))))))
    have w1:¬w=1:=by simpa[TmT.what]using c1
    refine Zs (Zq rfl (QW.eql (.r rfl) .const) (Za rfl (Zn ?_)))
    refine J.cond (.r rfl) (fun c2=>?_) (fun c2=>?_)
    · skip
      have w2:w=2:=by simpa[TmT.what]using c2
      refine Zs (Zm rfl (Zd N9 rfl (Zq rfl (Qd 0 Q7 (.r rfl) rfl G8 xl) ?_)))
      refine Qn [.k,.p] DA rfl Lent.nil (fun _=>(.cons (.r rfl) (.cons (.r rfl) .nil))) (Hg (fr:=fr) (b:=b) hxw hxf hs h0.F) (.inl rfl) (fun k24 x24 o24 h24=>?_) (fun k24=>?_)
      rotate_left
      · skip
        refine thenQ.p (blkQ.p (thenQ.p ?_))
        exact⟨_,QG [.k] _,_,rfl,rfl,Qk [.k] _,VkS.er ((BJ w2).trans (PR (UN k24))) k24⟩
      obtain⟨v24,f24,hv24,rfl,rfl⟩:=h24
      exact Zq rfl (QW.build (idx:=[2]) Dg z46 rfl (.cons (.r rfl) .nil) rfl rfl rfl rfl) (Zq rfl (QW.buildSlice (xs:=[TrT.cs true (.txt v24)]) (idx:=[0]) Uw Qbd z46 rfl (.cons (Ev.le (y:=.agg [AV.c (Q4 []),AV.c (Q4 []),AV.c (Q4 v24),AV.c (.slice none 0 0),AV.c (.slice none 0 0)]) (z:=.agg (TrT.cs true (.txt v24))) (.r rfl) (.aggL (.cons lr (.cons lr (.cons lr (.cons (.nil true false _) (.cons (.nil true false _) .nil))))))) .nil) rfl rfl rfl rfl rfl rfl rfl rfl rfl) (Za rfl (Zn (J.ret (blkQ.r (thenQ.r (Zr [.k,.p] (RetEv.one rfl (REv.tmp rfl (Yl (TrT.css_sz true [.txt v24])))) rfl (VkS.ok ((BJ w2).trans (PQ hv24))))))))))
    have w2:¬w=2:=by simpa[TmT.what]using c2
    refine J.skip (blkQ.n (thenQ.n (Zs (Zm rfl (Zd N9 rfl (Zq rfl (Qd 0 Q7 (.r rfl) rfl G8 xl) ?_))))))
    refine Qn [.k,.p] E9 rfl Lent.nil (fun _=>(.cons (.r rfl) (.cons (.r rfl) .nil))) (RJ (fr:=fr) (b:=b) hxw hxf hs h0.F) (.inl rfl) (fun k30 x30 o30 h30=>?_) (fun k30=>?_)
    rotate_left
    · skip
      refine thenQ.p ?_
      exact⟨_,QG [.k] _,_,rfl,rfl,Qk [.k] _,VkS.er (part_x w1 w2 (UN k30)) k30⟩
    obtain⟨v30,f30,hv30,rfl,rfl⟩:=h30
    refine JL.alloc Yf rfl rfl fun b5=>?_
    first|refine Qa 0 Ql (.r rfl) rfl (.r rfl) (by first|rfl|assumption) rfl rfl rfl ?_|refine Qa 0 Ql (.r rfl) rfl (.r rfl) (by first|rfl|assumption) rfl vl rfl ?_|refine Qa 0 Ql (.r rfl) rfl (.r rfl) (by first|rfl|assumption) vl rfl rfl ?_|refine Qa 0 Ql (.r rfl) rfl (.r rfl) (by first|rfl|assumption) vl vl rfl ?_|refine JL.store_box 0 Ql (.r rfl) rfl (.r rfl) (by first|rfl|assumption) rfl rfl rfl rfl ?_|refine JL.store_box 0 Ql (.r rfl) rfl (.r rfl) (by first|rfl|assumption) vl rfl rfl rfl ?_
    refine Zn (J.seq (J.seq ?_))
    obtain⟨hgv,hfl,hfn⟩:=(UM x s f hxf hxw hs).fuel hv30
    have hq30:okQ f30:=⟨hfn,by have:=h0.2;omega⟩
    obtain⟨vk,vb,vt,vks,vis⟩:=v30
    have hvl:vis.length≤9223372036854775805:=by(have:=hgv.wf.inv.2.2.2.2;unfold Qr at this;omega)
    refine Qg (Zd Ra rfl (Zq rfl (Qe 1 UB (.r rfl) rfl TmT.at0) (Zq rfl (QW.eql (.r rfl) .const) (Zn ?_))))
    refine J.cond (.r rfl) (fun c3=>?_) (fun c3=>?_)
    · skip
      have w3:w=3:=by simpa[TmT.what]using c3
      refine Zs (Zq rfl (by first|exact Qd 0 Ql (.r rfl) rfl rfl rfl|exact Qd 0 Ql (.r rfl) rfl (Qm vl rfl) vl) ?_)
      refine Zq rfl (QW.call QaN (.cons (.r rfl) .nil) (PF Vc.self hgv.wf)) (Zm rfl (Zx rfl (Zx rfl (Za rfl (Za rfl (Zn (Zs (Zm rfl ?_))))))))
      refine Qn [] Gm rfl Lent.nil (fun _=>(.cons (.r rfl) .nil)) (Y9 _) (.inl rfl) (fun k40 x40 o40 h40=>?_) (fun k40=>?_)
      rotate_left
      · skip
        refine thenQ.p (thenQ.p ?_)
        exact⟨_,QG [.k,.k,.k] _,_,rfl,rfl,Qk [.k,.k,.k] _,VkS.er (SJ w3 hv30 k40) k40⟩
      obtain⟨rfl,rfl⟩:=h40
      refine Zn (J.seq (Zs (Zm rfl (Zn ?_))))
      refine J.cond (.r rfl) (fun c4=>?_) (fun c4=>?_)
      · skip
        have htr:(WQ (.mk vk vb vt vks vis)).1=true:=c4
        refine Zs (Zm rfl (Zd KF rfl (Zq rfl (Qe 1 RK (.r rfl) rfl YK) ?_)))
        refine Qn [.k,.k,.p] Dz rfl Lent.nil (fun _=>(.cons (.r rfl) (.cons (.r rfl) .nil))) (LI (fr:=fr) ih hl16 hkn hwl hlf hs hq30) (.inl rfl) (fun k45 x45 o45 h45=>?_) (fun k45=>?_)
        rotate_left
        · skip
          refine thenQ.p (thenQ.p (thenQ.p ?_))
          exact⟨_,QG [.k,.k] _,_,rfl,rfl,Qk [.k,.k] _,VkS.er ((Eu w3 hv30 k40 htr).trans (UN k45)) k45⟩
        obtain⟨v45,f45,hv45,rfl,rfl⟩:=h45
        exact Za rfl (Zn (J.ret (thenQ.r (thenQ.r (Zr [.k,.k,.p] (RetEv.one rfl (REv.tmp rfl lr)) rfl (VkS.ok ((Eu w3 hv30 k40 htr).trans hv45)))))))
      have htr:(WQ (.mk vk vb vt vks vis)).1=false:=by simpa using c4
      exact Zk (Zs (Zq rfl (QW.assign .const) (Zn (J.ret (thenQ.r (Zr [.k,.k,.p] (RetEv.one rfl (REv.tmp rfl (.nil true false eTr))) rfl (VkS.ok (l:=[]) (SI w3 hv30 k40 htr))))))))
    have w3:¬w=3:=by simpa[TmT.what]using c3
    refine Zk (Zs (Zd UZ rfl (Zl 0 UB rfl (Zq rfl (QW.eql (.r rfl) .const) ?_))))
    refine Qn [] Hy rfl Lent.nil (fun _=>(.cons (.r rfl) (.cons .const .nil))) (XJ _ _) (.inl rfl) (fun k49 x49 o49 h49=>?_) (fun k49=>?_)
    rotate_left
    · skip
      refine thenQ.p ?_
      exact⟨_,QG [.k,.k,.k] _,_,rfl,rfl,Qk [.k,.k,.k] _,VkS.er (c:=81) (SH w1 w2 w3 hv30 (by simpa[V.kind]using k49)) (by decide)⟩
    obtain⟨rfl,rfl⟩:=h49
    refine Zn (Zs (Zm rfl (Zu rfl (Zd Lv rfl (Zd Xx rfl (Zq rfl (Qd 2 Ql (.r rfl) rfl (R5 2) vl) (JL.alloc Yf rfl rfl fun b8=>?_)))))))
    first|refine Qa 0 Ql (.r rfl) rfl (.r rfl) (by first|rfl|assumption) rfl rfl rfl ?_|refine Qa 0 Ql (.r rfl) rfl (.r rfl) (by first|rfl|assumption) rfl vl rfl ?_|refine Qa 0 Ql (.r rfl) rfl (.r rfl) (by first|rfl|assumption) vl rfl rfl ?_|refine Qa 0 Ql (.r rfl) rfl (.r rfl) (by first|rfl|assumption) vl vl rfl ?_|refine JL.store_box 0 Ql (.r rfl) rfl (.r rfl) (by first|rfl|assumption) rfl rfl rfl rfl ?_|refine JL.store_box 0 Ql (.r rfl) rfl (.r rfl) (by first|rfl|assumption) vl rfl rfl rfl ?_
    refine Zn (J.seq (Zs (Zd Uv rfl (Zl 1 WL rfl (Zq rfl (by first|exact Qh QU (.r rfl) wl|exact Qh QU (.r rfl) (TmT.css_length _ _)|exact Qh QU (.r rfl) (SetT.css_length _ _)|exact Qh QU (.r rfl) (TrT.css_length _ _)|exact Qh QU (.r rfl) (AtT.css_length _)|exact QC QU (.r rfl)|exact QW.len_nil QU (.r rfl)) ?_)))))
    refine Zq rfl (QW.move .const) (Zn (J.block (J.reown (Ur eTr _) (Ub (ι:=Nat×Value×List TrT×Int×V) [0,3,8,56,57] (fun⟨j,v,ts,g,it⟩=>[(58,.c (.int .i64 (j:Int))),(4,.c v)]) (fun⟨j,v,ts,g,it⟩ oo=>List.set (List.set oo 4 (.arr v eTr (TrT.css true ts))) 3 (mb b {s with it:=it} g)) (fun⟨j,v,ts,g,it⟩=>j≤vis.length∧(ts.length:Int)+g≤f30∧okQ g∧UX (fun y f=>Qy l {s with it:=y} f) vis f30=YE ts (UX (fun y f=>Qy l {s with it:=y} f) (vis.drop j) g)) (fun⟨j,v,ts,g,it⟩=>vis.length-j) ⟨0,.slice none 0 0,[],f30,s.it⟩ (⟨Nat.zero_le _,by show((0:Nat):Int)+f30≤f30;omega,hq30,Na _⟩) (QT (.cons rfl lr (.cons rfl lr (.cons rfl lr (.cons rfl lr (.cons rfl lr (.cons rfl lr (.cons rfl lr .nil))))))) (Reown.refl _) (fun _ h=>by first|exact h|simp[h])) ?_))))
    intro⟨j,v,ts,g,it⟩ ⟨hj,hts,hg,hk⟩
    refine J.conv (by(try simp only[nl,Qj,Qv,Qw,Qu,QY,AV.cellsOf,Qb,Qc,Nat.reduceAdd]);rfl) ?_
    refine Zs (Zq rfl (QW.lss (.r rfl) (.r rfl)) (Zn (J.seq ?_)))
    refine J.cond (.r rfl) (fun c4=>?_) (fun c4=>?_)
    · skip
      have hlt:j<vis.length:=by simpa[V.css_length]using c4
      refine Zk (J.seq (J.block (Zs (Zq rfl (Qi QU Ql rfl (.r rfl) (.r rfl) (by first|rfl|omega|(simp;done)) (by exact V.css_getE _ hlt)) ?_))))
      refine Zq rfl (by first|exact Qo Ql (.r rfl) rfl rfl|exact Qo Ql (.r rfl) (QJ vl rfl) vl) ?_
      refine JL.alloc Yf rfl rfl fun b10=>?_
      first|refine Qa 0 Ql (.r rfl) rfl (.r rfl) (by first|rfl|assumption) rfl rfl rfl ?_|refine Qa 0 Ql (.r rfl) rfl (.r rfl) (by first|rfl|assumption) rfl vl rfl ?_|refine Qa 0 Ql (.r rfl) rfl (.r rfl) (by first|rfl|assumption) vl rfl rfl ?_|refine Qa 0 Ql (.r rfl) rfl (.r rfl) (by first|rfl|assumption) vl vl rfl ?_|refine JL.store_box 0 Ql (.r rfl) rfl (.r rfl) (by first|rfl|assumption) rfl rfl rfl rfl ?_|refine JL.store_box 0 Ql (.r rfl) rfl (.r rfl) (by first|rfl|assumption) vl rfl rfl rfl ?_
      refine Zn (Zs (Zm rfl (Zq rfl (by first|exact Qd 0 Ql (.r rfl) rfl rfl rfl|exact Qd 0 Ql (.r rfl) rfl (Qm vl rfl) vl) ?_)))
      refine Zu rfl (Zd Lv rfl (Zd Xx rfl (JL.store_box 4 Ql (.r rfl) rfl (Ev.le (.r rfl) (G6 _)) rfl vl (by rw[Gj];rfl) KD rfl ?_)))
      refine Zn (Qg (Zm rfl (Zm rfl (Zd KF rfl (Zq rfl (Qe 3 RK (.r rfl) rfl YK) ?_)))))
      refine Qn [.k,.k,.k,.k,.p] Dz rfl Lent.nil (fun _=>(.cons (.r rfl) (.cons (.r rfl) .nil))) (LI (fr:=fr) (b:=b) (s:={s with it:=vis[j]}) ih hl16 hkn hwl hlf (hs.item (hgv.kid (List.getElem_mem hlt))) hg) (.inl rfl) (fun k71 x71 o71 h71=>?_) (fun k71=>?_)
      rotate_left
      · skip
        refine blkQ.p (thenQ.p (thenQ.p (blkQ.p (thenQ.p ?_))))
        exact⟨_,QG [.k,.k,.k,.k,.k] _,_,rfl,rfl,Qk [.k,.k,.k,.k,.k] _,VkS.er ((Et w1 w2 w3 hv30 (by simpa[V.kind]using k49)).trans (hk.trans (PL hlt (UN k71)))) k71⟩
      obtain⟨v71,f71,hv71,rfl,rfl⟩:=h71
      obtain⟨-,hlv,hf0⟩:=Ws l hlf hwl (hs.item (hgv.kid (List.getElem_mem hlt))) hg.1 hg.2 _ _ hv71
      refine JL.append 5 Uw Qbd rfl (.r rfl) rfl (Ww Uw (.r rfl)) (by rw[TrT.css_length,TrT.css_length];show(_+_)*96≤_;unfold Qr;have:=h0.2;omega) rfl fun v72=>?_
      refine Za rfl (JL.nil (blkQ.n (thenQ.n (Qg (Zq rfl (QW.add (.r rfl) .const (by first|exact Wl (by first|rfl|omega|(simp;done)) (by omega)|exact YZ (by omega)|rfl)) ?_)))))
      refine Zm rfl (Zn ?_)
      rw[← TrT.css_append]
      exact⟨⟨j+1,v72,ts++v71,f71,vis[j]⟩,⟨hlt,by simp;omega,⟨hf0,by have:=hg.2;omega⟩,hk.trans (FD hlt hv71)⟩,by show vis.length-(j+1)<vis.length-j;omega,QT (.cons rfl lr (.cons rfl lr (.cons rfl lr (.cons rfl lr (.cons rfl lr (.cons rfl lr (.cons rfl lr .nil))))))) (Q3 1 _ rfl) (fun _ h=>by first|exact h|simp[h])⟩
    have hge:vis.length≤j:=by simpa[V.css_length]using c4
    rw[List.drop_of_length_le hge,FE]at hk
    refine J.exit (Qz (Qz (Q1 (thenQ.n (J.seq (J.closeArr 4 rfl (by rw[TrT.css_length];show _*96≤_;unfold Qr;have:=h0.2;have:=hg.1;omega) rfl (fun z hz=>by simp only[mb,QS,UW,Own.fp,List.append_nil,List.mem_singleton]at hz;subst hz;simp[mb,QS,Own.fp,QY]) ?_))))))
    refine Qg (Zm rfl (Zq rfl (by first|exact Qd 0 Ql (.r rfl) rfl rfl rfl|exact Qd 0 Ql (.r rfl) rfl (Qm vl rfl) vl) ?_))
    refine Zu rfl (Zd Lv rfl (Zd Xx rfl (JL.store_box 3 Ql (.r rfl) rfl (.r rfl) rfl vl (by rw[Gj];rfl) KD rfl ?_)))
    exact Zn (Zs (Zm rfl (Za rfl (Zn (J.ret (Zr [.k,.k,.k,.p] (RetEv.one rfl (REv.tmp rfl (.fact (by simp) lr))) rfl (VkS.ok ((Et w1 w2 w3 hv30 (by simpa[V.kind]using k49)).trans hk))))))))
theorem CH(n:Nat):Rv n:=Sm n

end
section
/- Walks: the tree of a state. -/
set_option maxRecDepth 10000
set_option maxHeartbeats 4000000
def HV(r:TrT×Int):AV:=.tup [.agg (r.1.cs true),.c (.int .i64 r.2)]
def zT:List AV:=[.c (Q4 []),.c (Q4 []),.c (Q4 []),.c (.slice none 0 0),.c (.slice none 0 0)]
theorem ren_le{F:List (Value×AV)}{k1:Int}{b1:Nat}{t1:QM}{ks1:List QM}{is1:List V}{fr:Bool}{f:Int}:
    Le F (.agg ((V.mk k1 b1 t1 ks1 is1).cs fr++(zV++(zV++[AV.c (.int .i64 f)])))) (.agg ((V.mk k1 b1 t1 ks1 is1).cs false++V.nil.cs false++V.nil.cs false++[AV.c (.int .i64 f)])):=
  .aggL (by
    rw[List.append_assoc,List.append_assoc]
    have h:LeL F zV (V.nil.cs false):=.cons (.refl _) (.cons (.refl _) (.cons (.refl _) (.cons (.nil false false _) (.cons (.nil false false _) .nil))))
    exact LeL.append (Rp fr false (fun h=>by cases h) _) (LeL.append h (LeL.append h (.cons (.refl _) .nil))))
section
variable {t:TmT} {st:V} {f:Int}
theorem ren_t(h:¬t.err=0):t.renT st f=(.nil,t.err):=if_pos h
theorem ren_s(h:t.err=0)(h2:¬st.err=0):t.renT st f=(.nil,st.err):=(if_neg (fun hc=>hc h)).trans (if_pos h2)
theorem ren_f(h:t.err=0)(h2:st.err=0)(h3:f<0∨4096<f):t.renT st f=(.nil,4):=(if_neg (fun hc=>hc h)).trans ((if_neg (fun hc=>hc h2)).trans (if_pos h3))
theorem BA(h:t.err=0)(h2:st.err=0)(h3:¬(f<0∨4096<f)):t.renT st f=t.treeT st f:=(if_neg (fun hc=>hc h)).trans ((if_neg (fun hc=>hc h2)).trans (if_neg h3))
theorem tree_e{c:Int}(h:t.elE ⟨st,.nil,.nil⟩ f=.error c):t.treeT st f=(.nil,c):=by unfold TmT.treeT;rw[h]
theorem tree_c{y:TrT}{g:Int}(h:t.elE ⟨st,.nil,.nil⟩ f=.ok (y,g))(h2:¬y.err=0):t.treeT st f=(.nil,y.err):=by unfold TmT.treeT;rw[h];exact if_pos h2
theorem tree_y{y:TrT}{g:Int}(h:t.elE ⟨st,.nil,.nil⟩ f=.ok (y,g))(h2:y.err=0):t.treeT st f=(y,0):=by unfold TmT.treeT;rw[h];exact if_neg (fun hc=>hc h2)
end
theorem RW(c a:Nat)(zs:List AV)(z:Int):DC Tryz.prog 43 [UC c z,.box a zs] [.c (.pointer (some ⟨c,0,none⟩)),.c (.pointer (some ⟨a,0,none⟩))] .returning fun r u' o=>r=.ret (.tup [])∧u'=.returning∧o=[UC c z,.box a zs]:=by
  refine DC.of_JD Tryz.func43 rfl Tryz.ntmps43 rfl fun w0 A0=>?_
  refine JD.seq (Ua rfl rfl (.inl ⟨rfl,rfl,rfl⟩) rfl (JL.callRF [.p] NX rfl Lent.nil (fun _=>(.cons (.r rfl) (.cons (.r rfl) .nil))) (MT c z) (.inl rfl) fun x3 o3 h3=>?_))
  obtain⟨rfl,rfl⟩:=h3
  refine JL.nil ?_
  refine YB ?_
  refine JD.of_J rfl ?_
  refine J.cond (.r rfl) (fun c1=>absurd c1 (by simp)) (fun c1=>?_)
  refine J.skip ?_
  exact⟨_,QG [.p,.p] _,_,RetEv.none rfl,rfl,Qk [.p,.p] _,⟨rfl,rfl,rfl⟩⟩
theorem HU(c a:Nat)(zs:List AV)(hz:zs.length=5)(z e:Int):DC Tryz.prog 43 [UC c z,.box a zs] [.c (.pointer (some ⟨c,0,none⟩)),.c (.pointer (some ⟨a,0,none⟩))] (.panicking [{v:=WS e,recovered:=false}]) fun r u' o=>r=.ret (.tup [])∧u'=.panicking [{v:=WS e,recovered:=true}]∧o=[UC c e,.box a zT]:=by
  refine DC.of_JD Tryz.func43 rfl Tryz.ntmps43 rfl fun w0 A0=>?_
  refine JD.seq (Ua rfl rfl (.inr ⟨[],rfl,rfl⟩) rfl (JL.callRF [.p] NX rfl Lent.nil (fun _=>(.cons (.r rfl) (.cons (.r rfl) .nil))) (RH c z e) (.inl rfl) fun x3 o3 h3=>?_))
  obtain⟨rfl,rfl⟩:=h3
  refine JL.nil ?_
  refine YB ?_
  refine JD.of_J rfl ?_
  refine J.cond (.r rfl) (fun c1=>?_) (fun c1=>absurd c1 (by simp))
  refine Qg (Zq rfl (QW.build (idx:=[]) Dg z46 rfl .nil rfl rfl rfl rfl) (JL.store_box 1 QE (.r rfl) rfl (.r rfl) rfl rfl (by rw[hz];rfl) (U3 (by rw[hz];rfl)) rfl ?_))
  refine JL.nil ?_
  exact⟨_,QG [.p,.p] _,_,RetEv.none rfl,rfl,Qk [.p,.p] _,⟨rfl,rfl,rfl⟩⟩
theorem XV{fr fr2:Bool}{t:TmT}(hw:t.wf){st:V}(hs:st.wf){f:Int}(h64: -9223372036854775808≤f∧f≤9223372036854775807):Fn Tryz.prog 14 [.agg (t.cs fr),.agg (st.cs fr2),.c (.int .i64 f)] (HV (t.renT st f)):=by
  obtain⟨ka,ua,ta,va,ia⟩:=st
  obtain⟨w,tg,k,x,a,l⟩:=t
  refine T2 Tryz.func14 rfl Tryz.ntmps14 rfl fun w0 A0=>?_
  refine Zs (Qp (.r rfl) rfl fun b3=>Qp (.r rfl) rfl fun b4=>JL.alloc z46 rfl rfl fun b6=>JL.alloc z47 rfl rfl fun b7=>Zn (J.seq (Zs (Zq rfl (by first|exact Qd 3 UR (.r rfl) rfl rfl rfl|exact Qd 3 UR (.r rfl) rfl (Qm (TmT.cs_length _ _) rfl) (TmT.cs_length _ _)) ?_))))
  refine Zq rfl (QW.call gofn19 (.cons (.r rfl) .nil) (CL (fr:=fr) hw)) (Za rfl (Zn (Zs (Zm rfl (Zq rfl (QW.neq (.r rfl) .const) (Zn ?_))))))
  refine J.cond (.r rfl) (fun c1=>?_) (fun c1=>?_)
  · skip
    have hte:¬(TmT.mk w tg k x a l).err=0:=by simpa using c1
    refine Zs (Zq rfl (QW.build (idx:=[]) Dg z46 rfl .nil rfl rfl rfl rfl) (Zm rfl ?_))
    first|refine Qa 1 QE (.r rfl) rfl (.r rfl) (by first|rfl|assumption) rfl rfl rfl ?_|refine Qa 1 QE (.r rfl) rfl (.r rfl) (by first|rfl|assumption) rfl (TrT.cs_length _ _) rfl ?_|refine Qa 1 QE (.r rfl) rfl (.r rfl) (by first|rfl|assumption) (TrT.cs_length _ _) rfl rfl ?_|refine Qa 1 QE (.r rfl) rfl (.r rfl) (by first|rfl|assumption) (TrT.cs_length _ _) (TrT.cs_length _ _) rfl ?_|refine JL.store_box 1 QE (.r rfl) rfl (.r rfl) (by first|rfl|assumption) rfl rfl rfl rfl ?_|refine JL.store_box 1 QE (.r rfl) rfl (.r rfl) (by first|rfl|assumption) (TrT.cs_length _ _) rfl rfl rfl ?_
    refine JL.store_box 0 Wc (.r rfl) rfl (.r rfl) (by first|rfl|assumption) rfl rfl rfl rfl ?_
    refine Zn (J.ret (thenQ.r ?_))
    exact retE.none [.k,.k] (by first|exact Qs rfl (REv.cell 1 QE rfl rfl rfl rfl (.aggL (.cons lr (.cons lr (.cons lr (.cons (.nil true false _) (.cons (.nil true false _) .nil))))))) (QQ 0 Wc rfl rfl rfl lr)|exact Qs rfl (REv.cell 1 QE rfl rfl (Qm (TrT.cs_length _ _) rfl) (TrT.cs_length _ _) (.aggL (.cons lr (.cons lr (.cons lr (.cons (.nil true false _) (.cons (.nil true false _) .nil))))))) (QQ 0 Wc rfl rfl rfl lr)) rfl ⟨(congrArg (fun r=>Wi.ret (HV r)) (ren_t hte).symm),rfl⟩
  have hte:(TmT.mk w tg k x a l).err=0:=by simpa using c1
  obtain rfl:w=1:=H9 hte
  have hfine:=TmT.fine_of hte
  refine Zk (J.seq (Zs (Zq rfl (by first|exact Qd 2 Ql (.r rfl) rfl rfl rfl|exact Qd 2 Ql (.r rfl) rfl (Qm vl rfl) vl) ?_)))
  refine Zq rfl (QW.call X5 (.cons (.r rfl) .nil) (Yo (fr:=fr2) Vc.self hs)) (Za rfl (Zn (Zs (Zm rfl (Zq rfl (QW.neq (.r rfl) .const) (Zn ?_))))))
  refine J.cond (.r rfl) (fun c2=>?_) (fun c2=>?_)
  · skip
    have hse:¬(V.mk ka ua ta va ia).err=0:=by simpa using c2
    refine Zs (Zq rfl (QW.build (idx:=[]) Dg z46 rfl .nil rfl rfl rfl rfl) (Zm rfl ?_))
    first|refine Qa 1 QE (.r rfl) rfl (.r rfl) (by first|rfl|assumption) rfl rfl rfl ?_|refine Qa 1 QE (.r rfl) rfl (.r rfl) (by first|rfl|assumption) rfl (TrT.cs_length _ _) rfl ?_|refine Qa 1 QE (.r rfl) rfl (.r rfl) (by first|rfl|assumption) (TrT.cs_length _ _) rfl rfl ?_|refine Qa 1 QE (.r rfl) rfl (.r rfl) (by first|rfl|assumption) (TrT.cs_length _ _) (TrT.cs_length _ _) rfl ?_|refine JL.store_box 1 QE (.r rfl) rfl (.r rfl) (by first|rfl|assumption) rfl rfl rfl rfl ?_|refine JL.store_box 1 QE (.r rfl) rfl (.r rfl) (by first|rfl|assumption) (TrT.cs_length _ _) rfl rfl rfl ?_
    refine JL.store_box 0 Wc (.r rfl) rfl (.r rfl) (by first|rfl|assumption) rfl rfl rfl rfl ?_
    refine Zn (J.ret (thenQ.r ?_))
    exact retE.none [.k,.k] (by first|exact Qs rfl (REv.cell 1 QE rfl rfl rfl rfl (.aggL (.cons lr (.cons lr (.cons lr (.cons (.nil true false _) (.cons (.nil true false _) .nil))))))) (QQ 0 Wc rfl rfl rfl lr)|exact Qs rfl (REv.cell 1 QE rfl rfl (Qm (TrT.cs_length _ _) rfl) (TrT.cs_length _ _) (.aggL (.cons lr (.cons lr (.cons lr (.cons (.nil true false _) (.cons (.nil true false _) .nil))))))) (QQ 0 Wc rfl rfl rfl lr)) rfl ⟨(congrArg (fun r=>Wi.ret (HV r)) (ren_s hte hse).symm),rfl⟩
  have hse:(V.mk ka ua ta va ia).err=0:=by simpa using c2
  refine Zk (J.seq (Zs (Zm rfl (Zq rfl (QW.lss (.r rfl) .const) (Zm rfl (Zg rfl (fun hg=>(QW.move (.r rfl))) (Zg rfl (fun hg=>(QW.gtr (.when rfl hg) .const)) (Zq rfl (QW.pick_or (.r rfl) (.r rfl)) (Zn ?_)))))))))
  refine J.cond (.r rfl) (fun c3=>?_) (fun c3=>?_)
  · skip
    have hr:f<0∨4096<f:=by simpa using c3
    refine Zs (Zq rfl (QW.build (idx:=[]) Dg z46 rfl .nil rfl rfl rfl rfl) ?_)
    first|refine Qa 1 QE (.r rfl) rfl (.r rfl) (by first|rfl|assumption) rfl rfl rfl ?_|refine Qa 1 QE (.r rfl) rfl (.r rfl) (by first|rfl|assumption) rfl (TrT.cs_length _ _) rfl ?_|refine Qa 1 QE (.r rfl) rfl (.r rfl) (by first|rfl|assumption) (TrT.cs_length _ _) rfl rfl ?_|refine Qa 1 QE (.r rfl) rfl (.r rfl) (by first|rfl|assumption) (TrT.cs_length _ _) (TrT.cs_length _ _) rfl ?_|refine JL.store_box 1 QE (.r rfl) rfl (.r rfl) (by first|rfl|assumption) rfl rfl rfl rfl ?_|refine JL.store_box 1 QE (.r rfl) rfl (.r rfl) (by first|rfl|assumption) (TrT.cs_length _ _) rfl rfl rfl ?_
    refine JL.store_box 0 Wc (.r rfl) rfl .const (by first|rfl|assumption) rfl rfl rfl rfl ?_
    refine Zn (J.ret (thenQ.r ?_))
    exact retE.none [.k,.k] (by first|exact Qs rfl (REv.cell 1 QE rfl rfl rfl rfl (.aggL (.cons lr (.cons lr (.cons lr (.cons (.nil true false _) (.cons (.nil true false _) .nil))))))) (QQ 0 Wc rfl rfl rfl lr)|exact Qs rfl (REv.cell 1 QE rfl rfl (Qm (TrT.cs_length _ _) rfl) (TrT.cs_length _ _) (.aggL (.cons lr (.cons lr (.cons lr (.cons (.nil true false _) (.cons (.nil true false _) .nil))))))) (QQ 0 Wc rfl rfl rfl lr)) rfl ⟨(congrArg (fun r=>Wi.ret (HV r)) (ren_f hte hse hr).symm),rfl⟩
  have hr:¬(f<0∨4096<f):=by(simp at c3;omega)
  have hq:okQ f:=⟨by omega,by omega⟩
  refine Zk (Zs (Zq rfl (WJ .nil (.cons (.r rfl) (.cons (.r rfl) .nil))) (JL.defer rfl (.r rfl) (Zn (Zs (Zq rfl (by first|exact Qd 2 Ql (.r rfl) rfl rfl rfl|exact Qd 2 Ql (.r rfl) rfl (Qm vl rfl) vl) ?_))))))
  refine Zq rfl (QW.build (idx:=[0]) pl120 z120 rfl (.cons (.r rfl) .nil) rfl rfl rfl rfl) (Zm rfl (Zq rfl (QW.build (idx:=[0,1]) pl122 z122 rfl (.cons (.r rfl) (.cons (.r rfl) .nil)) rfl rfl rfl rfl) (Qp (Ev.le (.r rfl) ren_le) rfl fun b35=>Za rfl (Zn (Zs (Zm rfl (Zq rfl (by first|exact Qd 4 UR (.r rfl) rfl rfl rfl|exact Qd 4 UR (.r rfl) rfl (Qm (TmT.cs_length _ _) rfl) (TmT.cs_length _ _)) ?_)))))))
  refine Qn [.p] Po rfl Lent.nil (fun _=>(.cons (.r rfl) (.cons (.r rfl) .nil))) (HM (fr:=fr) (s:=⟨.mk ka ua ta va ia,.nil,.nil⟩) (CH _) (fun y hy=>TmT.szs_mem hy) hw hfine ⟨⟨hs,hse⟩,W5,W5⟩ hq) (.inl rfl) (fun k38 x38 o38 h38=>?_) (fun k38=>?_)
  rotate_left
  · skip
    refine thenQ.p ?_
    exact .inl ⟨_,_,[],[_,_],QG [.p,.p] _,_,rfl,rfl,DB,Qk [.p,.p] _,DC.mono (HU _ _ _ rfl _ _) fun r u' o ⟨h1,h2,h3⟩=>by subst h1 h2 h3;exact⟨⟨_,rfl⟩,rfl,_,[],_,(by first|exact Qs rfl (REv.cell 1 QE rfl rfl rfl rfl (.aggL (.cons lr (.cons lr (.cons lr (.cons (.nil true false _) (.cons (.nil true false _) .nil))))))) (QQ 0 Wc rfl rfl rfl lr)|exact Qs rfl (REv.cell 1 QE rfl rfl (Qm (TrT.cs_length _ _) rfl) (TrT.cs_length _ _) (.aggL (.cons lr (.cons lr (.cons lr (.cons (.nil true false _) (.cons (.nil true false _) .nil))))))) (QQ 0 Wc rfl rfl rfl lr)),List.Perm.refl _,(congrArg (fun r=>Wi.ret (HV r)) ((BA hte hse hr).trans (tree_e (UN k38))).symm),rfl⟩⟩
  obtain⟨v38,f38,hv38,rfl,rfl⟩:=h38
  first|refine Qa 2 QE (.r rfl) rfl (.r rfl) (by first|rfl|assumption) rfl rfl rfl ?_|refine Qa 2 QE (.r rfl) rfl (.r rfl) (by first|rfl|assumption) rfl (TrT.cs_length _ _) rfl ?_|refine Qa 2 QE (.r rfl) rfl (.r rfl) (by first|rfl|assumption) (TrT.cs_length _ _) rfl rfl ?_|refine Qa 2 QE (.r rfl) rfl (.r rfl) (by first|rfl|assumption) (TrT.cs_length _ _) (TrT.cs_length _ _) rfl ?_|refine JL.store_box 2 QE (.r rfl) rfl (.r rfl) (by first|rfl|assumption) rfl rfl rfl rfl ?_|refine JL.store_box 2 QE (.r rfl) rfl (.r rfl) (by first|rfl|assumption) (TrT.cs_length _ _) rfl rfl rfl ?_
  refine Zn (Zs (Zq rfl (by first|exact Qd 2 QE (.r rfl) rfl rfl rfl|exact Qd 2 QE (.r rfl) rfl (Qm (TrT.cs_length _ _) rfl) (TrT.cs_length _ _)) ?_))
  have hyw:=(La hfine hw rfl ⟨⟨hs,hse⟩,W5,W5⟩ hq.2 hv38).1
  refine Zq rfl (QW.call gofn24 (.cons (.r rfl) .nil) (CQ hyw)) ?_
  refine Qn [] Gm rfl Lent.nil (fun _=>(.cons (.r rfl) .nil)) (Y9 _) (.inl rfl) (fun k41 x41 o41 h41=>?_) (fun k41=>?_)
  rotate_left
  · skip
    refine thenQ.p ?_
    exact .inl ⟨_,_,[],[_,_],QG [.k,.p,.p] _,_,rfl,rfl,DB,Qk [.k,.p,.p] _,DC.mono (HU _ _ _ (TrT.cs_length _ _) _ _) fun r u' o ⟨h1,h2,h3⟩=>by subst h1 h2 h3;exact⟨⟨_,rfl⟩,rfl,_,[],_,(by first|exact Qs rfl (REv.cell 1 QE rfl rfl rfl rfl (.aggL (.cons lr (.cons lr (.cons lr (.cons (.nil true false _) (.cons (.nil true false _) .nil))))))) (QQ 0 Wc rfl rfl rfl lr)|exact Qs rfl (REv.cell 1 QE rfl rfl (Qm (TrT.cs_length _ _) rfl) (TrT.cs_length _ _) (.aggL (.cons lr (.cons lr (.cons lr (.cons (.nil true false _) (.cons (.nil true false _) .nil))))))) (QQ 0 Wc rfl rfl rfl lr)),List.Perm.refl _,(congrArg (fun r=>Wi.ret (HV r)) ((BA hte hse hr).trans (tree_c hv38 k41)).symm),rfl⟩⟩
  obtain⟨rfl,rfl⟩:=h41
  refine Zn (Zs (Zq rfl (by first|exact Qd 2 QE (.r rfl) rfl rfl rfl|exact Qd 2 QE (.r rfl) rfl (Qm (TrT.cs_length _ _) rfl) (TrT.cs_length _ _)) ?_))
  first|refine Qa 2 QE (.r rfl) rfl (.r rfl) (by first|rfl|assumption) rfl rfl rfl ?_|refine Qa 2 QE (.r rfl) rfl (.r rfl) (by first|rfl|assumption) rfl (TrT.cs_length _ _) rfl ?_|refine Qa 2 QE (.r rfl) rfl (.r rfl) (by first|rfl|assumption) (TrT.cs_length _ _) rfl rfl ?_|refine Qa 2 QE (.r rfl) rfl (.r rfl) (by first|rfl|assumption) (TrT.cs_length _ _) (TrT.cs_length _ _) rfl ?_|refine JL.store_box 2 QE (.r rfl) rfl (.r rfl) (by first|rfl|assumption) rfl rfl rfl rfl ?_|refine JL.store_box 2 QE (.r rfl) rfl (.r rfl) (by first|rfl|assumption) (TrT.cs_length _ _) rfl rfl rfl ?_
  refine JL.store_box 1 Wc (.r rfl) rfl .const (by first|rfl|assumption) rfl rfl rfl rfl ?_
  refine Zn (J.ret ?_)
  exact .inl ⟨_,_,[],[_,_],QG [.k,.p,.p] _,_,rfl,rfl,DB,Qk [.k,.p,.p] _,DC.mono (RW _ _ _ _) fun r u' o ⟨h1,h2,h3⟩=>by subst h1 h2 h3;exact⟨⟨_,rfl⟩,rfl,_,[],_,(by first|exact Qs rfl (REv.cell 1 QE rfl rfl rfl rfl lr) (QQ 0 Wc rfl rfl rfl lr)|exact Qs rfl (REv.cell 1 QE rfl rfl (Qm (TrT.cs_length _ _) rfl) (TrT.cs_length _ _) lr) (QQ 0 Wc rfl rfl rfl lr)),List.Perm.refl _,(congrArg (fun r=>Wi.ret (HV r)) ((BA hte hse hr).trans (tree_y hv38 k41)).symm),rfl⟩⟩

end
section
/- Walks: a template, in memory of its own. -/
set_option maxRecDepth 10000
set_option maxHeartbeats 4000000
theorem SetT.css_tk{fr:Bool}{l:List SetT}{j:Nat}(h:j<l.length):SetT.css fr (l.take j)++[l[j].cs fr]=SetT.css fr (l.take (j+1)):=by rw[List.take_succ_eq_append_getElem h,SetT.css_snoc]
theorem TmT.css_tk{fr:Bool}{l:List TmT}{j:Nat}(h:j<l.length):TmT.css fr (l.take j)++[l[j].cs fr]=TmT.css fr (l.take (j+1)):=by rw[List.take_succ_eq_append_getElem h,TmT.css_append];rfl
theorem Qa9{c a0 a1 a2 a3 a4:AV}{z:List AV}(hz:z.length=4):Xj ([(0,1),(1,4)].toArray[·]?) [a0,a1,a2,a3,a4] [(0,[c]),(1,z)]=some (c::z):=by
  have h1:QZ [c,a1,a2,a3,a4] 1 z=c::z:=by
    rw[Qc,U3 (by rw[hz];rfl)]
  simp[Xj,Qb,hz,h1]
theorem of17_n:∀(n:Nat) {t:TmT} {fr:Bool},t.wf→t.sz≤n→Fn Tryz.prog 12 [.agg (t.cs fr)] (.agg (t.cs true)):=by
  intro n
  induction n with
  |zero=>intro t fr hw hn;exact absurd hn (by have:=t.sz_pos;omega)
  |succ n ih=>
    intro t fr hw hn
    obtain⟨w,tg,⟨ko,kb,kt,kls⟩,⟨xo,xb,xt,xls⟩,a,l⟩:=t
    obtain⟨-,htw,hkw,hxw,haw,hws,hlw,hwl⟩:=hw.inv
    have hal:a.length≤9223372036854775805:=by unfold Qr at haw;omega
    have hll:l.length≤9223372036854775805:=by unfold Qr at hlw;omega
    refine AC.of_J Tryz.func12 rfl Tryz.ntmps12 rfl fun w0 A0=>?_
    refine Zs (Qp (.r rfl) rfl fun b1=>JL.alloc z40 rfl rfl fun b2=>Zn (J.seq (QO mixed (Zf 0 [] rfl (fun _=>Qf fo29_0 (.r rfl) rfl) (Zo 1 1 [6] rfl (fun _ ho_=>Qe 1 UB (.r rfl) ho_ rfl) (Zf 2 [] rfl (fun _=>Qf fo29_1 (.r rfl) rfl) (Zo 3 1 [8] rfl (fun _ ho_=>Qe 1 U0 (.r rfl) ho_ TmT.at1) ?_)))))))
    refine Zf 4 [] rfl (fun _=>Qf fo29_2 (.r rfl) rfl) (Zo 5 1 [10] rfl (fun _ ho_=>Qd 1 Hh (.r rfl) ho_ LC xl) (Zf 6 [11] rfl (fun _=>QW.call NY (.cons (.r rfl) .nil) (NP Xc.self hkw)) (Zf 7 [] rfl (fun _=>Qf fo29_3 (.r rfl) rfl) (Zo 8 1 [13] rfl (fun _ ho_=>Qd 1 Hh (.r rfl) ho_ G8 xl) (Zf 9 [14] rfl (fun _=>QW.call NY (.cons (.r rfl) .nil) (NP Xc.self hxw)) (Zf 10 [7,9,12,15] rfl (fun _=>QW.build (idx:=[0,1,2,3]) pl40 z40 rfl (.cons (.r rfl) (.cons (.r rfl) (.cons (.r rfl) (.cons (.r rfl) .nil)))) rfl rfl rfl rfl) (JX.a 11 rfl (AllocOp.mk z40 rfl) rfl rfl rfl rfl rfl (JX.one 12 [true,true,true,true,true,true,true,true,true,true,true,true] rfl (by kernel_rfl) (by kernel_rfl) rfl rfl (by kernel_rfl) rfl fun bs12_ pe_ ex_=>?_))))))))
    refine JL.conv (by(try simp only[Uc,Ui,Q5,QR,Flt.val,Flt.bx,nx,nl,Qj,Qv,Qw,Qu,QY,AV.cellsOf,Qb,Qc,Nat.reduceAdd]);rfl) ?_
    first|refine Qa 2 UR (.r rfl) rfl (.r rfl) (by first|rfl|assumption) rfl rfl rfl ?_|refine Qa 2 UR (.r rfl) rfl (.r rfl) (by first|rfl|assumption) rfl (TmT.cs_length _ _) rfl ?_|refine Qa 2 UR (.r rfl) rfl (.r rfl) (by first|rfl|assumption) (TmT.cs_length _ _) rfl rfl ?_|refine Qa 2 UR (.r rfl) rfl (.r rfl) (by first|rfl|assumption) (TmT.cs_length _ _) (TmT.cs_length _ _) rfl ?_|refine JL.store_box 2 UR (.r rfl) rfl (.r rfl) (by first|rfl|assumption) rfl rfl rfl rfl ?_|refine JL.store_box 2 UR (.r rfl) rfl (.r rfl) (by first|rfl|assumption) (TmT.cs_length _ _) rfl rfl rfl ?_
    refine JL.nil ?_
    refine thenQ.n ⟨[],_,rfl,rfl,rfl,rfl,rfl,QK 3 rfl,trivial,trivial,?_⟩
    refine JX.conv (S':=[12,11,10,9,8,7,6,5,4,3,2,1,0]) rfl (by(try simp only[QR]);rfl) (by(try simp only[Uc,Ui,Q5,QR,Flt.val,Flt.bx,nx,nl,Qj,Qv,Qw,Qu,QY,AV.cellsOf,Qb,Qc,Nat.reduceAdd]);rfl) ?_
    refine JX.fin (by kernel_rfl) (by kernel_rfl) fun bs_=>?_
    refine QX.conv (by(try simp only[Uc,Ui,Q5,QR,Flt.val,Flt.bx,nx,nl,Qj,Qv,Qw,Qu,QY,AV.cellsOf,Qb,Qc,Nat.reduceAdd]);rfl) ?_
    refine thenQ.n (J.seq (Zs (Zq rfl (QW.assign .const) (Zn (J.block (J.reown (Ur eSe _) (Ub (ι:=Nat×Value) [1,2,3] (fun⟨j,v1⟩=>[(4,.c (.int .i64 (j:Int)))]) (fun⟨j,v1⟩ oo=>List.set (List.set oo 3 (.arr v1 eSe (SetT.css true (a.take j)))) 2 (.box (bs12_ 11) [.c (.int .i64 w),.c (Q4 tg),.c (.int .i64 ko),.c (.int .u64 kb),.c (Q4 kt),.sl true false Rk (EX.css true kls),.c (.int .i64 xo),.c (.int .u64 xb),.c (Q4 xt),.sl true false Rk (EX.css true xls),.c v1,.c (.slice none 0 0)])) (fun⟨j,v1⟩=>j≤a.length) (fun⟨j,v1⟩=>a.length-j) ⟨0,.slice none 0 0⟩ (Nat.zero_le _) (QT (.cons rfl lr (.cons rfl lr (.cons rfl lr (.cons rfl lr .nil)))) (Reown.refl _) (fun _ h=>by first|exact h|simp[h])) ?_)))))))
    intro⟨j,v1⟩ hj
    refine J.conv (by(try simp only[nl,Qj,Qv,Qw,Qu,QY,AV.cellsOf,Qb,Qc,Nat.reduceAdd]);rfl) ?_
    refine J.seq (Zs (Zm rfl (Zd DG rfl (Zq rfl (Qe 1 ty26 (.r rfl) rfl YL) (Zq rfl (by first|exact Qh NK (.r rfl) wl|exact Qh NK (.r rfl) (TmT.css_length _ _)|exact Qh NK (.r rfl) (SetT.css_length _ _)|exact Qh NK (.r rfl) (TrT.css_length _ _)|exact Qh NK (.r rfl) (AtT.css_length _)|exact QC NK (.r rfl)|exact QW.len_nil NK (.r rfl)) ?_)))))
    refine Zq rfl (QW.lss (.r rfl) (.r rfl)) (Zn ?_)
    refine J.cond (.r rfl) (fun c1=>?_) (fun c1=>?_)
    · skip
      have hlt:j<a.length:=by simpa[SetT.css_length,TmT.attrs]using c1
      refine Zk (J.seq (J.block (QO mixed (Zf 0 [] rfl (fun _=>Qf Gs (.r rfl) rfl) (Zo 1 2 [24] rfl (fun _ ho_=>Qe 2 T5 (.r rfl) ho_ rfl) (Zf 2 [] rfl (fun _=>Qf DG (.r rfl) rfl) (Zo 3 1 [26] rfl (fun _ ho_=>Qe 1 ty26 (.r rfl) ho_ YL) (Zf 4 [] rfl (fun _=>QW.move (.r rfl)) (Zf 5 [27,28] rfl (fun _=>Qi NK ty112 rfl (.r rfl) (.r rfl) (by first|rfl|omega|(simp;done)) (by exact SetT.css_getE _ hlt)) ?_)))))))))
      refine Zf 6 [29] rfl (fun _=>QN Qa7 (.r rfl) rfl) (Zf 7 [30] rfl (fun _=>QB U0 (.r rfl) rfl) (Zf 8 [] rfl (fun _=>Qf DG (.r rfl) rfl) (Zo 9 1 [32] rfl (fun _ ho_=>Qe 1 ty26 (.r rfl) ho_ YL) (Zf 10 [] rfl (fun _=>QW.move (.r rfl)) (Zf 11 [33,34] rfl (fun _=>Qi NK ty112 rfl (.r rfl) (.r rfl) (by first|rfl|omega|(simp;done)) (by exact SetT.css_getE _ hlt)) ?_)))))
      refine Zf 12 [35] rfl (fun _=>QN Qa6 (.r rfl) rfl) (Zf 13 [36] rfl (fun _=>Qo Hh (.r rfl) SetT.at1 xl) (Zf 14 [37] rfl (fun _=>QW.call NY (.cons (.r rfl) .nil) (NP Xc.self (hws _ (List.getElem_mem hlt)).ex)) (Zf 15 [31,38] rfl (fun _=>QW.build (idx:=[0,1]) pl114 F2 rfl (.cons (.r rfl) (.cons (.r rfl) .nil)) rfl rfl rfl (by exact Qa9 xl)) ?_)))
      refine Zf 16 [39] rfl (fun _=>QW.buildSlice (idx:=[0]) (xs:=[SetT.cs true a[j]]) (zs:=[AV.agg (SetT.cs true a[j])]) Yg el114 F2 rfl (.cons (.r rfl) .nil) rfl rfl rfl rfl rfl (by exact Lx (SetT.cs_length _ _)) rfl (Rn (SetT.cs_length _ _)) rfl) ?_
      refine JX.one 17 [true,true,true,true,true,true,true,true,true,true,true,true,true,true,true,true,true] rfl (by kernel_rfl) (by kernel_rfl) rfl rfl (by kernel_rfl) rfl fun bs17_ pe_ ex_=>?_
      refine JL.conv (by(try simp only[Uc,Ui,Q5,QR,Flt.val,Flt.bx,nx,nl,Qj,Qv,Qw,Qu,QY,AV.cellsOf,Qb,Qc,Nat.reduceAdd]);rfl) ?_
      refine JL.append 3 Yg el114 rfl (.r rfl) rfl (Ww Yg (.r rfl)) (by rw[SetT.css_length,List.length_take];show(_+1)*72≤_;omega) rfl fun v41=>?_
      refine JL.nil ?_
      refine thenQ.n ⟨[_],_,rfl,rfl,rfl,rfl,rfl,QK 4 rfl,⟨rfl,rfl⟩,trivial,?_⟩
      refine JX.conv (S':=[17,16,15,14,13,12,11,10,9,8,7,6,5,4,3,2,1,0]) rfl (by(try simp only[QR]);rfl) (by(try simp only[Uc,Ui,Q5,QR,Flt.val,Flt.bx,nx,nl,Qj,Qv,Qw,Qu,QY,AV.cellsOf,Qb,Qc,Nat.reduceAdd]);rfl) ?_
      refine Zf 18 [] rfl (fun _=>Qf Gs (.r rfl) rfl) (JX.one 19 [true] rfl (by kernel_rfl) (by kernel_rfl) rfl rfl (by kernel_rfl) rfl fun bs19_ pe_ ex_=>?_)
      refine JL.conv (by(try simp only[Uc,Ui,Q5,QR,Flt.val,Flt.bx,nx,nl,Qj,Qv,Qw,Qu,QY,AV.cellsOf,Qb,Qc,Nat.reduceAdd]);rfl) ?_
      refine JL.isSlice 3 rfl fun hs1=>JL.store_box 2 T5 (.r rfl) rfl (.r rfl) (by first|rfl|assumption) rfl rfl rfl rfl ?_
      refine JL.nil ?_
      refine thenQ.n ⟨[],_,rfl,rfl,rfl,rfl,rfl,QK 4 rfl,trivial,trivial,?_⟩
      refine JX.conv (S':=[19,18,17,16,15,14,13,12,11,10,9,8,7,6,5,4,3,2,1,0]) rfl (by(try simp only[QR]);rfl) (by(try simp only[Uc,Ui,Q5,QR,Flt.val,Flt.bx,nx,nl,Qj,Qv,Qw,Qu,QY,AV.cellsOf,Qb,Qc,Nat.reduceAdd]);rfl) ?_
      refine JX.fin (by kernel_rfl) (by kernel_rfl) fun bs_=>?_
      refine QX.conv (by(try simp only[Uc,Ui,Q5,QR,Flt.val,Flt.bx,nx,nl,Qj,Qv,Qw,Qu,QY,AV.cellsOf,Qb,Qc,Nat.reduceAdd]);rfl) ?_
      refine blkQ.n (thenQ.n (Qg (Zm rfl (Zq rfl (QW.add (.r rfl) .const (by first|exact Wl (by first|rfl|omega|(simp;done)) (by omega)|exact YZ (by omega)|rfl)) ?_))))
      refine Za rfl (Zn ?_)
      rw[SetT.css_tk hlt]
      exact⟨⟨j+1,v41⟩,hlt,by show a.length-(j+1)<a.length-j;omega,QT (.cons rfl lr (.cons rfl lr (.cons rfl lr (.cons rfl lr .nil)))) (Reown.refl _) (fun _ h=>by first|exact h|simp[h])⟩
    obtain rfl:j=a.length:=by(simp[SetT.css_length,TmT.attrs]at c1;omega)
    rw[List.take_length]
    refine J.exit (Qz (Qz (Q1 (thenQ.n (J.seq (Zs (Zq rfl (QW.assign .const) (Zn (J.block ?_)))))))))
    refine J.reown (Ur eTm _) (Ub (ι:=Nat×Value) [1,2,3] (fun⟨i,v2⟩=>[(5,.c (.int .i64 (i:Int)))]) (fun⟨i,v2⟩ oo=>List.set (List.set oo 4 (.arr v2 eTm (TmT.css true (l.take i)))) 2 (.box (bs12_ 11) [.c (.int .i64 w),.c (Q4 tg),.c (.int .i64 ko),.c (.int .u64 kb),.c (Q4 kt),.sl true false Rk (EX.css true kls),.c (.int .i64 xo),.c (.int .u64 xb),.c (Q4 xt),.sl true false Rk (EX.css true xls),.c v1,.c v2])) (fun⟨i,v2⟩=>i≤l.length) (fun⟨i,v2⟩=>l.length-i) ⟨0,.slice none 0 0⟩ (Nat.zero_le _) (QT (.cons rfl lr (.cons rfl lr (.cons rfl lr (.cons rfl lr .nil)))) (Reown.refl _) (fun _ h=>by first|exact h|simp[h])) ?_)
    intro⟨i,v2⟩ hi
    refine J.conv (by(try simp only[nl,Qj,Qv,Qw,Qu,QY,AV.cellsOf,Qb,Qc,Nat.reduceAdd]);rfl) ?_
    refine J.seq (Zs (Zm rfl (Zd Pt rfl (Zq rfl (Qe 1 ty27 (.r rfl) rfl YK) (Zq rfl (by first|exact Qh LM (.r rfl) wl|exact Qh LM (.r rfl) (TmT.css_length _ _)|exact Qh LM (.r rfl) (SetT.css_length _ _)|exact Qh LM (.r rfl) (TrT.css_length _ _)|exact Qh LM (.r rfl) (AtT.css_length _)|exact QC LM (.r rfl)|exact QW.len_nil LM (.r rfl)) ?_)))))
    refine Zq rfl (QW.lss (.r rfl) (.r rfl)) (Zn ?_)
    refine J.cond (.r rfl) (fun c2=>?_) (fun c2=>?_)
    · skip
      have hlt2:i<l.length:=by simpa[TmT.css_length,TmT.kids]using c2
      refine Zk (J.seq (J.block (QO mixed (Zf 0 [] rfl (fun _=>Qf KF (.r rfl) rfl) (Zo 1 2 [50] rfl (fun _ ho_=>Qe 2 RK (.r rfl) ho_ rfl) (Zf 2 [] rfl (fun _=>Qf Pt (.r rfl) rfl) (Zo 3 1 [52] rfl (fun _ ho_=>Qe 1 ty27 (.r rfl) ho_ YK) (Zf 4 [] rfl (fun _=>QW.move (.r rfl)) (Zf 5 [53,54] rfl (fun _=>Qi LM YP rfl (.r rfl) (.r rfl) (by first|rfl|omega|(simp;done)) (by exact TmT.css_getE _ hlt2)) ?_)))))))))
      refine Zf 6 [55] rfl (fun _=>by first|exact Qo YP (.r rfl) rfl rfl|exact Qo YP (.r rfl) (QJ (TmT.cs_length _ _) rfl) (TmT.cs_length _ _)) ?_
      refine Zf 7 [56] rfl (fun _=>QW.call L6 (.cons (.r rfl) .nil) (ih (hwl _ (List.getElem_mem hlt2)) (TmT.sz_get hn hlt2))) (Zf 8 [57] rfl (fun _=>QW.buildSlice (idx:=[0]) (xs:=[TmT.cs true l[i]]) (zs:=[AV.agg (TmT.cs true l[i])]) Xb el40 z40 rfl (.cons (.r rfl) .nil) rfl rfl rfl rfl rfl (by exact Lx (TmT.cs_length _ _)) rfl (Rn (TmT.cs_length _ _)) rfl) ?_)
      refine JX.one 9 [true,true,true,true,true,true,true,true,true] rfl (by kernel_rfl) (by kernel_rfl) rfl rfl (by kernel_rfl) rfl fun bs9_ pe_ ex_=>?_
      refine JL.conv (by(try simp only[Uc,Ui,Q5,QR,Flt.val,Flt.bx,nx,nl,Qj,Qv,Qw,Qu,QY,AV.cellsOf,Qb,Qc,Nat.reduceAdd]);rfl) ?_
      refine JL.append 4 Xb el40 rfl (.r rfl) rfl (Ww Xb (.r rfl)) (by rw[TmT.css_length,List.length_take];show(_+1)*184≤_;omega) rfl fun v59=>?_
      refine JL.nil ?_
      refine thenQ.n ⟨[_],_,rfl,rfl,rfl,rfl,rfl,QK 5 rfl,⟨rfl,rfl⟩,trivial,?_⟩
      refine JX.conv (S':=[9,8,7,6,5,4,3,2,1,0]) rfl (by(try simp only[QR]);rfl) (by(try simp only[Uc,Ui,Q5,QR,Flt.val,Flt.bx,nx,nl,Qj,Qv,Qw,Qu,QY,AV.cellsOf,Qb,Qc,Nat.reduceAdd]);rfl) ?_
      refine Zf 10 [] rfl (fun _=>Qf KF (.r rfl) rfl) (JX.one 11 [true] rfl (by kernel_rfl) (by kernel_rfl) rfl rfl (by kernel_rfl) rfl fun bs11_ pe_ ex_=>?_)
      refine JL.conv (by(try simp only[Uc,Ui,Q5,QR,Flt.val,Flt.bx,nx,nl,Qj,Qv,Qw,Qu,QY,AV.cellsOf,Qb,Qc,Nat.reduceAdd]);rfl) ?_
      refine JL.isSlice 4 rfl fun hs1=>JL.store_box 2 RK (.r rfl) rfl (.r rfl) (by first|rfl|assumption) rfl rfl rfl rfl ?_
      refine JL.nil ?_
      refine thenQ.n ⟨[],_,rfl,rfl,rfl,rfl,rfl,QK 5 rfl,trivial,trivial,?_⟩
      refine JX.conv (S':=[11,10,9,8,7,6,5,4,3,2,1,0]) rfl (by(try simp only[QR]);rfl) (by(try simp only[Uc,Ui,Q5,QR,Flt.val,Flt.bx,nx,nl,Qj,Qv,Qw,Qu,QY,AV.cellsOf,Qb,Qc,Nat.reduceAdd]);rfl) ?_
      refine JX.fin (by kernel_rfl) (by kernel_rfl) fun bs_=>?_
      refine QX.conv (by(try simp only[Uc,Ui,Q5,QR,Flt.val,Flt.bx,nx,nl,Qj,Qv,Qw,Qu,QY,AV.cellsOf,Qb,Qc,Nat.reduceAdd]);rfl) ?_
      refine blkQ.n (thenQ.n (Qg (Zm rfl (Zq rfl (QW.add (.r rfl) .const (by first|exact Wl (by first|rfl|omega|(simp;done)) (by omega)|exact YZ (by omega)|rfl)) ?_))))
      refine Za rfl (Zn ?_)
      rw[TmT.css_tk hlt2]
      exact⟨⟨i+1,v59⟩,hlt2,by show l.length-(i+1)<l.length-i;omega,QT (.cons rfl lr (.cons rfl lr (.cons rfl lr (.cons rfl lr .nil)))) (Reown.refl _) (fun _ h=>by first|exact h|simp[h])⟩
    obtain rfl:i=l.length:=by(simp[TmT.css_length,TmT.kids]at c2;omega)
    rw[List.take_length]
    refine J.exit (Qz (Qz (Q1 (thenQ.n (J.seq (J.closeArr 3 rfl (by rw[SetT.css_length];exact haw) rfl (fun _ h=>by cases h) ?_))))))
    refine J.closeArr (4-1) rfl (by rw[TmT.css_length];exact hlw) rfl (fun _ h=>by cases h) ?_
    refine Qg (Zq rfl (by first|exact Qd 2 UR (.r rfl) rfl rfl rfl|exact Qd 2 UR (.r rfl) rfl (Qm (TmT.cs_length _ _) rfl) (TmT.cs_length _ _)) ?_)
    first|refine Qa 0 UR (.r rfl) rfl (.r rfl) (by first|rfl|assumption) rfl rfl rfl ?_|refine Qa 0 UR (.r rfl) rfl (.r rfl) (by first|rfl|assumption) rfl (TmT.cs_length _ _) rfl ?_|refine Qa 0 UR (.r rfl) rfl (.r rfl) (by first|rfl|assumption) (TmT.cs_length _ _) rfl rfl ?_|refine Qa 0 UR (.r rfl) rfl (.r rfl) (by first|rfl|assumption) (TmT.cs_length _ _) (TmT.cs_length _ _) rfl ?_|refine JL.store_box 0 UR (.r rfl) rfl (.r rfl) (by first|rfl|assumption) rfl rfl rfl rfl ?_|refine JL.store_box 0 UR (.r rfl) rfl (.r rfl) (by first|rfl|assumption) (TmT.cs_length _ _) rfl rfl rfl ?_
    exact Zn (J.ret (Zr [.k,.k,.k] (RetEv.one rfl (by first|exact REv.cell 0 UR rfl rfl rfl rfl (.aggL (.cons lr (.cons lr (.cons lr (.cons lr (.cons lr (.cons lr (.cons lr (.cons lr (.cons lr (.cons lr (.cons (.fact (by simp) lr) (.cons (.fact (by simp) lr) .nil)))))))))))))|exact REv.cell 0 UR rfl rfl (Qm (TmT.cs_length _ _) rfl) (TmT.cs_length _ _) (.aggL (.cons lr (.cons lr (.cons lr (.cons lr (.cons lr (.cons lr (.cons lr (.cons lr (.cons lr (.cons lr (.cons (.fact (by simp) lr) (.cons (.fact (by simp) lr) .nil))))))))))))))) rfl ⟨rfl,rfl⟩))
theorem Lj{t:TmT}{fr:Bool}(hw:t.wf):Fn Tryz.prog 12 [.agg (t.cs fr)] (.agg (t.cs true)):=of17_n _ hw (Nat.le_refl _)

end
section
/- The template of a list, and what it makes of texts. -/
def eS5:EX:=.mk 5 0 [] []
def eF8:EX:=.mk 8 0 [108] [eS5]
def eI7:EX:=.mk 7 0 [] []
def txP:TmT:=.mk 2 [] .nil eI7 [] []
def liP:TmT:=.mk 1 [108,105] .nil .nil [] [txP]
def eaP:TmT:=.mk 4 [] .nil eF8 [] [liP]
def HX:TmT:=.mk 1 [117,108] .nil .nil [] [eaP]
def lV(l:List QM):V:=.mk 4 0 [] [] (l.map V.tx)
def tV(l:List QM):V:=.mk 5 0 [] [[108]] [lV l]
def EL(s:QM):TrT:=.mk [108,105] [] [] [] [.txt s]
def ulT(l:List QM):TrT:=.mk [117,108] [] [] [] (l.map EL)
theorem eS5_wf:eS5.wf:=.mk (by decide) (by decide) (by decide) (by decide) (fun _ h=>by cases h)
theorem eI7_wf:eI7.wf:=.mk (by decide) (by decide) (by decide) (by decide) (fun _ h=>by cases h)
theorem eF8_wf:eF8.wf:=.mk (by decide) (by decide) (by decide) (by decide) (fun x h=>by rw[List.mem_singleton.1 h];exact eS5_wf)
theorem Nm:EX.nil.wf:=.mk (by decide) (by decide) (by decide) (by decide) (fun _ h=>by cases h)
theorem txP_wf:txP.wf:=.mk (by decide) (by decide) Nm eI7_wf (by decide) (fun _ h=>by cases h) (by decide) (fun _ h=>by cases h)
theorem liP_wf:liP.wf:=.mk (by decide) (by decide) Nm Nm (by decide) (fun _ h=>by cases h) (by decide) (fun x h=>by rw[List.mem_singleton.1 h];exact txP_wf)
theorem eaP_wf:eaP.wf:=.mk (by decide) (by decide) Nm eF8_wf (by decide) (fun _ h=>by cases h) (by decide) (fun x h=>by rw[List.mem_singleton.1 h];exact liP_wf)
theorem Ta:HX.wf:=.mk (by decide) (by decide) Nm Nm (by decide) (fun _ h=>by cases h) (by decide) (fun x h=>by rw[List.mem_singleton.1 h];exact eaP_wf)
theorem Fc:HX.err=0:=by decide+kernel
theorem lV_wf{l:List QM}(h:l.length≤16)(h2:∀s∈l,s.length≤128):(lV l).wf:=.mk (by decide) (by decide) (by decide) (by decide) (by simp;unfold Qr;omega) (fun _ h=>by cases h) (fun x hx=>by
  obtain⟨s,hs,rfl⟩:=List.mem_map.1 hx
  exact(XQ (h2 s hs)).wf)
theorem tV_wf{l:List QM}(h:l.length≤16)(h2:∀s∈l,s.length≤128):(tV l).wf:=.mk (by decide) (by decide) (by decide) (by decide) (by show 1*80≤Qr;decide) (fun x hx=>by rw[List.mem_singleton.1 hx];decide) (fun x hx=>by rw[List.mem_singleton.1 hx];exact lV_wf h h2)
theorem tx_chk{s:QM}(h:s.length≤128){lev n:Int}(hl:lev≤8)(hn:n<512):(V.tx s).chk lev n=(0,n+1):=by
  unfold V.tx
  rw[V.chk,if_neg (by omega),if_neg (by omega),if_neg (by simp[Q8,h]),V.chks]
theorem Em{lev:Int}(hl:lev≤7):∀{l:List QM} {n:Int},(∀s∈l,s.length≤128)→n+l.length≤512→V.chks (l.map V.tx) lev n=(0,n+l.length)
  |[],n,_,_=>by simp[V.chks]
  |s::r,n,h,hn=>by
    simp only[List.length_cons]at hn
    rw[List.map_cons,V.chks,tx_chk (h s (by simp)) (by omega) (by omega),if_neg (by simp),Em hl (fun x hx=>h x (by simp[hx])) (by show n+1+_≤512;omega)]
    simp;omega
theorem Bk{l:List QM}(h:l.length≤16)(h2:∀s∈l,s.length≤128):(tV l).err=0:=by
  have hk:Q8 (tV l)=true:=by simp[tV,Q8];decide
  have h4:Q8 (lV l)=true:=by simp[lV,Q8];omega
  unfold V.err tV
  rw[V.chk,if_neg (by decide),if_neg (by decide),if_neg (by show ¬Q8 (tV l)=false;rw[hk];simp),V.chks]
  have h1:(lV l).chk 2 1=((0,2+(l.length:Int)):Int×Int):=by
    unfold lV
    rw[V.chk,if_neg (by decide),if_neg (by decide),if_neg (by show ¬Q8 (lV l)=false;rw[h4];simp),Em (by decide) h2 (by omega)]
    rfl
  show(if((lV l).chk 2 1).1≠0 then(lV l).chk 2 1 else V.chks [] 1 ((lV l).chk 2 1).2).1=0
  rw[h1];rfl
/-! what it makes -/
theorem Xz{α β:Type}{v:α}{f:Int}{k:α→Int→ER β}:Uh (.ok (v,f)) k=k v f:=rfl
theorem R2{s:ScT}{f:Int}(h:1≤f):WK (EX.nil.ev s f)=.ok ([],f-1):=by
  unfold EX.nil
  rw[ev_0 (by omega)];rfl
theorem Sp{s:ScT}{x:QM}{f:Int}(h:1≤f)(hx:x.length≤128)(hs:s.it=.tx x):WK (eI7.ev s f)=.ok (x,f-1):=by
  unfold eI7
  rw[ev_7 (by omega),hs]
  have:=LH (XQ hx)
  show(if(Xl (V.tx x)).2=0 then _ else _)=_
  rw[this];rfl
theorem S3{s:ScT}{x:QM}{f:Int}(h:2≤f)(hx:x.length≤128)(hs:s.it=.tx x):Qy [liP] s f=.ok ([EL x],f-2):=by
  have h2:Qy [txP] s (f-1)=.ok ([.txt x],f-2):=by
    rw[Qy,txP,TmT.partE,if_neg (by decide),if_pos rfl,Sp (by omega) hx hs]
    simp only[Xz,Qy]
    rw[show f-1-1=f-2 by omega];rfl
  rw[Qy,liP,TmT.partE,if_pos rfl,Yq,R2 (by omega)]
  simp only[Xz]
  rw[if_neg (by decide),Ye]
  simp only[Xz,h2]
  simp only[Xz,Qy]
  rfl
theorem EK{s:ScT}:∀{l:List QM} {f:Int},(∀x∈l,x.length≤128)→2*l.length≤f→UX (fun y f=>Qy [liP] {s with it:=y} f) (l.map V.tx) f=.ok (l.map EL,f-2*l.length)
  |[],f,_,_=>by rw[List.map_nil,UX];simp
  |x::r,f,h,hf=>by
    simp only[List.length_cons]at hf
    rw[List.map_cons,UX,S3 (x:=x) (by omega) (h x (by simp)) rfl]
    show Uh (UX _ (r.map V.tx) (f-2)) _=_
    rw[EK (fun y hy=>h y (by simp[hy])) (by omega)]
    show Except.ok ([EL x]++r.map EL,f-2-2*(r.length:Int))=_
    simp only[List.map_cons,List.length_cons,List.singleton_append]
    rw[show f-2-2*(r.length:Int)=f-2*((r.length+1:Nat):Int) by omega]
theorem get_l{l:List QM}(h:l.length≤16)(h2:∀s∈l,s.length≤128):Uy 8 [108] [tV l]=.ok (lV l):=by
  have h3:(tV l).getv [⟨true,[108],0⟩]=(lV l,0):=by
    unfold V.getv
    rw[if_neg (by rw[Bk h h2];simp)]
    rfl
  show Lg (tV l) ⟨true,[108],0⟩=_
  unfold Lg
  rw[h3];rfl
theorem S1{l:List QM}{s:ScT}{f:Int}(h:l.length≤16)(hs:s.st=tV l)(h2:∀x∈l,x.length≤128)(hf:3+2*l.length≤f):HX.elE s f=.ok (ulT l,f-3-2*l.length):=by
  have hx:eF8.ev s (f-1)=.ok (lV l,f-3):=by
    unfold eF8
    rw[Co (by omega) (.inr (by decide)),Uj,eS5,ev_5 (by omega),hs]
    simp only[Uj]
    show plE 8 [108] (.ok ([tV l],f-1-1-1))=_
    unfold plE
    simp only[get_l h h2]
    rw[show f-1-1-1=f-3 by omega]
  have h3:Qy [eaP] s (f-1)=.ok (l.map EL,f-3-2*l.length):=by
    rw[Qy,eaP,TmT.partE,if_neg (by decide),if_neg (by decide),hx]
    simp only[Xz]
    rw[if_neg (by decide),if_pos (show(lV l).kind=4 from rfl),show(lV l).items=l.map V.tx from rfl,EK h2 (by omega)]
    simp only[Xz,Qy,List.append_nil]
  unfold HX
  rw[TmT.elE]
  unfold Yq
  rw[R2 (by omega)]
  simp only[Xz]
  rw[if_neg (by decide),Ye]
  simp only[Xz,h3]
  rfl
theorem S2{x:QM}(hx:x.length≤128){w:RG}(he:w.e=0)(hn:w.n<255):(EL x).walk 2 w=⟨w.n+2,max w.d 3,0⟩:=by
  have h1:(TrT.txt x).nodeE 3 (w.n+1)=0:=by
    unfold TrT.nodeE
    rw[if_neg (by decide),if_neg (by omega),if_neg (by simp[TrT.txt,Yk,TrT.tag,TrT.key,TrT.text,TrT.attrs,TrT.kids,hx]),if_neg (by show ¬Gc []=true;decide)]
  have h2:(EL x).nodeE 2 w.n=0:=by
    unfold TrT.nodeE
    rw[if_neg (by decide),if_neg (by omega),if_neg (by simp[EL,TrT.tag,TrT.key,TrT.text,TrT.attrs,TrT.kids];decide),if_neg (by simp[EL,TrT.kids,TrT.txt,TrT.key];decide)]
  unfold EL at h2⊢
  rw[TrT.walk,if_neg (fun hc=>hc he),if_neg (fun hc=>hc h2),TrT.walks]
  unfold TrT.txt at h1⊢
  rw[TrT.walk,if_neg (by simp),if_neg (fun hc=>hc h1),TrT.walks,TrT.walks]
  show RG.mk (w.n+1+1) (if(2:Int)+1>(if(2:Int)>w.d then 2 else w.d)then 2+1 else(if(2:Int)>w.d then 2 else w.d)) 0=_
  congr 1
  · omega
  · split<;>split at* <;>omega
theorem Tb:∀{l:List QM} {w:RG},(∀x∈l,x.length≤128)→w.e=0→w.n+2*l.length≤256→(TrT.walks (l.map EL) 2 w).e=0
  |[],w,_,he,_=>by rw[List.map_nil,TrT.walks];exact he
  |x::r,w,h,he,hn=>by
    simp only[List.length_cons]at hn
    rw[List.map_cons,TrT.walks,S2 (h x (by simp)) he (by omega)]
    exact Tb (fun y hy=>h y (by simp[hy])) rfl (by show w.n+2+2*(r.length:Int)≤256;omega)
theorem ul_err{l:List QM}(h:l.length≤16)(h2:∀x∈l,x.length≤128):(ulT l).err=0:=by
  have hk:(l.map EL).map TrT.key=List.replicate l.length []:=by
    rw[List.map_map]
    exact List.eq_replicate_iff.2 ⟨by simp,fun y hy=>by obtain⟨s,-,rfl⟩:=List.mem_map.1 hy;rfl⟩
  have h1:(ulT l).nodeE 1 0=0:=by
    unfold TrT.nodeE
    rw[if_neg (by decide),if_neg (by decide),if_neg (by simp[ulT,TrT.tag,TrT.key,TrT.text,TrT.attrs,TrT.kids,h];decide),if_neg]
    show ¬Gc ((l.map EL).map TrT.key)=true
    rw[hk,MW fun i hi=>by
      rw[List.length_replicate]at hi
      simp[Y0,hi]]
    simp
  unfold TrT.err
  rw[if_neg (by show ¬([117,108]:QM)=[];decide)]
  unfold ulT at h1⊢
  rw[TrT.walk,if_neg (by simp),if_neg (fun hc=>hc h1)]
  exact Tb h2 rfl (by show(0:Int)+1+2*(l.length:Int)≤256;omega)
theorem B6{l:List QM}{f:Int}(h:l.length≤16)(h2:∀x∈l,x.length≤128)(hf:3+2*l.length≤f)(hf2:f≤4096):HX.renT (tV l) f=(ulT l,0):=by
  unfold TmT.renT
  rw[if_neg (by rw[Fc];simp),if_neg (by rw[Bk h h2];simp),if_neg (by omega)]
  unfold TmT.treeT
  rw[S1 h rfl h2 hf]
  exact if_neg (by rw[ul_err h h2];simp)

end
end Go.Proofs.YtammalmlbabpbaaGreat.J
