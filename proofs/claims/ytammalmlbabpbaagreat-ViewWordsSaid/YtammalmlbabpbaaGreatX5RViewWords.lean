/- Texts of this proof, laid together. -/
import Derived.Test.YtammalmlbabpbaaGreatX4RViewWords
set_option linter.unusedVariables false
set_option linter.unusedSimpArgs false
namespace Go.Proofs.YtammalmlbabpbaaGreat.J
open Go Go.RowKit
section
/- ViewWords. -/
set_option maxRecDepth 10000
set_option maxHeartbeats 4000000
theorem Nv{n:Int}(h64: -9223372036854775808≤n∧n≤9223372036854775807):Fn Tryz.prog 7 [.c (.int .i64 n)] (.c (.bool true)):=by
  obtain⟨⟨s,e⟩,hW⟩:∃r,YS (V.nu (TV n))=r:=⟨_,rfl⟩
  refine AC.of_J Tryz.func7 rfl Tryz.ntmps7 rfl fun w0 A0=>?_
  refine Zs (Zq rfl (QW.assign .const) (Zn (J.seq (Zs (Zq rfl (QW.call gofn23 .nil (DM)) (Zq rfl (QW.not (.r rfl)) (Zn ?_)))))))
  refine J.cond (.r rfl) (fun c1=>?_) (fun c1=>?_)
  · skip
    exact absurd c1 (by simp)
    --closed
  skip
  refine Zk (Zs (Zm rfl (Zq rfl (QW.call B2 (.cons (.r rfl) .nil) (RR n h64)) (Zm rfl (Zx rfl (Zx rfl (Za rfl (Za rfl (Zn ?_)))))))))
  refine Zs (Zm rfl (Zq rfl (QW.build (idx:=[0,1]) X0 W6 rfl (.cons .const (.cons (.r rfl) .nil)) rfl rfl rfl rfl) (Zq rfl (QW.call B3 (.cons (Ev.le (.r rfl) (.aggL (.cons lr (.cons lr (.cons lr (.cons (.nil true false _) (.cons (.nil true false _) .nil))))))) .nil) ((hW▸Rw (fr:=true) (v:=.nu (TV n)) (Y2 (Ku n).1 (Ku n).2).wf))) (Zm rfl (Zx rfl (Zx rfl (Za rfl (Za rfl (Zn ?_)))))))))
  refine J.seq (Zs (Zm rfl (Zq rfl (QW.call NV (.cons (.r rfl) .nil) (GA _)) (Zq rfl (QW.neq (.r rfl) .const) (Zn ?_)))))
  refine J.cond (.r rfl) (fun c2=>?_) (fun c2=>?_)
  · skip
    have hbad:n< -9007199254740992∨9007199254740992<n:=by(simp[ofE]at c2;omega)
    refine Zs (Zm rfl (Zq rfl (QW.lss (.r rfl) .const) (Zm rfl (Zg rfl (fun hg=>(QW.move (.r rfl))) (Zg rfl (fun hg=>(QW.gtr (.when rfl hg) .const)) (Zq rfl (QW.pick_or (.r rfl) (.r rfl)) (Za rfl (Zn (J.ret ?_)))))))))
    exact thenQ.r (Zr [] (RetEv.one rfl (REv.tmp rfl lr)) rfl ⟨Wl (by simp;omega),rfl⟩)
  have hr: -9007199254740992≤n∧n≤9007199254740992:=by(simp[ofE]at c2;omega)
  rw[PW hr]at hW
  obtain⟨rfl,rfl⟩:=Prod.mk.inj hW
  have hl17:=R7 hr
  refine Zk (Zs (Zq rfl (QW.assign .const) (Zq rfl (QW.assign .const) (Zn (J.seq (Zs (Zm rfl (Zq rfl (QW.lss (.r rfl) .const) (Zn ?_)))))))))
  refine J.cond (.r rfl) (fun c3=>?_) (fun c3=>?_)
  · skip
    have hneg:n<0:=by simpa using c3
    obtain⟨hn0,hn2⟩:=BU hneg
    have hlo1:GC n=1:=if_pos hneg
    refine J.seq (Zs (Zm rfl (Zq rfl (Um Kq (.r rfl)) (Zq rfl (QW.lss (.r rfl) .const) (Zm rfl (Zg rfl (fun hg=>(QW.move (.r rfl))) (Zg rfl (fun hg=>(Wh Kq (.when rfl hg) .const (by first|rfl|omega|(simp;done)) (by exact hn0))) ?_)))))))
    refine Zg rfl (fun hg=>(QW.neq (.when rfl hg) .const)) (Zq rfl (QW.pick_or (.r rfl) (.r rfl)) (Zn ?_))
    refine J.cond (.r rfl) (fun c4=>?_) (fun c4=>?_)
    · skip
      exfalso
      simp at c4
      omega
      --closed
    skip
    refine Zk (Qf (Zq rfl (QW.assign .const) (Zn (J.seq (Zs (Zm rfl (Za rfl (Zn (J.block ?_)))))))))
    refine Ua (ι:=Nat×Int) [0,5,6,8] (fun⟨m,x⟩=>[(9,.c (.int .i64 (m:Int))),(7,.c (.int .i64 x))]) (fun _ oo=>oo) (fun⟨m,x⟩=>GC n≤m∧m≤(Wc n).length∧x=Xg ((H6 n).take (m-GC n))∧0≤x∧x≤n.natAbs) (fun⟨m,x⟩=>(Wc n).length -m) ⟨1,0⟩ (⟨by show GC n≤1;omega,by have:=KR n;obtain⟨_,_,h,_⟩:=this;show 1≤_;omega,by show(0:Int)=Xg ((H6 n).take (1-GC n));rw[hlo1];rfl,Int.le_refl _,by show(0:Int)≤_;omega⟩) (QQ (.cons rfl lr (.cons rfl lr (.cons rfl lr (.cons rfl lr (.cons rfl lr (.cons rfl lr .nil)))))) (Reown.refl _) (fun _ h=>by first|exact h|simp[h])) ?_
    intro⟨m,x⟩ ⟨hlo,hm,hx,hx0,hx1⟩
    refine J.conv (by(try simp only[nl,Qk,Qv,Qw,Qu,QZ,AV.cellsOf,Qb,Qc,Nat.reduceAdd]);rfl) ?_
    refine J.seq (J.seq ?_)
    skip
    refine Qf (Zm rfl (Zm rfl (Zq rfl (Um Kq (.r rfl)) (Zq rfl (QW.lss (.r rfl) (.r rfl)) (Zn ?_)))))
    refine J.cond (.r rfl) (fun c5=>?_) (fun c5=>?_)
    · skip
      have hlt:m<(Wc n).length:=by simpa using c5
      obtain⟨c,hget,hcd,hst,hle,hnn,hle2⟩:=Pt hlo hlt
      have hu8:((c.toNat:Int)-48)%256=(c.toNat:Int)-48:=by omega
      refine Zk (J.seq (J.block (J.seq (Zs (Zm rfl (Zm rfl (Zq rfl (Wh Kq (.r rfl) (.r rfl) (by first|rfl|omega|(simp;done)) (by exact hget)) ?_)))))))
      refine Zq rfl (QW.lss (.r rfl) .const) (Zm rfl (Zg rfl (fun hg=>(QW.move (.r rfl))) (Zg rfl (fun hg=>(QW.move (.r rfl))) (Zg rfl (fun hg=>(Wh Kq (.when rfl hg) (.when rfl hg) (by first|rfl|omega|(simp;done)) (by exact hget))) ?_))))
      refine Zg rfl (fun hg=>(QW.gtr (.when rfl hg) .const)) (Zq rfl (QW.pick_or (.r rfl) (.r rfl)) (Zm rfl (Zg rfl (fun hg=>(QW.move (.r rfl))) (Zg rfl (fun hg=>(Um Kq (.when rfl hg))) (Zg rfl (fun hg=>(QW.gtr (.when rfl hg) .const)) (Zq rfl (QW.pick_or (.r rfl) (.r rfl)) (Zn ?_)))))))
      refine J.cond (.r rfl) (fun c6=>?_) (fun c6=>?_)
      · skip
        exfalso
        simp at c6
        omega
        --closed
      skip
      refine Zk (Qf (Zm rfl (Zq rfl (QW.mul .const (.r rfl) (c:=10*x) (Ym (by omega))) (Zm rfl (Zm rfl (Zq rfl (Wh Kq (.r rfl) (.r rfl) (by first|rfl|omega|(simp;done)) (by exact hget)) ?_))))))
      refine Zq rfl (QW.sub (.r rfl) .const (c:=(c.toNat:Int)-48) (wu8 (by omega))) (Zq rfl (U9 us5 iu3 (.r rfl) (c:=(c.toNat:Int)-48) (Ym (by omega))) (Zq rfl (QW.add (.r rfl) (.r rfl) (c:=10*x+((c.toNat:Int)-48)) (Ym (by omega))) (Za rfl (JL.nil (blkQ.n (thenQ.n (Qf (Zm rfl (Zq rfl (QW.add (.r rfl) .const (by first|exact Wj (by first|rfl|omega|(simp;done)) (by omega)|exact Ym (by omega)|rfl)) ?_)))))))))
      refine Za rfl (Zn ?_)
      exact⟨⟨m+1,10*x+((c.toNat:Int)-48)⟩,⟨by omega,hlt,by rw[hst,hx],by omega,by rw[hst,← hx]at hle;exact hle⟩,by show(Wc n).length -(m+1)<(Wc n).length -m;omega,QQ (.cons rfl lr (.cons rfl lr (.cons rfl lr (.cons rfl lr (.cons rfl lr (.cons rfl lr .nil)))))) (Reown.refl _) (fun _ h=>by first|exact h|simp[h])⟩
    have hge:(Wc n).length≤m:=by simpa using c5
    obtain⟨d0,hd0,hd1,hd2⟩:=KR n
    have hx9:x=n.natAbs:=hx.trans (Cg hge)
    refine J.exit (Qy (Qy (Q1 (thenQ.n (J.seq (Zs (Zm rfl (Zq rfl (QW.lss (.r rfl) .const) (Zn ?_)))))))))
    refine J.cond (.r rfl) (fun c6=>?_) (fun c6=>absurd c6 (by simpa using hneg))
    refine Qf (Zm rfl (Zq rfl (QW.neg (.r rfl) (c:= -x) (by rw[Int.zero_sub];exact Ym (by omega))) ?_))
    refine Za rfl (Zn (Zs (Zm rfl (Zq rfl (QW.call NV (.cons (.r rfl) .nil) (GA _)) (Zq rfl (QW.eql (.r rfl) .const) (Zm rfl (Zg rfl (fun hg=>(QW.move (.r rfl))) (Zg rfl (fun hg=>(QW.move (.r rfl))) (Zg rfl (fun hg=>(QW.eql (.when rfl hg) (.when rfl hg))) ?_)))))))))
    refine Zq rfl (QW.pick_and (.r rfl) (.r rfl)) (Zm rfl (Zg rfl (fun hg=>(QW.move (.r rfl))) (Zg rfl (fun hg=>(Um Kq (.when rfl hg))) (Zg rfl (fun hg=>(QW.move (.r rfl))) (Zg rfl (fun hg=>(QW.gtr (.when rfl hg) (.when rfl hg))) (Zq rfl (QW.pick_and (.r rfl) (.r rfl)) (Zm rfl (Zg rfl (fun hg=>(QW.move (.r rfl))) (Zg rfl (fun hg=>(QW.move (.r rfl))) ?_)))))))))
    refine Zg rfl (fun hg=>(Wh Kq (.when rfl hg) (.when rfl hg) (by first|rfl|omega|(simp;done)) (by first|(rw[hlo1]at hd0;exact hd0)|(rw[hlo0]at hd0;exact hd0)))) ?_
    refine Zg rfl (fun hg=>(QW.neq (.when rfl hg) .const)) (Zg rfl (fun hg=>(QW.move (.when rfl hg))) (JL.gg rfl rfl rfl rfl rfl (fun hg=>(QW.move (.r rfl))) (JL.gg rfl rfl rfl rfl rfl (fun hg=>(Um Kq (.when rfl hg))) (JL.gg rfl rfl rfl rfl rfl (fun hg=>(QW.eql (.when rfl hg) .const)) (Zg rfl (fun hg=>(by first|exact QW.pick_or (.when rfl hg) (.r rfl)|exact KE hg (.when rfl hg) (.r rfl))) ?_)))))
    exact Zq rfl (QW.pick_and (.r rfl) (.r rfl)) (Za rfl (Zn (J.ret (Zr [] (RetEv.one rfl (REv.tmp rfl lr)) rfl ⟨Wl (by clear hx;rcases hd2 with h|h<;>first|(exfalso;omega)|(simp[h];omega)),rfl⟩))))
  have hneg:¬n<0:=by simpa using c3
  have hlo0:GC n=0:=if_neg hneg
  refine Zk (J.seq (Zs (Zm rfl (Za rfl (Zn (J.block (Ua (ι:=Nat×Int) [0,5,6,8] (fun⟨m,x⟩=>[(9,.c (.int .i64 (m:Int))),(7,.c (.int .i64 x))]) (fun _ oo=>oo) (fun⟨m,x⟩=>GC n≤m∧m≤(Wc n).length∧x=Xg ((H6 n).take (m-GC n))∧0≤x∧x≤n.natAbs) (fun⟨m,x⟩=>(Wc n).length -m) ⟨0,0⟩ (⟨by show GC n≤0;omega,by have:=KR n;obtain⟨_,_,h,_⟩:=this;show 0≤_;omega,by show(0:Int)=Xg ((H6 n).take (0-GC n));rw[hlo0];rfl,Int.le_refl _,by show(0:Int)≤_;omega⟩) (QQ (.cons rfl lr (.cons rfl lr (.cons rfl lr (.cons rfl lr (.cons rfl lr (.cons rfl lr .nil)))))) (Reown.refl _) (fun _ h=>by first|exact h|simp[h])) ?_)))))))
  intro⟨m,x⟩ ⟨hlo,hm,hx,hx0,hx1⟩
  refine J.conv (by(try simp only[nl,Qk,Qv,Qw,Qu,QZ,AV.cellsOf,Qb,Qc,Nat.reduceAdd]);rfl) ?_
  refine J.seq (J.seq ?_)
  skip
  refine Qf (Zm rfl (Zm rfl (Zq rfl (Um Kq (.r rfl)) (Zq rfl (QW.lss (.r rfl) (.r rfl)) (Zn ?_)))))
  refine J.cond (.r rfl) (fun c4=>?_) (fun c4=>?_)
  · skip
    have hlt:m<(Wc n).length:=by simpa using c4
    obtain⟨c,hget,hcd,hst,hle,hnn,hle2⟩:=Pt hlo hlt
    have hu8:((c.toNat:Int)-48)%256=(c.toNat:Int)-48:=by omega
    refine Zk (J.seq (J.block (J.seq (Zs (Zm rfl (Zm rfl (Zq rfl (Wh Kq (.r rfl) (.r rfl) (by first|rfl|omega|(simp;done)) (by exact hget)) ?_)))))))
    refine Zq rfl (QW.lss (.r rfl) .const) (Zm rfl (Zg rfl (fun hg=>(QW.move (.r rfl))) (Zg rfl (fun hg=>(QW.move (.r rfl))) (Zg rfl (fun hg=>(Wh Kq (.when rfl hg) (.when rfl hg) (by first|rfl|omega|(simp;done)) (by exact hget))) ?_))))
    refine Zg rfl (fun hg=>(QW.gtr (.when rfl hg) .const)) (Zq rfl (QW.pick_or (.r rfl) (.r rfl)) (Zm rfl (Zg rfl (fun hg=>(QW.move (.r rfl))) (Zg rfl (fun hg=>(Um Kq (.when rfl hg))) (Zg rfl (fun hg=>(QW.gtr (.when rfl hg) .const)) (Zq rfl (QW.pick_or (.r rfl) (.r rfl)) (Zn ?_)))))))
    refine J.cond (.r rfl) (fun c5=>?_) (fun c5=>?_)
    · skip
      exfalso
      simp at c5
      omega
      --closed
    skip
    refine Zk (Qf (Zm rfl (Zq rfl (QW.mul .const (.r rfl) (c:=10*x) (Ym (by omega))) (Zm rfl (Zm rfl (Zq rfl (Wh Kq (.r rfl) (.r rfl) (by first|rfl|omega|(simp;done)) (by exact hget)) ?_))))))
    refine Zq rfl (QW.sub (.r rfl) .const (c:=(c.toNat:Int)-48) (wu8 (by omega))) (Zq rfl (U9 us5 iu3 (.r rfl) (c:=(c.toNat:Int)-48) (Ym (by omega))) (Zq rfl (QW.add (.r rfl) (.r rfl) (c:=10*x+((c.toNat:Int)-48)) (Ym (by omega))) (Za rfl (JL.nil (blkQ.n (thenQ.n (Qf (Zm rfl (Zq rfl (QW.add (.r rfl) .const (by first|exact Wj (by first|rfl|omega|(simp;done)) (by omega)|exact Ym (by omega)|rfl)) ?_)))))))))
    refine Za rfl (Zn ?_)
    exact⟨⟨m+1,10*x+((c.toNat:Int)-48)⟩,⟨by omega,hlt,by rw[hst,hx],by omega,by rw[hst,← hx]at hle;exact hle⟩,by show(Wc n).length -(m+1)<(Wc n).length -m;omega,QQ (.cons rfl lr (.cons rfl lr (.cons rfl lr (.cons rfl lr (.cons rfl lr (.cons rfl lr .nil)))))) (Reown.refl _) (fun _ h=>by first|exact h|simp[h])⟩
  have hge:(Wc n).length≤m:=by simpa using c4
  obtain⟨d0,hd0,hd1,hd2⟩:=KR n
  have hx9:x=n.natAbs:=hx.trans (Cg hge)
  refine J.exit (Qy (Qy (Q1 (thenQ.n (J.seq (Zs (Zm rfl (Zq rfl (QW.lss (.r rfl) .const) (Zn ?_)))))))))
  refine J.cond (.r rfl) (fun c5=>absurd c5 (by simpa using hneg)) (fun c5=>?_)
  refine Zk (Zs (Zm rfl (Zq rfl (QW.call NV (.cons (.r rfl) .nil) (GA _)) (Zq rfl (QW.eql (.r rfl) .const) (Zm rfl (Zg rfl (fun hg=>(QW.move (.r rfl))) (Zg rfl (fun hg=>(QW.move (.r rfl))) (Zg rfl (fun hg=>(QW.eql (.when rfl hg) (.when rfl hg))) (Zq rfl (QW.pick_and (.r rfl) (.r rfl)) ?_)))))))))
  refine Zm rfl (Zg rfl (fun hg=>(QW.move (.r rfl))) (Zg rfl (fun hg=>(Um Kq (.when rfl hg))) (Zg rfl (fun hg=>(QW.move (.r rfl))) (Zg rfl (fun hg=>(QW.gtr (.when rfl hg) (.when rfl hg))) (Zq rfl (QW.pick_and (.r rfl) (.r rfl)) (Zm rfl (Zg rfl (fun hg=>(QW.move (.r rfl))) (Zg rfl (fun hg=>(QW.move (.r rfl))) (Zg rfl (fun hg=>(Wh Kq (.when rfl hg) (.when rfl hg) (by first|rfl|omega|(simp;done)) (by first|(rw[hlo1]at hd0;exact hd0)|(rw[hlo0]at hd0;exact hd0)))) ?_)))))))))
  refine Zg rfl (fun hg=>(QW.neq (.when rfl hg) .const)) (Zg rfl (fun hg=>(QW.move (.when rfl hg))) (JL.gg rfl rfl rfl rfl rfl (fun hg=>(QW.move (.r rfl))) (JL.gg rfl rfl rfl rfl rfl (fun hg=>(Um Kq (.when rfl hg))) (JL.gg rfl rfl rfl rfl rfl (fun hg=>(QW.eql (.when rfl hg) .const)) (Zg rfl (fun hg=>(by first|exact QW.pick_or (.when rfl hg) (.r rfl)|exact KE hg (.when rfl hg) (.r rfl))) ?_)))))
  exact Zq rfl (QW.pick_and (.r rfl) (.r rfl)) (Za rfl (Zn (J.ret (Zr [] (RetEv.one rfl (REv.tmp rfl lr)) rfl ⟨Wl (by clear hx;rcases hd2 with h|h<;>first|(exfalso;omega)|(simp[h];omega)),rfl⟩))))

end
end Go.Proofs.YtammalmlbabpbaaGreat.J
