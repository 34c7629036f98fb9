/- Texts of this proof, laid together. -/
import Derived.Test.YtmccnmahegbmpaaGreatX2RReduceParts
set_option linter.unusedVariables false
set_option linter.unusedSimpArgs false
namespace Go.Proofs.YtmccnmahegbmpaaGreat.J
open Go Go.RowKit
section
/- Walks: numbers (the package float): classes, operations, floors. -/
set_option maxRecDepth 10000
set_option maxHeartbeats 4000000
theorem Ns {b:Nat}:WG b<4↔Q4 b<UB:=by
  unfold WG
  rw[Wy]
  by_cases h1:UB<Q4 b
  ·rw[if_pos(by simpa using h1)];omega
  ·rw[if_neg(by simpa using h1)]
    by_cases h2:Q4 b=UB
    ·rw[if_pos h2];omega
    ·rw[if_neg h2]
      (repeat' split)<;>omega
theorem Tu {b:Nat}:4≤WG b↔UB≤Q4 b:=by
  have:=@Ns b
  omega
theorem DZ(b:Nat)(hb:b<2^64):Fn Tryz.prog 146 [.c(YC b)](.c(YC(b%2^63))):=by
  refine AC.of_J Tryz.func146 rfl Tryz.ntmps146 rfl fun w0 A0=>?_
  refine Zs(Zq rfl(QW.assign .const)(Zn(Zs(Zq rfl(QW.move(.tmp rfl))(Zq rfl(QW.ext(Lp _)(.tmp rfl))(Zq rfl(QW.andNot(.tmp rfl) .const(QaJ b hb))(Zq rfl(QW.ext(Xt _)(.tmp rfl))(Zq rfl(QW.assign(.tmp rfl))(Zn ?_)))))))))
  refine J.ret ?_
  exact⟨_,[],_,RetEv.one rfl(REv.tmp rfl lr),rfl,List.Perm.refl _,rfl,rfl⟩
theorem BG(b:Nat)(hb:b<2^64):Fn Tryz.prog 148 [.c(YC b),.c(.int .i64 0)](.c(.bool(decide(Q4 b=UB)))):=by
  refine AC.of_J Tryz.func148 rfl Tryz.ntmps148 rfl fun w0 A0=>?_
  refine Zs(Zq rfl(QW.assign .const)(Zn(J.seq(Zs(Zq rfl(QW.move(.tmp rfl))(Zq rfl(QW.eql(.tmp rfl) .const)(Zn ?_)))))))
  refine J.cond(.tmp rfl)(fun c1=>?_)(fun c1=>absurd c1(by decide))
  refine Qg(Zq rfl(QW.move(.tmp rfl))(Zq rfl(QW.call N5(.cons(.tmp rfl) .nil)(by(apply DZ<;>first|assumption|omega))) ?_))
  refine Zq rfl(QW.assign(.tmp rfl))(Zn(Zs(Zq rfl(QW.move(.tmp rfl))(Zq rfl(Mw(.tmp rfl) .const)(Zq rfl(QW.assign(.tmp rfl))(Zn(J.ret ?_)))))))
  exact⟨_,[],_,RetEv.one rfl(REv.tmp rfl lr),rfl,List.Perm.refl _,by
      by_cases hn:Ua b=true
      ·rw[CZ(by rw[KX];exact hn)]
        rw[Wy]at hn;simp at hn
        congr 3;simp;omega
      ·rw[KZ(by rw[KX];simpa using hn)(by decide),Hk]
        rw[Wy]at hn;simp at hn
        congr 3
        rw[show sr 9218868437227405311=9218868437227405311 by decide]
        simp;unfold UB at*;omega,rfl⟩
theorem T3(b:Nat)(hb:b<2^64):Fn Tryz.prog 152 [.c(YC b)](.c(.bool(decide(2^63≤b)))):=by
  refine AC.of_J Tryz.func152 rfl Tryz.ntmps152 rfl fun w0 A0=>?_
  refine Zs(Zq rfl(QW.assign .const)(Zn(Zs(Zq rfl(QW.move(.tmp rfl))(Zq rfl(QW.ext(Lp _)(.tmp rfl))(Zq rfl(WU us22 iu2(.tmp rfl)rfl)(Zq rfl(QW.lss(.tmp rfl) .const)(Zq rfl(QW.assign(.tmp rfl))(Zn ?_)))))))))
  refine J.ret ?_
  exact⟨_,[],_,RetEv.one rfl(REv.tmp rfl lr),rfl,List.Perm.refl _,by
      congr 3
      rw[decide_eq_decide]
      by_cases h:2^63≤b
      ·rw[HN h hb];omega
      ·rw[W0(by omega)];omega,rfl⟩
theorem PG(b:Nat)(hb:b<2^64):Fn Tryz.prog 144 [.c(.int .u64(b:Int))](.c(.int .i64(WG b))):=by
  refine AC.of_J Tryz.func144 rfl Tryz.ntmps144 rfl fun w0 A0=>?_
  refine Zs(Zq rfl(QW.assign .const)(Zn(Zs(Zq rfl(QW.move(.tmp rfl))(Zq rfl(QW.ext(Xt _)(.tmp rfl))(Zq rfl(QW.assign(.tmp rfl))(Zn(Zs(Zq rfl(QW.move(.tmp rfl)) ?_)))))))))
  refine Zq rfl(QW.call N5(.cons(.tmp rfl) .nil)(by(apply DZ<;>first|assumption|omega))) ?_
  refine Zq rfl(QW.assign(.tmp rfl))(Zn(J.seq(J.block(Zs(Zq rfl(QW.move(.tmp rfl))(Zq rfl(QW.move(.tmp rfl))(Zq rfl(Hf(.tmp rfl)(.tmp rfl))(Zq rfl(QW.assign(.tmp rfl))(Zn ?_)))))))))
  refine J.cond(.tmp rfl)(fun c1=>?_)(fun c1=>?_)
  ·
    rw[Y9]at c1
    refine Zs(Zq rfl(QW.assign .const)(Zn(J.ret(blkQ.r(thenQ.r ?_)))))
    exact⟨_,[],_,RetEv.one rfl(REv.tmp rfl lr),rfl,List.Perm.refl _,by simp[WG,c1],rfl⟩
  ·
    rw[Y9]at c1
    have ha:Ua(b%2^63)=false:=by rw[KX];exact c1
    refine Zs(Zq rfl(QW.move(.tmp rfl))(Zq rfl(QW.call SL(.cons(.tmp rfl)(.cons(.const) .nil))(by(apply BG<;>first|assumption|omega))) ?_))
    refine Zq rfl(QW.assign(.tmp rfl))(Zn ?_)
    refine J.cond(.tmp rfl)(fun c2=>?_)(fun c2=>?_)
    ·
      simp at c2
      refine Zs(Zq rfl(QW.assign .const)(Zn(J.ret(blkQ.r(thenQ.r ?_)))))
      exact⟨_,[],_,RetEv.one rfl(REv.tmp rfl lr),rfl,List.Perm.refl _,by simp[WG,c1,c2],rfl⟩
    ·
      simp at c2
      refine Zs(Zq rfl(QW.move(.tmp rfl))(Zq rfl(PS(.tmp rfl) .const)(Zq rfl(QW.assign(.tmp rfl))(Zn ?_))))
      refine J.cond(.tmp rfl)(fun c3=>?_)(fun c3=>?_)
      ·
        rw[KZ ha(by decide),L4 ha(by decide),Hk,show sr 4503599627370496=4503599627370496 by decide]at c3;simp at c3
        refine Zs(Zq rfl(QW.assign .const)(Zn(J.ret(blkQ.r(thenQ.r ?_)))))
        exact⟨_,[],_,RetEv.one rfl(REv.tmp rfl lr),rfl,List.Perm.refl _,by unfold WG;rw[c1,if_neg(by decide),if_neg c2,if_pos(by omega)],rfl⟩
      ·
        rw[KZ ha(by decide),L4 ha(by decide),Hk,show sr 4503599627370496=4503599627370496 by decide]at c3;simp at c3
        refine Zs(Zq rfl(QW.move(.tmp rfl))(Zq rfl(Mw(.tmp rfl) .const)(Zq rfl(QW.assign(.tmp rfl))(Zn ?_))))
        refine J.cond(.tmp rfl)(fun c4=>?_)(fun c4=>?_)
        ·
          rw[KZ ha(by decide),Hk,show sr 0=0 by decide]at c4;simp at c4
          refine Zs(Zq rfl(QW.assign .const)(Zn(J.ret(blkQ.r(thenQ.r ?_)))))
          exact⟨_,[],_,RetEv.one rfl(REv.tmp rfl lr),rfl,List.Perm.refl _,by unfold WG;rw[c1,if_neg(by decide),if_neg c2,if_neg(by omega),if_pos(by omega)],rfl⟩
        ·
          rw[KZ ha(by decide),Hk,show sr 0=0 by decide]at c4;simp at c4
          refine Zs(Zq rfl(QW.move(.tmp rfl))(Zq rfl(QW.call SK(.cons(.tmp rfl) .nil)(by(apply T3<;>first|assumption|omega))) ?_))
          refine Zq rfl(QW.assign(.tmp rfl))(Zn ?_)
          refine J.cond(.tmp rfl)(fun c5=>?_)(fun c5=>?_)
          ·
            simp at c5
            refine Zs(Zq rfl(QW.assign .const)(Zn(J.ret(blkQ.r(thenQ.r ?_)))))
            exact⟨_,[],_,RetEv.one rfl(REv.tmp rfl lr),rfl,List.Perm.refl _,by unfold WG;rw[c1,if_neg(by decide),if_neg c2,if_neg(by omega),if_neg(by omega),if_pos(by omega)],rfl⟩
          ·
            simp at c5
            refine J.skip(blkQ.n(thenQ.n(Zs(Zq rfl(QW.assign .const)(Zn(J.ret ?_))))))
            exact⟨_,[],_,RetEv.one rfl(REv.tmp rfl lr),rfl,List.Perm.refl _,by unfold WG;rw[c1,if_neg(by decide),if_neg c2,if_neg(by omega),if_neg(by omega),if_neg(by omega)],rfl⟩
theorem NI(op:BinOp)(g:Nat)(a b:Nat)(hgo:QE Tryz.prog g=true)(hg:FnR Tryz.prog g [.c(YC a),.c(YC b)](fun z=>∃c,z=.c(YC c)∧(UO op a b=some c∨(UO op a b=none∧Kx c)))):Fn Tryz.prog 130 [.c(.int .u64(a:Int)),.c(.int .u64(b:Int)),.c(.func(.func g) #[] #[])](.c(.int .u64(U1 op a b:Int))):=by
  refine AC.of_J Tryz.func130 rfl Tryz.ntmps130 rfl fun w0 A0=>?_
  refine Zs(Zq rfl(QW.assign .const)(Zn(Zs(Zq rfl(QW.move(.tmp rfl))(Zq rfl(QW.move(.tmp rfl))(Zq rfl(QW.ext(Xt _)(.tmp rfl))(Zq rfl(QW.move(.tmp rfl))(Zq rfl(QW.ext(Xt _)(.tmp rfl))(Fu(fi:=[])(ca:=[])hgo rfl(.tmp rfl)(.cons(.tmp rfl)(.cons(.tmp rfl) .nil))rfl(hg) ?_)))))))))
  rintro _⟨x12,rfl,h12⟩
  refine Zq rfl(QW.call Dt(.cons(.tmp rfl) .nil)(by(apply Bn<;>first|assumption|omega))) ?_
  refine Zq rfl(QW.assign(.tmp rfl))(Zn(J.ret ?_))
  exact⟨_,[],_,RetEv.one rfl(REv.tmp rfl lr),rfl,List.Perm.refl _,by rw[Tz h12],rfl⟩
theorem Qan(a b:Nat):FnR Tryz.prog 131 [.c(YC a),.c(YC b)](fun z=>∃c,z=.c(YC c)∧(UO .add a b=some c∨(UO .add a b=none∧Kx c))):=by
  refine AC.of_J Tryz.func131 rfl Tryz.ntmps131 rfl fun w0 A0=>?_
  refine Zs(Zq rfl(QW.assign .const)(Zn(Zs(Zq rfl(QW.move(.tmp rfl))(Zq rfl(QW.move(.tmp rfl))(K7(by decide)(.tmp rfl)(.tmp rfl)rfl fun x7 h7=>?_))))))
  refine Zq rfl(QW.assign(.tmp rfl))(Zn(J.ret ?_))
  exact⟨_,[],_,RetEv.one rfl(REv.tmp rfl lr),rfl,List.Perm.refl _,rfl,_,rfl,⟨_,rfl,by assumption⟩⟩
theorem add_ok(a b:Nat):Fn Tryz.prog 119 [.c(.int .u64(a:Int)),.c(.int .u64(b:Int))](.c(.int .u64(U1 .add a b:Int))):=by
  refine AC.of_J Tryz.func119 rfl Tryz.ntmps119 rfl fun w0 A0=>?_
  refine Zs(Zq rfl(QW.assign .const)(Zn(Zs(Zq rfl(QW.move(.tmp rfl))(Zq rfl(QW.move(.tmp rfl))(Zq rfl(QW.call Lh(.cons(.tmp rfl)(.cons(.tmp rfl)(.cons .func .nil)))(NI .add _ _ _ SW(Qan _ _)))(Zq rfl(QW.assign(.tmp rfl))(Zn(J.ret ?_)))))))))
  exact⟨_,[],_,RetEv.one rfl(REv.tmp rfl lr),rfl,List.Perm.refl _,rfl,rfl⟩
theorem Qab(a b:Nat):FnR Tryz.prog 132 [.c(YC a),.c(YC b)](fun z=>∃c,z=.c(YC c)∧(UO .sub a b=some c∨(UO .sub a b=none∧Kx c))):=by
  refine AC.of_J Tryz.func132 rfl Tryz.ntmps132 rfl fun w0 A0=>?_
  refine Zs(Zq rfl(QW.assign .const)(Zn(Zs(Zq rfl(QW.move(.tmp rfl))(Zq rfl(QW.move(.tmp rfl))(K7(by decide)(.tmp rfl)(.tmp rfl)rfl fun x7 h7=>?_))))))
  refine Zq rfl(QW.assign(.tmp rfl))(Zn(J.ret ?_))
  exact⟨_,[],_,RetEv.one rfl(REv.tmp rfl lr),rfl,List.Perm.refl _,rfl,_,rfl,⟨_,rfl,by assumption⟩⟩
theorem sub_ok(a b:Nat):Fn Tryz.prog 120 [.c(.int .u64(a:Int)),.c(.int .u64(b:Int))](.c(.int .u64(U1 .sub a b:Int))):=by
  refine AC.of_J Tryz.func120 rfl Tryz.ntmps120 rfl fun w0 A0=>?_
  refine Zs(Zq rfl(QW.assign .const)(Zn(Zs(Zq rfl(QW.move(.tmp rfl))(Zq rfl(QW.move(.tmp rfl))(Zq rfl(QW.call Lh(.cons(.tmp rfl)(.cons(.tmp rfl)(.cons .func .nil)))(NI .sub _ _ _ SV(Qab _ _)))(Zq rfl(QW.assign(.tmp rfl))(Zn(J.ret ?_)))))))))
  exact⟨_,[],_,RetEv.one rfl(REv.tmp rfl lr),rfl,List.Perm.refl _,rfl,rfl⟩
theorem Qaj(a b:Nat):FnR Tryz.prog 133 [.c(YC a),.c(YC b)](fun z=>∃c,z=.c(YC c)∧(UO .mul a b=some c∨(UO .mul a b=none∧Kx c))):=by
  refine AC.of_J Tryz.func133 rfl Tryz.ntmps133 rfl fun w0 A0=>?_
  refine Zs(Zq rfl(QW.assign .const)(Zn(Zs(Zq rfl(QW.move(.tmp rfl))(Zq rfl(QW.move(.tmp rfl))(K7(by decide)(.tmp rfl)(.tmp rfl)rfl fun x7 h7=>?_))))))
  refine Zq rfl(QW.assign(.tmp rfl))(Zn(J.ret ?_))
  exact⟨_,[],_,RetEv.one rfl(REv.tmp rfl lr),rfl,List.Perm.refl _,rfl,_,rfl,⟨_,rfl,by assumption⟩⟩
theorem mul_ok(a b:Nat):Fn Tryz.prog 121 [.c(.int .u64(a:Int)),.c(.int .u64(b:Int))](.c(.int .u64(U1 .mul a b:Int))):=by
  refine AC.of_J Tryz.func121 rfl Tryz.ntmps121 rfl fun w0 A0=>?_
  refine Zs(Zq rfl(QW.assign .const)(Zn(Zs(Zq rfl(QW.move(.tmp rfl))(Zq rfl(QW.move(.tmp rfl))(Zq rfl(QW.call Lh(.cons(.tmp rfl)(.cons(.tmp rfl)(.cons .func .nil)))(NI .mul _ _ _ SU(Qaj _ _)))(Zq rfl(QW.assign(.tmp rfl))(Zn(J.ret ?_)))))))))
  exact⟨_,[],_,RetEv.one rfl(REv.tmp rfl lr),rfl,List.Perm.refl _,rfl,rfl⟩
theorem Qac(a b:Nat):FnR Tryz.prog 134 [.c(YC a),.c(YC b)](fun z=>∃c,z=.c(YC c)∧(UO .quo a b=some c∨(UO .quo a b=none∧Kx c))):=by
  refine AC.of_J Tryz.func134 rfl Tryz.ntmps134 rfl fun w0 A0=>?_
  refine Zs(Zq rfl(QW.assign .const)(Zn(Zs(Zq rfl(QW.move(.tmp rfl))(Zq rfl(QW.move(.tmp rfl))(K7(by decide)(.tmp rfl)(.tmp rfl)rfl fun x7 h7=>?_))))))
  refine Zq rfl(QW.assign(.tmp rfl))(Zn(J.ret ?_))
  exact⟨_,[],_,RetEv.one rfl(REv.tmp rfl lr),rfl,List.Perm.refl _,rfl,_,rfl,⟨_,rfl,by assumption⟩⟩
theorem quo_ok(a b:Nat):Fn Tryz.prog 122 [.c(.int .u64(a:Int)),.c(.int .u64(b:Int))](.c(.int .u64(U1 .quo a b:Int))):=by
  refine AC.of_J Tryz.func122 rfl Tryz.ntmps122 rfl fun w0 A0=>?_
  refine Zs(Zq rfl(QW.assign .const)(Zn(Zs(Zq rfl(QW.move(.tmp rfl))(Zq rfl(QW.move(.tmp rfl))(Zq rfl(QW.call Lh(.cons(.tmp rfl)(.cons(.tmp rfl)(.cons .func .nil)))(NI .quo _ _ _ ST(Qac _ _)))(Zq rfl(QW.assign(.tmp rfl))(Zn(J.ret ?_)))))))))
  exact⟨_,[],_,RetEv.one rfl(REv.tmp rfl lr),rfl,List.Perm.refl _,rfl,rfl⟩
theorem C2:Extern.find Tryz.f135=some(Extern.MathFloor.toIntegral "math.archFloor" .down):=by kernel_rfl
theorem Pq(b:Nat)(w:World):(callFunc 135 #[YC b]).run Tryz.prog w=((Extern.MathFloor.toIntegral "math.archFloor" .down #[YC b]).run Tryz.prog w).andThen fun v w=>.ok(.value v)w:=
  G9 Tryz.func135(by kernel_rfl)(by kernel_rfl)(by kernel_rfl)C2 _ _
theorem CJ(b:Nat):FnR Tryz.prog 123 [.c(YC b)](fun z=>∃c,z=.c(YC c)∧((Ua b=false∧c=DI b)∨(Ua b=true∧Ua c=true))):=by
  refine AC.of_J Tryz.func123 rfl Tryz.ntmps123 rfl fun w0 A0=>?_
  refine Zs(Zq rfl(QW.assign .const)(Zn(J.seq ?_)))
  refine J.cond .const(fun c1=>?_)(fun c1=>absurd c1(by decide))
  refine Zs(Zq rfl(QW.move(.tmp rfl))(Ce Pq(.tmp rfl)rfl fun x4 h4=>Zq rfl(QW.assign(.tmp rfl))(Zn(J.ret(thenQ.r ?_)))))
  exact⟨_,[],_,RetEv.one rfl(REv.tmp rfl lr),rfl,List.Perm.refl _,rfl,_,rfl,⟨_,rfl,h4⟩⟩
theorem Pj(b:Nat):Fn Tryz.prog 112 [.c(.int .u64(b:Int))](.c(.int .u64(Kc b:Int))):=by
  refine AC.of_J Tryz.func112 rfl Tryz.ntmps112 rfl fun w0 A0=>?_
  refine Zs(Zq rfl(QW.assign .const)(Zn(Zs(Zq rfl(QW.move(.tmp rfl))(Zq rfl(QW.ext(Xt _)(.tmp rfl))(PY SY rfl(.cons(.tmp rfl) .nil)(CJ _) ?_))))))
  rintro _⟨x5,rfl,h5⟩
  refine Zq rfl(QW.call Dt(.cons(.tmp rfl) .nil)(by(apply Bn<;>first|assumption|omega))) ?_
  refine Zq rfl(QW.assign(.tmp rfl))(Zn(J.ret ?_))
  exact⟨_,[],_,RetEv.one rfl(REv.tmp rfl lr),rfl,List.Perm.refl _,by
      rcases h5 with⟨h1,rfl⟩|⟨h1,h2⟩
      ·simp[Kc,h1,UC,DI,XT(Kn h1 .down)]
      ·simp[Kc,h1,UC,h2],rfl⟩
def nearN(n:Int):Nat:=FloatKind.f64.nearest n
def Sz(n:Int):Nat:=if n< -9007199254740992∨9007199254740992<n then 0 else nearN n
def ofE(n:Int):Int:=if n< -9007199254740992∨9007199254740992<n then 4 else 0
theorem Eq {n:Int}(h: -9223372036854775808≤n∧n≤9223372036854775807):
    ((decide(9007199254740992<if IntKind.i64.wrap(0-n)>n then IntKind.i64.wrap(0-n)else n))||((n==IntKind.i64.wrap(0-n))&&(n!=0)))=decide(n< -9007199254740992∨9007199254740992<n):=by
  by_cases hm:n= -9223372036854775808
  ·subst hm;decide
  ·rw[W0(by omega)]
    by_cases h0:n=0-n
    ·have:n=0:=by omega
      subst this;decide
    ·have h1:(n==0-n)=false:=by simpa using h0
      rw[h1,Bool.false_and,Bool.or_false,decide_eq_decide]
      split<;>omega
theorem Bo(n:Int)(h: -9223372036854775808≤n∧n≤9223372036854775807):Fn Tryz.prog 127 [.c(.int .i64 n)](.tup [.c(.int .u64(Sz n:Int)),.c(.int .i64(ofE n))]):=by
  refine AC.of_J Tryz.func127 rfl Tryz.ntmps127 rfl fun w0 A0=>?_
  refine Zs(Zq rfl(QW.assign .const)(Zq rfl(QW.assign .const)(Zn(J.seq(Zs(Zq rfl(QW.move(.tmp rfl))(Zq rfl(QW.move(.tmp rfl))(Zq rfl(QW.neg(.tmp rfl)rfl)(Zq rfl(QW.max2(.tmp rfl)(.tmp rfl)) ?_)))))))))
  refine Zq rfl(QW.gtr(.tmp rfl) .const)(Zq rfl(QW.move(.tmp rfl))(Zg rfl(fun hg=>(QW.move(.tmp rfl)))(Zg rfl(fun hg=>(QW.move(.tmp rfl)))(Zg rfl(fun hg=>QW.neg(.when rfl hg)rfl)(Zg rfl(fun hg=>(QW.eql(.when rfl hg)(.when rfl hg)))(Zg rfl(fun hg=>(QW.move(.when rfl hg)))(JL.gg rfl rfl rfl rfl rfl(fun hg=>(QW.move(.tmp rfl)))(JL.gg rfl rfl rfl rfl rfl(fun hg=>(QW.neq(.when rfl hg) .const))(Zg rfl(fun hg=>(Ys hg(.when rfl hg)(.tmp rfl))) ?_)))))))))
  refine Zq rfl(QW.pick_or(.tmp rfl)(.tmp rfl))(Zn ?_)
  refine J.cond(.tmp rfl)(fun c1=>?_)(fun c1=>?_)
  ·
    rw[Eq h]at c1;simp at c1
    refine Zs(Zq rfl(QW.assign .const)(Zq rfl(QW.assign .const)(Zn(J.ret(thenQ.r ?_)))))
    exact⟨_,[],_,QB rfl(REv.tmp rfl lr)(REv.tmp rfl lr),rfl,List.Perm.refl _,by simp[Sz,ofE,c1],rfl⟩
  ·
    rw[Eq h]at c1;simp at c1
    refine Zk(Zs(Zq rfl(QW.move(.tmp rfl))(Zq rfl(D8 us3 fl150(.tmp rfl))(Zq rfl(QW.ext(Lp _)(.tmp rfl))(Zq rfl(QW.assign(.tmp rfl))(Zq rfl(QW.assign .const)(Zn(J.ret ?_))))))))
    exact⟨_,[],_,QB rfl(REv.tmp rfl lr)(REv.tmp rfl lr),rfl,List.Perm.refl _,by rw[Sz,ofE,if_neg(by omega),if_neg(by omega)];rfl,rfl⟩

end
section
/- Walks: the whole number that a number is. -/
set_option maxRecDepth 10000
set_option maxHeartbeats 4000000
theorem C1:Extern.find Tryz.f153=some(Extern.MathFloor.toIntegral "math.archTrunc" .zero):=by kernel_rfl
theorem Pp(b:Nat)(w:World):(callFunc 153 #[YC b]).run Tryz.prog w=((Extern.MathFloor.toIntegral "math.archTrunc" .zero #[YC b]).run Tryz.prog w).andThen fun v w=>.ok(.value v)w:=
  G9 Tryz.func153(by kernel_rfl)(by kernel_rfl)(by kernel_rfl)C1 _ _
theorem G8 {b:Nat}(h:¬4≤WG b):Ua b=false:=by
  rw[Tu]at h
  rw[Wy];exact decide_eq_false(by omega)
theorem TC {b:Nat}(hn:Ua b=false):(Hw(b%2^63) 4845873199050653696==some .gt)=decide(KA<Q4 b):=by
  rw[KZ(by rw[KX];exact hn)(by decide),Hk,show sr 4845873199050653696=4845873199050653696 by decide,decide_eq_decide]
  unfold KA;omega
theorem CI(b:Nat)(hn:Ua b=false):Fn Tryz.prog 145 [.c(YC b)](.c(YC(Hj b))):=by
  refine AC.of_J Tryz.func145 rfl Tryz.ntmps145 rfl fun w0 A0=>?_
  refine Zs(Zq rfl(QW.assign .const)(Zn(J.seq ?_)))
  refine J.cond .const(fun c1=>?_)(fun c1=>absurd c1(by decide))
  refine Zs(Zq rfl(QW.move(.tmp rfl))(Ce Pp(.tmp rfl)rfl fun x4 h4=>?_))
  obtain rfl:x4=Hj b:=by rcases h4 with⟨_,h⟩|⟨h,_⟩;exact h;rw[hn]at h;cases h
  refine Zq rfl(QW.assign(.tmp rfl))(Zn(J.ret(thenQ.r ?_)))
  exact⟨_,[],_,RetEv.one rfl(REv.tmp rfl lr),rfl,List.Perm.refl _,rfl,rfl⟩
theorem BH(b:Nat)(hb:b<2^64):Fn Tryz.prog 125 [.c(.int .u64(b:Int))](.tup [.c(.int .i64(Xz b)),.c(.int .i64(XK b))]):=by
  refine AC.of_J Tryz.func125 rfl Tryz.ntmps125 rfl fun w0 A0=>?_
  refine Zs(Zq rfl(QW.assign .const)(Zq rfl(QW.assign .const)(Zn(Zs(Zq rfl(QW.move(.tmp rfl))(Zq rfl(QW.ext(Xt _)(.tmp rfl))(Zq rfl(QW.assign(.tmp rfl))(Zn(J.seq ?_)))))))))
  refine J.block(Zs(Zq rfl(QW.move(.tmp rfl))(Zq rfl(QW.call SN(.cons(.tmp rfl) .nil)(by(apply PG<;>first|assumption|omega))) ?_)))
  refine Zq rfl(QW.geq(.tmp rfl) .const)(Zq rfl(QW.move(.tmp rfl))(Zg rfl(fun hg=>(QW.move(.tmp rfl)))(Zg rfl(fun hg=>(QW.move(.tmp rfl)))(Zg rfl(fun hg=>QW.call SM(.cons(.when rfl hg) .nil)(CI b(G8(by simp at hg;omega)))) ?_))))
  refine Zg rfl(fun hg=>(Hf(.when rfl hg)(.when rfl hg)))(Zq rfl(QW.pick_or(.tmp rfl)(.tmp rfl))(Zq rfl(QW.assign(.tmp rfl))(Zn ?_)))
  refine J.cond(.tmp rfl)(fun c1=>?_)(fun c1=>?_)
  ·
    have hT:UB≤Q4 b∨¬Yc b:=by
      by_cases hf:Q4 b<UB
      ·rw[HO hb hf]at c1
        have:=Ns.2 hf
        simp at c1
        rcases c1 with h|h
        ·omega
        ·exact .inr h
      ·exact .inl(by omega)
    refine Zs(Zq rfl(QW.assign .const)(Zq rfl(QW.assign .const)(Zn(J.ret(blkQ.r(thenQ.r ?_))))))
    exact⟨_,[],_,QB rfl(REv.tmp rfl lr)(REv.tmp rfl lr),rfl,List.Perm.refl _,by rw[(int_t hT).1,(int_t hT).2],rfl⟩
  ·
    have hc:¬4≤WG b:=by intro h;rw[decide_eq_true(by omega),Bool.true_or]at c1;cases c1
    have hf:Q4 b<UB:=by rw[Tu]at hc;omega
    have hn:=G8 hc
    have hw:Yc b:=by
      rw[HO hb hf]at c1
      simp at c1
      exact c1.2
    refine Zs(Zq rfl(QW.move(.tmp rfl))(Zq rfl(QW.call N5(.cons(.tmp rfl) .nil)(by(apply DZ<;>first|assumption|omega))) ?_))
    refine Zq rfl(Mw(.tmp rfl) .const)(Zq rfl(QW.assign(.tmp rfl))(Zn ?_))
    refine J.cond(.tmp rfl)(fun c2=>?_)(fun c2=>?_)
    ·
      rw[TC hn]at c2;simp at c2
      refine Zs(Zq rfl(QW.assign .const)(Zq rfl(QW.assign .const)(Zn(J.ret(blkQ.r(thenQ.r ?_))))))
      exact⟨_,[],_,QB rfl(REv.tmp rfl lr)(REv.tmp rfl lr),rfl,List.Perm.refl _,by rw[(int_r hf hw c2).1,(int_r hf hw c2).2],rfl⟩
    ·
      rw[TC hn]at c2;simp at c2
      have hK:=P9(s:=Kr b)(HR c2)
      refine J.skip(blkQ.n(thenQ.n(Zs(Zq rfl(QW.move(.tmp rfl))(Zq rfl(D9 us150 iu3(.tmp rfl)(Cm hf)hK)(Zq rfl(QW.assign(.tmp rfl))(Zq rfl(QW.assign .const)(Zn(J.ret ?_)))))))))
      exact⟨_,[],_,QB rfl(REv.tmp rfl lr)(REv.tmp rfl lr),rfl,List.Perm.refl _,by rw[(int_o hf hw c2).1,(int_o hf hw c2).2],rfl⟩

end
section
/- What expressions come to, as plain data. -/
def V.tr(b:Bool):V:=.mk 1(if b then 1 else 0) [] [] []
def V.nu(b:Nat):V:=.mk 2 b [] [] []
def V.tx(t:Uj):V:=.mk 3 0 t [] []
def V.li(l:List V):V:=.mk 4 0 [] []l
structure ScT where
  st:V
  ev:V
  it:V
def GS(n:Nat):Uj:=if n<10 then [UInt8.ofNat(48+n)]else GS(n / 10)++[UInt8.ofNat(48+n%10)]
termination_by n
decreasing_by omega
def Dp(n:Int):Uj:=if n<0 then 45::GS n.natAbs else GS n.natAbs
def DX(o:Int)(a b:Nat):Nat:=if o=11 then U1 .add a b else if o=12 then U1 .sub a b else if o=13 then U1 .mul a b else U1 .quo a b
def Gf(v:V):Except Int V:=if v.err=0 then .ok v else .error 84
def K9(v:V)(s:StT):Except Int V:=if(v.getv [s]).2=0 then .ok(v.getv [s]).1 else .error(v.getv [s]).2
def NO(v:V)(s:StT)(x:V):Except Int V:=if(v.setv [s]x).2=0 then .ok(v.setv [s]x).1 else .error 84
def Bm(o:Int)(t:Uj)(a:V):Except Int V:=
  if o=8 then K9 a⟨true,t,0⟩
  else if o=10 then(if a.kind<3 then .error 81 else .ok(.nu(Sz((a.text.length:Int)+(a.items.length:Int)))))
  else if o=15 then(if a.kind=2 then .ok(.nu(Kc a.bits))else .error 81)
  else if o=20 then(if a.kind=1 then .ok(.tr(a.bits==0))else .error 81)
  else if a.kind≠2 then .error 81 else if XK a.bits≠0 then .error 7 else .ok(.tx(Dp(Xz a.bits)))
def FG(o:Int)(t:Uj)(a b:V):Except Int V:=
  if o=9 then(if a.kind≠4∨b.kind≠2 then .error 81 else if XK b.bits≠0 then .error 82 else K9 a⟨false,[],Xz b.bits⟩)
  else if o=16 then .ok(.tr(a.ord b==0))
  else if o=17 then(if b.kind=a.kind then .ok(.tr(decide(a.ord b<0)))else .error 81)
  else if o=22 then(if a.kind≠3∨b.kind≠3 then .error 81 else if 128<a.text.length+b.text.length then .error 84 else .ok(.tx(a.text++b.text)))
  else if o=24 then(if a.kind≠4 then .error 81 else NO a⟨false,[],a.items.length⟩b)
  else if o=25 then(if a.kind≠5 then .error 81 else NO a⟨true,t,0⟩b)
  else if a.kind≠2∨b.kind≠2 then .error 81 else .ok(.nu(DX o a.bits b.bits))
def US(o:Int)(t:Uj)(l:List V):Except Int V:=
  if o=23 then Gf(.li l)else
  match l with
  |[a]=>Bm o t a
  |[a,b]=>FG o t a b
  |_=>.error 0
abbrev ER(α:Type):=Except Int(α×Int)
def UY(r:ER V):ER Bool:=match r with
  |.error e=>.error e
  |.ok(v,f)=>if v.kind=1 then .ok(v.bits==1,f)else .error 81
def Hs(g:V→Int→ER V):List V→Int→ER(List V)
  |[],f=>.ok([],f)
  |x::r,f=>match g x f with
    |.error e=>.error e
    |.ok(y,f1)=>match Hs g r f1 with
      |.error e=>.error e
      |.ok(l,f2)=>.ok(y::l,f2)
def HA(g:V→Int→ER Bool):List V→Int→ER(List V)
  |[],f=>.ok([],f)
  |x::r,f=>match g x f with
    |.error e=>.error e
    |.ok(b,f1)=>match HA g r f1 with
      |.error e=>.error e
      |.ok(l,f2)=>.ok(if b then x::l else l,f2)
def Rk(g:V→Int→ER Bool):List V→Int→ER V
  |[],f=>.error 71
  |x::r,f=>match g x f with
    |.error e=>.error e
    |.ok(b,f1)=>if b then .ok(x,f1)else Rk g r f1
def Xq(r:ER(List V)):ER V:=match r with
  |.error e=>.error e
  |.ok(l,f)=>match Gf(.li l)with
    |.error e=>.error e
    |.ok v=>.ok(v,f)
def XG(o:Int)(g:V→Int→ER V)(r:ER V):ER V:=match r with
  |.error e=>.error e
  |.ok(v,f)=>if v.kind≠4 then .error 81
    else if o=27 then Xq(Hs g v.items f)
    else if o=28 then Xq(HA(fun x f=>UY(g x f))v.items f)
    else Rk(fun x f=>UY(g x f))v.items f
mutual
/-- An expression's value, and the fuel that is left; or the error. -/
def EX.ev:EX→ScT→Int→ER V
  |.mk o b t l,s,f=>
    if f<1 then .error 83
    else if o=0 then .ok(.nil,f-1)
    else if o=1 then .ok(.tr false,f-1)
    else if o=2 then .ok(.tr true,f-1)
    else if o=3 then .ok(.nu b,f-1)
    else if o=4 then .ok(.tx t,f-1)
    else if o=5 then .ok(s.st,f-1)
    else if o=6 then .ok(s.ev,f-1)
    else if o=7 then .ok(s.it,f-1)
    else if o=18 then U5 false l s(f-1)
    else if o=19 then U5 true l s(f-1)
    else if o=21 then Wv l s(f-1)
    else if o=27∨o=28∨o=29 then Yu o l s(f-1)
    else match Q8 l s(f-1)with
      |.error e=>.error e
      |.ok(vs,f1)=>match US o t vs with
        |.error e=>.error e
        |.ok v=>.ok(v,f1)
def Q8:List EX→ScT→Int→ER(List V)
  |[],s,f=>.ok([],f)
  |x::r,s,f=>match x.ev s f with
    |.error e=>.error e
    |.ok(v,f1)=>match Q8 r s f1 with
      |.error e=>.error e
      |.ok(vs,f2)=>.ok(v::vs,f2)
def U5(k:Bool):List EX→ScT→Int→ER V
  |x::y::_,s,f=>match UY(x.ev s f)with
    |.error e=>.error e
    |.ok(b1,f1)=>if b1=k then .ok(.tr k,f1)else match UY(y.ev s f1)with
      |.error e=>.error e
      |.ok(b2,f2)=>.ok(.tr b2,f2)
  |_,_,_=>.error 0
def Wv:List EX→ScT→Int→ER V
  |x::y::z::_,s,f=>match UY(x.ev s f)with
    |.error e=>.error e
    |.ok(b1,f1)=>if b1 then y.ev s f1 else z.ev s f1
  |_,_,_=>.error 0
def Yu(o:Int):List EX→ScT→Int→ER V
  |x::y::_,s,f=>XG o(fun it f=>y.ev {s with it}f)(x.ev s f)
  |_,_,_=>.error 0
end
def MG(e:EX)(s:ScT)(f:Int):V×Int×Int:=match e.ev s f with
  |.error c=>(.nil,0,c)
  |.ok(v,f1)=>(v,f1,0)

end
section
/- Walks: whole numbers compared; lists of them. -/
set_option maxRecDepth 10000
set_option maxHeartbeats 4000000
def eI64:Wj:=⟨1,8⟩
def WF(l:List Int):List(List AV):=l.map fun n=>[.c(.int .i64 n)]
theorem YE(l:List Int):(WF l).length=l.length:=by simp[WF]
theorem HZ {l:List Int}{i:Nat}(h:i<l.length):(WF l)[i]? =some [.c(.int .i64 l[i])]:=by simp[WF,h]
theorem fdiv2 {lo hi:Nat}:((lo:Int)+(hi:Int)).fdiv(2^(min(1:Int).toNat IntKind.u64.bits))=(((lo+hi) / 2:Nat):Int):=by
  rw[show(2:Int)^(min(1:Int).toNat IntKind.u64.bits)=2 from rfl,Int.fdiv_eq_ediv_of_nonneg _(by decide)]
  omega
theorem M4(n:Int):Fn Tryz.prog 150 [.c(.int .i64 n)](.c(.bool false)):=by
  refine AC.of_J Tryz.func150 rfl Tryz.ntmps150 rfl fun w0 A0=>?_
  exact Zs(Zq rfl(QW.assign .const)(Zn(Zs(Zq rfl(QW.move(.tmp rfl))(Zq rfl(QW.move(.tmp rfl))(Zq rfl(QW.neq(.tmp rfl)(.tmp rfl))(Zq rfl(QW.assign(.tmp rfl))(Zn(J.ret(Zr [](RetEv.one rfl(REv.tmp rfl lr))rfl⟨WL(by simp),rfl⟩))))))))))
theorem Fe(a b:Int):Fn Tryz.prog 137 [.c(.int .i64 a),.c(.int .i64 b)](.c(.int .i64(if a<b then -1 else if b<a then 1 else 0))):=by
  refine AC.of_J Tryz.func137 rfl Tryz.ntmps137 rfl fun w0 A0=>?_
  refine Zs(Zq rfl(QW.assign .const)(Zn(Zs(Zq rfl(QW.move(.tmp rfl))(Zq rfl(QW.call EH(.cons(.tmp rfl) .nil)(M4 _))(Zq rfl(QW.assign(.tmp rfl))(Zn(Zs(Zq rfl(QW.move(.tmp rfl)) ?_)))))))))
  refine Zq rfl(QW.call EH(.cons(.tmp rfl) .nil)(M4 _))(Zq rfl(QW.assign(.tmp rfl))(Zn(J.seq(Zs(Zq rfl(QW.move(.tmp rfl))(Zn ?_))))))
  refine J.cond(.tmp rfl)(fun c1=>absurd c1(by simp))(fun c1=>?_)
  refine Zk(J.seq(Zs(Zq rfl(QW.move(.tmp rfl))(Zn ?_))))
  refine J.cond(.tmp rfl)(fun c2=>absurd c2(by simp))(fun c2=>?_)
  refine Zk(J.seq(Zs(Zq rfl(QW.move(.tmp rfl))(Zq rfl(QW.move(.tmp rfl))(Zq rfl(QW.lss(.tmp rfl)(.tmp rfl))(Zn ?_))))))
  refine J.cond(.tmp rfl)(fun c3=>?_)(fun c3=>?_)
  ·skip
    simp at c3
    exact Zs(Zq rfl(QW.assign .const)(Zn(J.ret(thenQ.r(Zr [](RetEv.one rfl(REv.tmp rfl lr))rfl⟨by rw[if_pos c3],rfl⟩)))))
  simp at c3
  refine Zk(J.seq(Zs(Zq rfl(QW.move(.tmp rfl))(Zq rfl(QW.move(.tmp rfl))(Zq rfl(QW.gtr(.tmp rfl)(.tmp rfl))(Zn ?_))))))
  refine J.cond(.tmp rfl)(fun c4=>?_)(fun c4=>?_)
  ·skip
    simp at c4
    exact Zs(Zq rfl(QW.assign .const)(Zn(J.ret(thenQ.r(Zr [](RetEv.one rfl(REv.tmp rfl lr))rfl⟨by rw[if_neg(by omega),if_pos(by omega)],rfl⟩)))))
  simp at c4
  exact Zk(Zs(Zq rfl(QW.assign .const)(Zn(J.ret(Zr [](RetEv.one rfl(REv.tmp rfl lr))rfl⟨by rw[if_neg(by omega),if_neg(by omega)],rfl⟩)))))

end
section
/- Walks: steps into values: what is found, what is got. -/
set_option maxRecDepth 10000
set_option maxHeartbeats 4000000
theorem M3(s:Uj):Fn Tryz.prog 61 [.c(Un s)](.c(.bool false)):=by
  refine AC.of_J Tryz.func61 rfl Tryz.ntmps61 rfl fun w0 A0=>?_
  exact Zs(Zq rfl(QW.assign .const)(Zn(Zs(Zq rfl(QW.move(.tmp rfl))(Zq rfl(QW.move(.tmp rfl))(Zq rfl(YO(.tmp rfl)(.tmp rfl))(Zq rfl(QW.assign(.tmp rfl))(Zn(J.ret(Zr [](RetEv.one rfl(REv.tmp rfl lr))rfl⟨WL(by simp),rfl⟩))))))))))
theorem Kg(s:Uj):Fn Tryz.prog 72 [.c(Un s)](.c(.bool false)):=by
  refine AC.of_J Tryz.func72 rfl Tryz.ntmps72 rfl fun w0 A0=>?_
  exact Zs(Zq rfl(QW.assign .const)(Zn(Zs(Zq rfl(QW.move(.tmp rfl))(Zq rfl(QW.move(.tmp rfl))(Zq rfl(YO(.tmp rfl)(.tmp rfl))(Zq rfl(QW.assign(.tmp rfl))(Zn(J.ret(Zr [](RetEv.one rfl(REv.tmp rfl lr))rfl⟨WL(by simp),rfl⟩))))))))))
theorem Dl(a b:Uj):Fn Tryz.prog 60 [.c(Un a),.c(Un b)](.c(.bool(Op.bytesLess a b))):=by
  refine AC.of_J Tryz.func60 rfl Tryz.ntmps60 rfl fun w0 A0=>?_
  refine Zs(Zq rfl(QW.assign .const)(Zn(Zs(Zq rfl(QW.move(.tmp rfl))(Zq rfl(QW.call N2(.cons(.tmp rfl) .nil)(Kg _))(Zq rfl(QW.move(.tmp rfl))(Zg rfl(fun hg=>(QW.move(.tmp rfl)))(Zg rfl(fun hg=>(QW.call N2(.cons(.when rfl hg) .nil)(Kg _)))(Zg rfl(fun hg=>(QW.not(.when rfl hg))) ?_)))))))))
  exact Zq rfl(QW.pick_and(.tmp rfl)(.tmp rfl))(Zq rfl(QW.move(.tmp rfl))(Zg rfl(fun hg=>(QW.move(.tmp rfl)))(Zg rfl(fun hg=>(QW.move(.tmp rfl)))(Zg rfl(fun hg=>(TK(.when rfl hg)(.when rfl hg)))(Zq rfl(QW.pick_or(.tmp rfl)(.tmp rfl))(Zq rfl(QW.assign(.tmp rfl))(Zn(J.ret(Zr [](RetEv.one rfl(REv.tmp rfl lr))rfl⟨WL(by simp),rfl⟩)))))))))
theorem B4 {l:List Uj}{k:Nat}{s:Uj}:(decide(l[k]? =some s))=(decide((k:Int)<(l.length:Int))&&((l.getD k [])==s||false&&false)):=by
  by_cases hk:k<l.length
  ·rw[Bool.eq_iff_iff];simp[hk,List.getD]
  ·rw[Bool.eq_iff_iff];simp[hk]
theorem bs_ok {fr c:Bool}{l:List Uj}{s:Uj}{k:Nat}(hl:l.length≤1000)(hk:k≤l.length)(h1:∀i(h:i<l.length),i<k→Op.bytesLess l[i]s=true)(h2:∀i(h:i<l.length),k≤i→Op.bytesLess l[i]s=false):Fn Tryz.prog 45 [.sl fr c W3(Q6 l),.c(Un s)](.tup [.c(.int .i64(k:Int)),.c(.bool(decide(l[k]? =some s)))]):=by
  refine AC.of_J Tryz.func45 rfl Tryz.ntmps45 rfl fun w0 A0=>?_
  refine Zs(Zq rfl(QW.assign .const)(Zq rfl(QW.assign .const)(Zn(Zs(Zq rfl(QW.move(.tmp rfl))(Zq rfl(Qh UD(.tmp rfl)(Qo _))(Zq rfl(QW.assign(.tmp rfl))(Zn(Zs ?_)))))))))
  refine Zq rfl(QW.move(.tmp rfl))(Zq rfl(QW.assign .const)(Zq rfl(QW.assign(.tmp rfl))(Zn(J.seq(J.block(Q0(ι:=Nat×Nat) [0,1,4,5,6](fun⟨lo,hi⟩=>[(7,.c(.int .i64(lo:Int))),(8,.c(.int .i64(hi:Int)))])(fun _ oo=>oo)(fun⟨lo,hi⟩=>lo≤k∧k≤hi∧hi≤l.length)(fun⟨lo,hi⟩=>hi-lo)⟨0,l.length⟩(⟨Nat.zero_le _,hk,Nat.le_refl _⟩)(QK(.cons rfl lr(.cons rfl lr(.cons rfl lr(.cons rfl lr(.cons rfl lr(.cons rfl lr(.cons rfl lr .nil)))))))(Reown.refl _)(fun _ h=>by first|exact h|simp[h])) ?_))))))
  intro⟨lo,hi⟩⟨ha,hb,hc⟩
  refine J.conv(by(try simp only[nl,Qk,Qz,QA,Qy,QR,AV.cellsOf,Qd,Qe,Nat.reduceAdd]);rfl) ?_
  refine J.seq(Zs(Zq rfl(QW.move(.tmp rfl))(Zq rfl(QW.move(.tmp rfl))(Zq rfl(QW.lss(.tmp rfl)(.tmp rfl))(Zn ?_)))))
  refine J.cond(.tmp rfl)(fun c1=>?_)(fun c1=>?_)
  ·skip
    have hlt:lo<hi:=by simpa using c1
    refine Zk(J.block(Zs(Zq rfl(QW.move(.tmp rfl))(Zq rfl(QW.move(.tmp rfl))(Zq rfl(QW.add(.tmp rfl)(.tmp rfl)(U7 rfl(by omega)))(Zq rfl(WU us3 iu125(.tmp rfl)(wu64(by omega)))(Zq rfl(QW.shr(.tmp rfl) .const(by decide)fdiv2) ?_)))))))
    refine Zq rfl(WU us125 iu3(.tmp rfl)(U7 rfl(by omega)))(Zq rfl(QW.assign(.tmp rfl))(Zn(Zs(Zq rfl(QW.move(.tmp rfl))(Zq rfl(QW.move(.tmp rfl))(Zq rfl(Qi UD Wc rfl(.tmp rfl)(.tmp rfl)rfl(by exact YL(ks:=l)(i:=(lo+hi) / 2)(by omega))) ?_))))))
    refine Zq rfl(Qq Wc(.tmp rfl)rfl)(Zq rfl(QW.move(.tmp rfl))(Zq rfl(QW.call gofn60(.cons(.tmp rfl)(.cons(.tmp rfl) .nil))(Dl _ _))(Zn ?_)))
    refine J.cond(.tmp rfl)(fun c2=>?_)(fun c2=>?_)
    ·skip
      have hm:Op.bytesLess(l[(lo+hi) / 2]'(by omega))s=true:=c2
      refine Qg(Zq rfl(QW.move(.tmp rfl))(Zq rfl(QW.add(.tmp rfl) .const(W0(by omega)))(Zq rfl(QW.assign(.tmp rfl))(JL.nil(blkQ.n(thenQ.n ?_))))))
      exact⟨⟨(lo+hi) / 2+1,hi⟩,⟨Nat.lt_of_not_le fun h=>absurd(h2 _(by omega)h)(by rw[hm];decide),hb,hc⟩,by show hi-((lo+hi) / 2+1)<hi-lo;omega,QK(.cons rfl lr(.cons rfl lr(.cons rfl lr(.cons rfl lr(.cons rfl lr(.cons rfl lr(.cons rfl lr .nil)))))))(Reown.refl _)(fun _ h=>by first|exact h|simp[h])⟩
    have hm:Op.bytesLess(l[(lo+hi) / 2]'(by omega))s=false:=c2
    refine Qg(Zq rfl(QW.move(.tmp rfl))(Zq rfl(QW.assign(.tmp rfl))(JL.nil(blkQ.n(thenQ.n ?_)))))
    exact⟨⟨lo,(lo+hi) / 2⟩,⟨ha,Nat.le_of_not_lt fun h=>absurd(h1 _(by omega)h)(by rw[hm];decide),by omega⟩,by show(lo+hi) / 2-lo<hi-lo;omega,QK(.cons rfl lr(.cons rfl lr(.cons rfl lr(.cons rfl lr(.cons rfl lr(.cons rfl lr(.cons rfl lr .nil)))))))(Reown.refl _)(fun _ h=>by first|exact h|simp[h])⟩
  have hge:hi≤lo:=by simpa using c1
  refine J.exit(Qv(Qv(QM(thenQ.n(Zs(Zq rfl(QW.move(.tmp rfl))(Zq rfl(QW.move(.tmp rfl))(Zq rfl(QW.move(.tmp rfl))(Zq rfl(QW.lss(.tmp rfl)(.tmp rfl)) ?_)))))))))
  refine Zq rfl(QW.move(.tmp rfl))(Zg rfl(fun hg=>(QW.move(.tmp rfl)))(Zg rfl(fun hg=>(QW.move(.tmp rfl)))(Zg rfl(fun hg=>(Qi UD Wc rfl(.when rfl hg)(.when rfl hg)rfl(by exact WO(by simp at hg;omega)))) ?_)))
  refine Zg rfl(fun hg=>(Qq Wc(.when rfl hg)rfl))(Zg rfl(fun hg=>(QW.move(.tmp rfl)))(Zg rfl(fun hg=>(KN(.when rfl hg)(.when rfl hg)))(Zg rfl(fun hg=>(QW.move(.when rfl hg)))(JL.gg rfl rfl rfl rfl rfl(fun hg=>(QW.move(.tmp rfl)))(JL.gg rfl rfl rfl rfl rfl(fun hg=>(QW.move(.tmp rfl)))(JL.gg rfl rfl rfl rfl rfl(fun hg=>(Qi UD Wc rfl(.when rfl hg)(.when rfl hg)rfl(by exact WO(by simp at hg;omega)))) ?_))))))
  refine JL.gg rfl rfl rfl rfl rfl(fun hg=>(Qq Wc(.when rfl hg)rfl))(JL.gg rfl rfl rfl rfl rfl(fun hg=>(QW.call BS(.cons(.when rfl hg) .nil)(M3 _)))(JL.gg rfl rfl rfl rfl rfl(fun hg=>(QW.move(.when rfl hg)))(JL.gg rfl rfl rfl rfl rfl(fun hg=>(QW.move(.tmp rfl)))(JL.gg rfl rfl rfl rfl rfl(fun hg=>(QW.call BS(.cons(.when rfl hg) .nil)(M3 _)))(JL.gg rfl rfl rfl rfl rfl(fun hg=>(Ys hg(.when rfl hg)(.tmp rfl)))(Zg rfl(fun hg=>(H6 hg(.when rfl hg)(.tmp rfl)))(Zq rfl(QW.pick_and(.tmp rfl)(.tmp rfl))(Zq rfl(QW.assign(.tmp rfl))(Zq rfl(QW.assign(.tmp rfl)) ?_)))))))))
  refine Zn(J.ret ?_)
  obtain rfl:lo=k:=by omega
  exact Zr [](QB rfl(REv.tmp rfl lr)(REv.tmp rfl lr))rfl⟨by rw[B4],rfl⟩
def EW(v:V)(s:StT):AV:=.tup [.c(.int .i64((v.fnd s).1:Int)),.c(.int .i64(v.fnd s).2)]
theorem XL {v:V}{s:StT}{i:Nat}{e:Int}(h:v.fnd s=(i,e)):EW v s=.tup [.c(.int .i64(i:Int)),.c(.int .i64 e)]:=by rw[EW,h]
theorem EY {fr:Bool}{v:V}{s:StT}{ys zs:List AV}(hv:Vc fr v ys)(hs:Sc s zs)(hp:Uc v=true)(hsw:s.wf):Fn Tryz.prog 29 [.agg ys,.agg zs](EW v s):=by
  obtain⟨k,b,t,ks,is⟩:=v
  subst hv
  obtain⟨sk,key,ix⟩:=s
  subst hs
  obtain⟨l1,l2⟩:=Xf hp
  have hsi:=hsw.i
  simp only[V.items,V.keys]at l1 l2 hsi
  refine AC.of_J Tryz.func29 rfl Tryz.ntmps29 rfl fun w0 A0=>?_
  refine Zs(Qp(.tmp rfl)rfl fun b2=>Qp(.tmp rfl)rfl fun b3=>Zq rfl(QW.assign .const)(Zq rfl(QW.assign .const)(Zn(J.seq(J.block(J.seq(Zs ?_)))))))
  refine Zq rfl(Qa Rb(.tmp rfl)rfl)(Zq rfl(Qb 0 P5(.tmp rfl)rfl rfl)(Zq rfl(QW.move(.tmp rfl))(Zg rfl(fun hg=>(Qa UK(.tmp rfl)rfl))(Zg rfl(fun hg=>(Qb 1 UR(.when rfl hg)rfl rfl))(Zg rfl(fun hg=>(QW.neq(.when rfl hg) .const))(Zq rfl(QW.pick_and(.tmp rfl)(.tmp rfl))(Zq rfl(QW.assign(.tmp rfl))(Zn ?_))))))))
  refine J.cond(.tmp rfl)(fun c1=>?_)(fun c1=>?_)
  ·skip
    skip
    refine Zk ?_
    refine J.cond(.tmp rfl)(fun c2=>?_)(fun c2=>absurd c2(by rw[c1];decide))
    exact Zs(Zq rfl(QW.assign .const)(Zq rfl(QW.assign .const)(Zn(J.ret(blkQ.r(thenQ.r(Zr [.k,.k](QB rfl(REv.tmp rfl lr)(REv.tmp rfl lr))rfl⟨congrArg W5.ret(XL(i:=0)(e:=81)(by simp at c1;obtain⟨rfl,h5⟩:=c1;simp[V.fnd,V.kind,h5])).symm,rfl⟩)))))))
  skip
  refine Qg(Zq rfl(Qa Rb(.tmp rfl)rfl)(Zq rfl(Qb 0 P5(.tmp rfl)rfl rfl)(Zq rfl(QW.not(.tmp rfl))(Zq rfl(QW.move(.tmp rfl))(Zg rfl(fun hg=>(Qa UK(.tmp rfl)rfl))(Zg rfl(fun hg=>(Qb 1 UR(.when rfl hg)rfl rfl))(Zg rfl(fun hg=>(QW.neq(.when rfl hg) .const))(Zq rfl(QW.pick_and(.tmp rfl)(.tmp rfl))(Zq rfl(QW.assign(.tmp rfl)) ?_)))))))))
  refine Zn ?_
  refine J.cond(.tmp rfl)(fun c2=>?_)(fun c2=>?_)
  ·skip
    skip
    exact Zs(Zq rfl(QW.assign .const)(Zq rfl(QW.assign .const)(Zn(J.ret(blkQ.r(thenQ.r(Zr [.k,.k](QB rfl(REv.tmp rfl lr)(REv.tmp rfl lr))rfl⟨congrArg W5.ret(XL(i:=0)(e:=81)(by simp at c1 c2;obtain⟨rfl,h5⟩:=c2;simp[V.fnd,V.kind,h5])).symm,rfl⟩)))))))
  skip
  refine Zs(Zq rfl(Qa Rb(.tmp rfl)rfl)(Zq rfl(Qb 0 P5(.tmp rfl)rfl rfl)(Zq rfl(QW.assign(.tmp rfl))(Zn ?_))))
  refine J.cond(.tmp rfl)(fun c3=>?_)(fun c3=>?_)
  ·skip
    simp at c1 c2
    subst c3
    simp at c1
    subst c1
    have hsrt:Rq ks:=MK(X3 hp rfl).2
    refine Zs(Zq rfl(Qa U9(.tmp rfl)rfl)(Zq rfl(Qb 1 YS(.tmp rfl)rfl rfl)(Zq rfl(Qa DE(.tmp rfl)rfl)(Zq rfl(Qb 0 Wc(.tmp rfl)rfl rfl)(Zq rfl(QW.call gofn45(.cons(.tmp rfl)(.cons(.tmp rfl) .nil))(bs_ok(k:=M9 ks key)(by omega)(Dj _ _)(fun i h hi=>Bw h hi)(fun i h hi=>low_ge hsrt h hi)))(Zq rfl(QW.move(.tmp rfl))(Zq rfl(QW.extract(.tmp rfl)rfl)(Zq rfl(QW.extract(.tmp rfl)rfl)(Zq rfl(QW.assign(.tmp rfl)) ?_)))))))))
    refine Zq rfl(QW.assign(.tmp rfl))(Zn(J.seq(Zs(Zq rfl(QW.move(.tmp rfl))(Zq rfl(QW.not(.tmp rfl))(Zn ?_))))))
    refine J.cond(.tmp rfl)(fun c4=>?_)(fun c4=>?_)
    ·skip
      skip
      exact Zs(Zq rfl(QW.move(.tmp rfl))(Zq rfl(QW.assign(.tmp rfl))(Zq rfl(QW.assign .const)(Zn(J.ret(thenQ.r(blkQ.r(thenQ.r(Zr [.k,.k](QB rfl(REv.tmp rfl lr)(REv.tmp rfl lr))rfl⟨congrArg W5.ret(XL(i:=M9 ks key)(e:=71)(by simp at c4;simp[V.fnd,V.kind,V.keys,c4])).symm,rfl⟩)))))))))
    skip
    exact Zk(Zs(Zq rfl(QW.move(.tmp rfl))(Zq rfl(QW.assign(.tmp rfl))(Zq rfl(QW.assign .const)(Zn(J.ret(blkQ.r(thenQ.r(Zr [.k,.k](QB rfl(REv.tmp rfl lr)(REv.tmp rfl lr))rfl⟨congrArg W5.ret(XL(i:=M9 ks key)(e:=0)(by simp at c4;simp[V.fnd,V.kind,V.keys,c4])).symm,rfl⟩)))))))))
  simp at c1 c2
  subst c3
  simp at c2
  subst c2
  refine Zs(Zq rfl(Qa L8(.tmp rfl)rfl)(Zq rfl(Qb 0 UR(.tmp rfl)rfl rfl)(Zq rfl(QW.lss(.tmp rfl) .const)(Zq rfl(QW.move(.tmp rfl))(Zg rfl(fun hg=>(Qa L8(.tmp rfl)rfl))(Zg rfl(fun hg=>(Qb 0 UR(.when rfl hg)rfl rfl))(Zg rfl(fun hg=>(Qa Ue(.tmp rfl)rfl))(Zg rfl(fun hg=>(Qb 1 U6(.when rfl hg)rfl rfl))(Zg rfl(fun hg=>(Qh QO(.when rfl hg)wl)) ?_)))))))))
  refine Zg rfl(fun hg=>(QW.geq(.when rfl hg)(.when rfl hg)))(Zq rfl(QW.pick_or(.tmp rfl)(.tmp rfl))(Zq rfl(QW.assign(.tmp rfl))(Zn ?_)))
  refine J.cond(.tmp rfl)(fun c4=>?_)(fun c4=>?_)
  ·skip
    skip
    exact Zs(Zq rfl(QW.assign .const)(Zq rfl(QW.assign .const)(Zn(J.ret(blkQ.r(thenQ.r(Zr [.k,.k](QB rfl(REv.tmp rfl lr)(REv.tmp rfl lr))rfl⟨congrArg W5.ret(XL(i:=0)(e:=82)(by unfold V.fnd;rw[if_neg(by simp),if_pos(show(V.mk 4 b t ks is).kind=4 from rfl),if_pos(by simpa[V.items]using c4)])).symm,rfl⟩)))))))
  skip
  refine J.skip(blkQ.n(thenQ.n(Zs(Zq rfl(Qa L8(.tmp rfl)rfl)(Zq rfl(Qb 0 UR(.tmp rfl)rfl rfl)(Zq rfl(QW.assign(.tmp rfl))(Zq rfl(QW.assign .const)(Zn(J.ret ?_)))))))))
  simp at c4
  obtain⟨m,rfl⟩:=Int.eq_ofNat_of_zero_le(a:=ix)(by omega)
  exact Zr [.k,.k](QB rfl(REv.tmp rfl lr)(REv.tmp rfl lr))rfl⟨congrArg W5.ret(XL(i:=m)(e:=0)(by simp[V.fnd,V.kind,V.items];omega)).symm,rfl⟩
def B2(v:V)(p:List StT):AV:=.tup [.agg((v.getv p).1.cs true),.c(.int .i64(v.getv p).2)]
theorem L1 {v u:V}{p:List StT}{e:Int}(h:v.getv p=(u,e)):B2 v p=.tup [.agg(u.cs true),.c(.int .i64 e)]:=by rw[B2,h]
theorem QaM(fr:Bool)(u:V):(u.cs fr)[0+4]? =some(.sl fr false eV(V.css fr u.items)):=by cases u;rfl
theorem Lq {α:Type}{l:List α}{j:Nat}(h:j<l.length):l.drop j=l[j]::l.drop(j+1):=List.drop_eq_getElem_cons h
theorem get_ok {fr fr2 c2:Bool}{v:V}{p:List StT}{ys:List AV}(hv:Vc fr v ys)(hw:v.wf)(hp:p.length*32≤Qu∧∀s∈p,s.wf):Fn Tryz.prog 18 [.agg ys,.sl fr2 c2 eSt(StT.css p)](B2 v p):=by
  obtain⟨hp80,hpw⟩:=hp
  have hpl:p.length≤4398046511104:=by unfold Qu at hp80;omega
  subst hv
  refine AC.of_J Tryz.func18 rfl Tryz.ntmps18 rfl fun w0 A0=>?_
  refine Zs(Qp(.tmp rfl)rfl fun b2=>JL.alloc WV rfl rfl fun b4=>Zq rfl(QW.assign .const)(Zn(J.seq(Zs(Zq rfl(Qf 1 Qj(.tmp rfl)rfl(Qm vl rfl)vl)(Zq rfl(QW.call XA(.cons(.tmp rfl) .nil)(W9 Vc.self hw))(Zq rfl(QW.assign(.tmp rfl)) ?_)))))))
  refine Zn(Zs(Zq rfl(QW.move(.tmp rfl))(Zq rfl(QW.neq(.tmp rfl) .const)(Zn ?_))))
  refine J.cond(.tmp rfl)(fun c1=>?_)(fun c1=>?_)
  ·skip
    simp at c1
    exact Zs(Zq rfl(QW.build(idx:=[])Xx WV rfl .nil rfl rfl rfl rfl)(Zq rfl(QW.move(.tmp rfl))(Qc 0 Qj(.tmp rfl)rfl(.tmp rfl)rfl rfl rfl rfl(Zq rfl(QW.assign(.tmp rfl))(Zn(J.ret(thenQ.r(Zr [.k,.k](QB rfl(REv.cell 0 Qj rfl rfl rfl rfl(.aggL(.cons lr(.cons lr(.cons lr(.cons(.nil true false _)(.cons(.nil true false _) .nil)))))))(REv.tmp rfl lr))rfl⟨congrArg W5.ret(L1(u:=.nil)(e:=v.err)(by rw[V.getv,if_pos c1])).symm,rfl⟩))))))))
  simp at c1
  have hfv:=V.fine_of c1
  refine Zk(J.seq(Zs(Zq rfl(QW.move(.tmp rfl))(Zq rfl(Qh NM(.tmp rfl)(StT.css_length _))(Zq rfl(QW.move .const)(Zn(J.block(Q0(ι:=Nat×V) [2,4,17,18](fun⟨j,u⟩=>[(19,.c(.int .i64(j:Int)))])(fun⟨j,u⟩oo=>List.set oo 1(.box b2(u.cs fr)))(fun⟨j,u⟩=>j≤p.length∧u.Fine∧u.wf∧v.walk p=u.walk(p.drop j))(fun⟨j,u⟩=>p.length-j)⟨0,v⟩(⟨Nat.zero_le _,hfv,hw,rfl⟩)(QK(.cons rfl lr(.cons rfl lr(.cons rfl lr(.cons rfl lr(.cons rfl lr .nil)))))(Reown.refl _)(fun _ h=>by first|exact h|simp[h])) ?_))))))))
  intro⟨j,u⟩⟨hj,hf,huw,hwk⟩
  refine J.conv(by(try simp only[nl,Qk,Qz,QA,Qy,QR,AV.cellsOf,Qd,Qe,Nat.reduceAdd]);rfl) ?_
  refine Zs(Zq rfl(QW.lss(.tmp rfl)(.tmp rfl))(Zn(J.seq ?_)))
  refine J.cond(.tmp rfl)(fun c2=>?_)(fun c2=>?_)
  ·skip
    have hlt:j<p.length:=by simpa using c2
    refine Zk(J.seq(J.block(Zs(Zq rfl(Qi NM ME rfl(.tmp rfl)(.tmp rfl)rfl(by exact StT.css_getE hlt)) ?_))))
    refine Zq rfl(Ql ME(.tmp rfl)rfl rfl)(JL.alloc FA rfl rfl fun b8=>Qc 0 ME(.tmp rfl)rfl(.tmp rfl)rfl rfl rfl rfl(Zn(Zs(Zq rfl(Qf 2 Qj(.tmp rfl)rfl(Qm vl rfl)vl)(Zq rfl(Qf 0 ME(.tmp rfl)rfl rfl rfl)(Zq rfl(QW.call B0(.cons(.tmp rfl)(.cons(.tmp rfl) .nil))(EY Vc.self Sc.self hf.part(hpw _(List.getElem_mem hlt))))(Zq rfl(QW.move(.tmp rfl))(Zq rfl(QW.extract(.tmp rfl)rfl) ?_))))))))
    refine Zq rfl(QW.extract(.tmp rfl)rfl)(Zq rfl(QW.assign(.tmp rfl))(Zq rfl(QW.assign(.tmp rfl))(Zn(J.seq(Zs(Zq rfl(QW.move(.tmp rfl))(Zq rfl(QW.neq(.tmp rfl) .const)(Zn ?_))))))))
    refine J.cond(.tmp rfl)(fun c3=>?_)(fun c3=>?_)
    ·skip
      simp at c3
      refine Zs(Zq rfl(QW.build(idx:=[])Xx WV rfl .nil rfl rfl rfl rfl)(Zq rfl(QW.move(.tmp rfl))(Qc 1 Qj(.tmp rfl)rfl(.tmp rfl)rfl rfl rfl rfl(Zq rfl(QW.assign(.tmp rfl))(Zn(J.ret(thenQ.r(blkQ.r(thenQ.r ?_)))))))))
      exact thenQ.r(blkQ.r(thenQ.r(Zr [.k,.k,.k](QB rfl(REv.cell 1 Qj rfl rfl rfl rfl(.aggL(.cons lr(.cons lr(.cons lr(.cons(.nil true false _)(.cons(.nil true false _) .nil)))))))(REv.tmp rfl lr))rfl⟨congrArg W5.ret(L1(u:=.nil)(e:=(u.fnd(p[j]'hlt)).2)(by rw[V.getv,if_neg(by simp[c1]),hwk,Lq hlt,V.walk,if_pos c3])).symm,rfl⟩)))
    simp at c3
    have hil:=Hc hf.part c3
    have hcn:(if(u.fnd(p[j]'hlt)).2=0 then((u.fnd(p[j]'hlt)).1:Int)else -1)=((u.fnd(p[j]'hlt)).1:Int):=if_pos c3
    refine Zk(Qg(Zq rfl(Qa Ue(.tmp rfl)rfl)(Zq rfl(Qb 2 U6(.tmp rfl)rfl(QaM fr u))(Zq rfl(QW.move(.tmp rfl))(Zq rfl(Qi QO Qj rfl(.tmp rfl)(.tmp rfl)rfl(by exact(V.css_getE fr hil).trans(by rw[← TD hil]))) ?_)))))
    refine Zq rfl(Ql Qj(.tmp rfl)(QH vl rfl)vl)(Qc 2 Qj(.tmp rfl)rfl(.tmp rfl)rfl vl vl rfl(JL.nil(blkQ.n(thenQ.n(Qg(Zq rfl(QW.add(.tmp rfl) .const(W0(by omega)))(Zq rfl(QW.move(.tmp rfl))(Zn ?_))))))))
    exact⟨⟨j+1,u.kid(u.fnd(p[j]'hlt)).1⟩,⟨hlt,hf.kid(XO hil),huw.kid(XO hil),by rw[hwk,Lq hlt,V.walk,if_neg(by simpa using c3)]⟩,by show p.length-(j+1)<p.length-j;omega,QK(.cons rfl lr(.cons rfl lr(.cons rfl lr(.cons rfl lr(.cons rfl lr .nil)))))(Q9 1 _ rfl)(fun _ h=>by first|exact h|simp[h])⟩
  have hge:p.length≤j:=by simpa using c2
  refine J.exit(Qv(Qv(QM(thenQ.n(Zs(Zq rfl(Qf 1 Qj(.tmp rfl)rfl(Qm vl rfl)vl)(Zq rfl(QW.call Gy(.cons(.tmp rfl) .nil)(G7 Vc.self huw))(Qc 0 Qj(.tmp rfl)rfl(.tmp rfl)rfl vl rfl rfl(Zq rfl(QW.assign .const) ?_)))))))))
  refine Zn(J.ret ?_)
  rw[List.drop_of_length_le hge]at hwk
  exact Zr [.k,.k](QB rfl(REv.cell 0 Qj rfl rfl(Qm vl rfl)vl lr)(REv.tmp rfl lr))rfl⟨congrArg W5.ret(L1(u:=u)(e:=0)(by rw[V.getv,if_neg(by simp[c1]),hwk];rfl)).symm,rfl⟩

end
section
/- Walks: the small functions of the machine that reckons. -/
set_option maxRecDepth 10000
set_option maxHeartbeats 4000000
theorem XI(ok:Bool)(e:Int):AC Tryz.prog 95 [] [.c(.bool ok),.c(.int .i64 e)](PanR(ok=true)(YV e)fun x o=>x=.tup []∧o=[]):=by
  refine AC.of_J Tryz.func95 rfl Tryz.ntmps95 rfl fun w0 A0=>?_
  refine Zs(Zq rfl(QW.move(.tmp rfl))(Zq rfl(QW.not(.tmp rfl))(Zn ?_)))
  refine J.cond(.tmp rfl)(fun c1=>?_)(fun c1=>?_)
  ·skip
    have hok:ok=false:=by simpa using c1
    refine Qg(Zq rfl(QW.move(.tmp rfl))(Zq rfl(WT⟨_,Tryz.underlying33,by intro ms h;cases h⟩(.tmp rfl)) ?_))
    refine JL.panic(.tmp rfl) ?_
    exact⟨_,QN []_,_,rfl,rfl,Qn []_,PanR.pan(by simp[hok])⟩
  have hok:ok=true:=by simpa using c1
  exact J.skip(Zr [](Uq rfl)rfl(PanR.ret hok⟨rfl,rfl⟩))
theorem Wq(b:Bool):Fn Tryz.prog 96 [.c(.bool b)](.agg((V.tr b).cs false)):=by
  refine AC.of_J Tryz.func96 rfl Tryz.ntmps96 rfl fun w0 A0=>?_
  refine Zs(JL.alloc WV rfl rfl fun b2=>Zn(Zs(Zq rfl(QW.build(idx:=[0])Xx WV rfl(.cons .const .nil)rfl rfl rfl rfl)(JL.alloc WV rfl rfl fun b3=>Qc 0 Qj(.tmp rfl)rfl(.tmp rfl)rfl rfl rfl rfl(Zn(J.seq(Zs ?_)))))))
  refine Zq rfl(QW.move(.tmp rfl))(Zn ?_)
  refine J.cond(.tmp rfl)(fun c1=>?_)(fun c1=>?_)
  ·skip
    obtain rfl:b=true:=by simpa using c1
    exact Qg(Zq rfl(Qa Uv(.tmp rfl)rfl)(JL.store_box 0 Wn(.tmp rfl)rfl .const rfl rfl rfl rfl rfl(Zn(Zs(Zq rfl(Qf 0 Qj(.tmp rfl)rfl rfl rfl)(Qc 1 Qj(.tmp rfl)rfl(.tmp rfl)rfl rfl rfl rfl(Zn(J.ret(Zr [.k,.k](RetEv.one rfl(REv.cell 1 Qj rfl rfl rfl rfl(.aggL(.cons lr(.cons lr(.cons lr(.cons(.nil false false _)(.cons(.nil false false _) .nil))))))))rfl⟨rfl,rfl⟩)))))))))
  obtain rfl:b=false:=by simpa using c1
  exact Zk(Zs(Zq rfl(Qf 0 Qj(.tmp rfl)rfl rfl rfl)(Qc 1 Qj(.tmp rfl)rfl(.tmp rfl)rfl rfl rfl rfl(Zn(J.ret(Zr [.k,.k](RetEv.one rfl(REv.cell 1 Qj rfl rfl rfl rfl(.aggL(.cons lr(.cons lr(.cons lr(.cons(.nil false false _)(.cons(.nil false false _) .nil))))))))rfl⟨rfl,rfl⟩))))))
theorem Gp(b:Nat):Fn Tryz.prog 97 [.c(.int .u64(b:Int))](.agg((V.nu b).cs false)):=by
  refine AC.of_J Tryz.func97 rfl Tryz.ntmps97 rfl fun w0 A0=>?_
  exact Zs(JL.alloc WV rfl rfl fun b2=>Zn(Zs(Zq rfl(QW.move(.tmp rfl))(Zq rfl(QW.build(idx:=[0,1])Xx WV rfl(.cons .const(.cons(.tmp rfl) .nil))rfl rfl rfl rfl)(Qc 0 Qj(.tmp rfl)rfl(.tmp rfl)rfl rfl rfl rfl(Zn(J.ret(Zr [.k](RetEv.one rfl(REv.cell 0 Qj rfl rfl rfl rfl(.aggL(.cons lr(.cons lr(.cons lr(.cons(.nil false false _)(.cons(.nil false false _) .nil))))))))rfl⟨rfl,rfl⟩))))))))
theorem NZ {fr:Bool}{v:V}{ys:List AV}(hv:Vc fr v ys)(hw:v.wf):AC Tryz.prog 109 [] [.agg ys](PanR(v.err=0)(YV 84)fun x o=>x=.agg ys∧o=[]):=by
  subst hv
  refine AC.of_J Tryz.func109 rfl Tryz.ntmps109 rfl fun w0 A0=>?_
  refine Zs(Qp(.tmp rfl)rfl fun b1=>JL.alloc WV rfl rfl fun b2=>Zn(Zs(Zq rfl(Qf 1 Qj(.tmp rfl)rfl(Qm vl rfl)vl)(Zq rfl(QW.call XA(.cons(.tmp rfl) .nil)(W9(Vc.self)(by assumption))) ?_))))
  refine Zq rfl(QW.eql(.tmp rfl) .const) ?_
  refine Qs []YB rfl Lent.nil(fun _=>(.cons(.tmp rfl)(.cons .const .nil)))(XI _ _)(.inl rfl)(fun k6 x6 o6 h6=>?_)(fun k6=>?_)
  rotate_left
  ·skip
    refine thenQ.p ?_
    exact⟨_,QN [.k,.k]_,_,rfl,rfl,Qn [.k,.k]_,PanR.pan(by simpa using k6)⟩
  obtain⟨rfl,rfl⟩:=h6
  exact Zn(Zs(Zq rfl(Qf 1 Qj(.tmp rfl)rfl(Qm vl rfl)vl)(Qc 0 Qj(.tmp rfl)rfl(.tmp rfl)rfl vl rfl rfl(Zn(J.ret(Zr [.k,.k](RetEv.one rfl(REv.cell 0 Qj rfl rfl(Qm vl rfl)vl lr))rfl(PanR.ret(by simpa using k6)⟨rfl,rfl⟩)))))))
theorem D2(fr:Bool)(v:V):(List.drop 0(v.cs fr))[0]? =some(.c(.int .i64 v.kind)):=by cases v;rfl
theorem YW(fr:Bool)(v:V):(List.drop 1(v.cs fr))[0]? =some(.c(.int .u64(v.bits:Int))):=by cases v;rfl
theorem Mo(fr:Bool)(v:V):(List.drop 2(v.cs fr))[0]? =some(.c(Un v.text)):=by cases v;rfl
theorem PP(fr:Bool)(v:V):(List.drop 4(v.cs fr))[0]? =some(.sl fr false eV(V.css fr v.items)):=by cases v;rfl
def Uh:List V→List Int→Bool
  |_,[]=>true
  |[],_::_=>false
  |v::l,k::ks=>v.kind==k&&Uh l ks
theorem HX {l:List V}{ks:List Int}{j:Nat}(h:j<ks.length)(h2:j<l.length):Uh(l.drop j)(ks.drop j)=(l[j].kind==ks[j]&&Uh(l.drop(j+1))(ks.drop(j+1))):=by
  rw[List.drop_eq_getElem_cons h,List.drop_eq_getElem_cons h2,Uh]
theorem Wx {fr c fr2 c2:Bool}(l:List V)(ks:List Int)(hk:ks.length≤l.length)(hl:l.length≤1000):AC Tryz.prog 110 [] [.sl fr c eV(V.css fr l),.sl fr2 c2 eI64(WF ks)](PanR(Uh l ks=true)(YV 81)fun x o=>x=.tup []∧o=[]):=by
  refine AC.of_J Tryz.func110 rfl Tryz.ntmps110 rfl fun w0 A0=>?_
  refine Zs(Zq rfl(QW.move(.tmp rfl))(Zq rfl(Qh YJ(.tmp rfl)(YE _))(Zq rfl(QW.move .const)(Zn(J.block(Q0(ι:=Nat) [0,6,7](fun j=>[(8,.c(.int .i64(j:Int)))])(fun _ oo=>oo)(fun j=>j≤ks.length∧Uh l ks=Uh(l.drop j)(ks.drop j))(fun j=>ks.length-j) 0(⟨Nat.zero_le _,rfl⟩)(QK(.cons rfl lr(.cons rfl lr(.cons rfl lr(.cons rfl lr .nil))))(Reown.refl _)(fun _ h=>by first|exact h|simp[h])) ?_))))))
  intro j⟨hj,hs⟩
  refine J.conv(by(try simp only[nl,Qk,Qz,QA,Qy,QR,AV.cellsOf,Qd,Qe,Nat.reduceAdd]);rfl) ?_
  refine Zs(Zq rfl(QW.lss(.tmp rfl)(.tmp rfl))(Zn(J.seq ?_)))
  refine J.cond(.tmp rfl)(fun c1=>?_)(fun c1=>?_)
  ·skip
    have hlt:j<ks.length:=by simpa[YE]using c1
    have hlt2:j<l.length:=by omega
    refine Zk(J.seq(J.block(Zs(Zq rfl(QW.move(.tmp rfl))(Zq rfl(Qi YJ UR rfl(.tmp rfl)(.tmp rfl)rfl(by exact HZ hlt)) ?_)))))
    refine Zq rfl(Qq UR(.tmp rfl)rfl)(Zq rfl(QW.assign(.tmp rfl))(Zq rfl(QW.assign(.tmp rfl))(Zn(Qg(Zq rfl(QW.move(.tmp rfl))(Zq rfl(QW.move(.tmp rfl))(Zq rfl(Qi QO Qj rfl(.tmp rfl)(.tmp rfl)rfl(by exact V.css_getE _ hlt2)) ?_)))))))
    refine Zq rfl(Qt UK(.tmp rfl)rfl)(Zq rfl(Qq UR(.tmp rfl)(D2 _ _))(Zq rfl(QW.move(.tmp rfl))(Zq rfl(QW.eql(.tmp rfl)(.tmp rfl)) ?_)))
    refine Qs []YB rfl Lent.nil(fun _=>(.cons(.tmp rfl)(.cons .const .nil)))(XI _ _)(.inl rfl)(fun k20 x20 o20 h20=>?_)(fun k20=>?_)
    rotate_left
    ·skip
      refine blkQ.p(thenQ.p(thenQ.p(blkQ.p ?_)))
      exact⟨_,QN []_,_,rfl,rfl,Qn []_,PanR.pan(by rw[hs,HX hlt hlt2];simp only[Bool.and_eq_true];exact fun h=>k20 h.1)⟩
    obtain⟨rfl,rfl⟩:=h20
    refine JL.nil(blkQ.n(thenQ.n(Qg(Zq rfl(QW.add(.tmp rfl) .const(W0(by omega)))(Zq rfl(QW.move(.tmp rfl))(Zn ?_))))))
    rw[HX hlt hlt2,k20,Bool.true_and]at hs
    exact⟨j+1,⟨hlt,hs⟩,by omega,QK(.cons rfl lr(.cons rfl lr(.cons rfl lr(.cons rfl lr .nil))))(Reown.refl _)(fun _ h=>by first|exact h|simp[h])⟩
  have hge:ks.length≤j:=by simpa[YE]using c1
  exact J.exit(Qv(Qv(QM(Zr [](Uq rfl)rfl(PanR.ret(by rw[hs,List.drop_of_length_le hge];cases l.drop j<;>rfl)⟨rfl,rfl⟩)))))
theorem E6 {fr:Bool}{v:V}{s:StT}{ys:List AV}(hv:Vc fr v ys)(hw:v.wf)(hs:s.wf):AC Tryz.prog 126 [] [.agg ys,.agg s.cs](PanR((v.getv [s]).2=0)(YV(v.getv [s]).2)fun x o=>x=.agg((v.getv [s]).1.cs true)∧o=[]):=by
  subst hv
  obtain⟨sk,key,ix⟩:=s
  have hp:[StT.mk sk key ix].length*32≤Qu∧∀x∈[StT.mk sk key ix],x.wf:=⟨by unfold Qu;simp,fun x hx=>by rw[List.mem_singleton.1 hx];exact hs⟩
  refine AC.of_J Tryz.func126 rfl Tryz.ntmps126 rfl fun w0 A0=>?_
  refine Zs(Qp(.tmp rfl)rfl fun b2=>Qp(.tmp rfl)rfl fun b3=>JL.alloc WV rfl rfl fun b4=>Zn(Zs(Zq rfl(Qf 2 Qj(.tmp rfl)rfl(Qm vl rfl)vl)(Zq rfl(Qf 1 ME(.tmp rfl)rfl rfl rfl)(Zq rfl(QW.buildSlice(idx:=[0])(xs:=StT.css [⟨sk,key,ix⟩])NM Qat FA rfl(.cons(.tmp rfl) .nil)rfl rfl rfl rfl rfl rfl rfl rfl rfl)(Zq rfl(QW.call gofn18(.cons(.tmp rfl)(.cons(.tmp rfl) .nil))(get_ok(p:=[StT.mk sk key ix])Vc.self hw hp)) ?_))))))
  refine Zq rfl(QW.move(.tmp rfl))(Zq rfl(QW.extract(.tmp rfl)rfl)(Zq rfl(QW.extract(.tmp rfl)rfl)(JL.alloc WV rfl rfl fun b5=>Qc 0 Qj(.tmp rfl)rfl(.tmp rfl)rfl vl rfl rfl(Zq rfl(QW.assign(.tmp rfl))(Zn(Zs(Zq rfl(QW.move(.tmp rfl))(Zq rfl(QW.eql(.tmp rfl) .const) ?_))))))))
  refine Zq rfl(QW.move(.tmp rfl)) ?_
  refine Qs []YB rfl Lent.nil(fun _=>(.cons(.tmp rfl)(.cons(.tmp rfl) .nil)))(XI _ _)(.inl rfl)(fun k17 x17 o17 h17=>?_)(fun k17=>?_)
  rotate_left
  ·skip
    refine thenQ.p ?_
    exact⟨_,QN [.k,.k,.k,.k]_,_,rfl,rfl,Qn [.k,.k,.k,.k]_,PanR.pan(by simpa using k17)⟩
  obtain⟨rfl,rfl⟩:=h17
  exact Zn(Zs(Zq rfl(Qf 0 Qj(.tmp rfl)rfl(Qm vl rfl)vl)(Qc 1 Qj(.tmp rfl)rfl(.tmp rfl)rfl vl rfl rfl(Zn(J.ret(Zr [.k,.k,.k,.k](RetEv.one rfl(REv.cell 1 Qj rfl rfl(Qm vl rfl)vl lr))rfl(PanR.ret(by simpa using k17)⟨rfl,rfl⟩)))))))
theorem Ha(o:Int)(a b:Nat):Fn Tryz.prog 111 [.c(.int .i64 o),.c(.int .u64(a:Int)),.c(.int .u64(b:Int))](.agg((V.nu(DX o a b)).cs false)):=by
  refine AC.of_J Tryz.func111 rfl Tryz.ntmps111 rfl fun w0 A0=>?_
  refine Zs(JL.alloc WV rfl rfl fun b6=>Zn(J.seq(Zs(Zq rfl(QW.move(.tmp rfl))(Zn(J.block(Zs(Zq rfl(QW.eql(.tmp rfl) .const) ?_))))))))
  refine Zq rfl(QW.assign(.tmp rfl))(Zn ?_)
  refine J.cond(.tmp rfl)(fun c1=>?_)(fun c1=>?_)
  ·try(exfalso;simp at*;omega;done)
    all_goals
      exact Zs(Zq rfl(QW.move(.tmp rfl))(Zq rfl(QW.move(.tmp rfl))(Zq rfl(QW.call S2(.cons(.tmp rfl)(.cons(.tmp rfl) .nil))(add_ok _ _))(Zq rfl(QW.call Gw(.cons(.tmp rfl) .nil)(Gp _))(Qc 0 Qj(.tmp rfl)rfl(.tmp rfl)rfl rfl rfl rfl(Zn(J.ret(blkQ.r(thenQ.r(Zr [.k](RetEv.one rfl(REv.cell 0 Qj rfl rfl rfl rfl lr))rfl⟨by rw[show DX o a b=U1 .add a b by simp at*;simp[DX,*]];rfl,rfl⟩))))))))))
  try(exfalso;simp at*;omega;done)
  all_goals
    refine Zs(Zq rfl(QW.eql(.tmp rfl) .const)(Zq rfl(QW.assign(.tmp rfl))(Zn ?_)))
    refine J.cond(.tmp rfl)(fun c2=>?_)(fun c2=>?_)
    ·try(exfalso;simp at*;omega;done)
      all_goals
        exact Zs(Zq rfl(QW.move(.tmp rfl))(Zq rfl(QW.move(.tmp rfl))(Zq rfl(QW.call S1(.cons(.tmp rfl)(.cons(.tmp rfl) .nil))(sub_ok _ _))(Zq rfl(QW.call Gw(.cons(.tmp rfl) .nil)(Gp _))(Qc 0 Qj(.tmp rfl)rfl(.tmp rfl)rfl rfl rfl rfl(Zn(J.ret(blkQ.r(thenQ.r(Zr [.k](RetEv.one rfl(REv.cell 0 Qj rfl rfl rfl rfl lr))rfl⟨by rw[show DX o a b=U1 .sub a b by simp at*;simp[DX,*]];rfl,rfl⟩))))))))))
    try(exfalso;simp at*;omega;done)
    all_goals
      refine Zs(Zq rfl(QW.eql(.tmp rfl) .const)(Zq rfl(QW.assign(.tmp rfl))(Zn ?_)))
      refine J.cond(.tmp rfl)(fun c3=>?_)(fun c3=>?_)
      ·try(exfalso;simp at*;omega;done)
        all_goals
          exact Zs(Zq rfl(QW.move(.tmp rfl))(Zq rfl(QW.move(.tmp rfl))(Zq rfl(QW.call S0(.cons(.tmp rfl)(.cons(.tmp rfl) .nil))(mul_ok _ _))(Zq rfl(QW.call Gw(.cons(.tmp rfl) .nil)(Gp _))(Qc 0 Qj(.tmp rfl)rfl(.tmp rfl)rfl rfl rfl rfl(Zn(J.ret(blkQ.r(thenQ.r(Zr [.k](RetEv.one rfl(REv.cell 0 Qj rfl rfl rfl rfl lr))rfl⟨by rw[show DX o a b=U1 .mul a b by simp at*;simp[DX,*]];rfl,rfl⟩))))))))))
      try(exfalso;simp at*;omega;done)
      all_goals
        refine J.skip(blkQ.n(thenQ.n(Zs(Zq rfl(QW.move(.tmp rfl))(Zq rfl(QW.move(.tmp rfl))(Zq rfl(QW.call SZ(.cons(.tmp rfl)(.cons(.tmp rfl) .nil))(quo_ok _ _))(Zq rfl(QW.call Gw(.cons(.tmp rfl) .nil)(Gp _))(Qc 0 Qj(.tmp rfl)rfl(.tmp rfl)rfl rfl rfl rfl(Zn ?_)))))))))
        exact J.ret(Zr [.k](RetEv.one rfl(REv.cell 0 Qj rfl rfl rfl rfl lr))rfl⟨by rw[show DX o a b=U1 .quo a b by simp at*;simp[DX,*]];rfl,rfl⟩)

end
section
/- What is set is got; what parts from its path stays. -/
theorem Mj {v w x:V}{p:List StT}(h:v.setv p x=(w,0)):v.err=0∧x.err=0∧v.set p x=(w,0)∧w.err=0:=by
  unfold V.setv at h
  split at h
  ·rename_i h1;exact absurd(congrArg(·.2)h)h1
  ·rename_i h1
    split at h
    ·rename_i h2;exact absurd(congrArg(·.2)h)h2
    ·rename_i h2
      split at h
      ·rename_i h3;exact absurd(congrArg(·.2)h)h3
      ·rename_i h3
        split at h
        ·rename_i h4;exact absurd(congrArg(·.2)h)h4
        ·rename_i h4
          have hw:(v.set p x).1=w:=congrArg(·.1)h
          exact⟨by simpa using h1,by simpa using h2,Prod.ext hw(by simpa using h3),by rw[← hw];simpa using h4⟩

end
section
/- What expressions come to may be; the fuel that they take. -/
/-! ### values that may be -/
mutual
theorem Mq:∀(v:V)(lev n:Int),(v.chk lev n).1=0→(v.chk lev n).2=n+v.sz
  |.mk k b t ks is,lev,n,h=>by
    unfold V.chk at h⊢
    split at h
    ·simp at h
    ·split at h
      ·simp at h
      ·split at h
        ·simp at h
        ·rename_i h1 h2 h3
          rw[if_neg h1,if_neg h2,if_neg h3,Nw is lev(n+1)h]
          simp only[V.sz];omega
theorem Nw:∀(l:List V)(lev n:Int),(V.chks l lev n).1=0→(V.chks l lev n).2=n+V.szs l
  |[],lev,n,h=>by simp[V.chks,V.szs]
  |x::r,lev,n,h=>by
    unfold V.chks at h⊢
    split at h
    ·rename_i h';exact absurd h h'
    ·rename_i h'
      rw[if_neg h',Nw r lev _ h,Mq x(lev+1)n(by simpa using h')]
      simp only[V.szs];omega
end
mutual
theorem Mr:∀(v:V)(lev lev' n n':Int),(v.chk lev n).1=0→lev'≤lev→n'≤n→(v.chk lev' n').1=0
  |.mk k b t ks is,lev,lev',n,n',h,h1,h2=>by
    unfold V.chk at h⊢
    split at h
    ·simp at h
    ·split at h
      ·simp at h
      ·split at h
        ·simp at h
        ·rename_i a1 a2 a3
          rw[if_neg(by omega),if_neg(by omega),if_neg a3]
          exact H4 is lev lev'(n+1)(n'+1)h h1(by omega)
theorem H4:∀(l:List V)(lev lev' n n':Int),(V.chks l lev n).1=0→lev'≤lev→n'≤n→(V.chks l lev' n').1=0
  |[],lev,lev',n,n',h,h1,h2=>rfl
  |x::r,lev,lev',n,n',h,h1,h2=>by
    unfold V.chks at h⊢
    split at h
    ·rename_i h';exact absurd h h'
    ·rename_i h'
      have hx:=Mr x(lev+1)(lev'+1)n n'(by simpa using h')(by omega)h2
      have e1:=Mq x(lev+1)n(by simpa using h')
      have e2:=Mq x(lev'+1)n' hx
      rw[if_neg(by simp[hx])]
      exact H4 r lev lev' _ _ h h1(by omega)
end
theorem Mp:∀{l:List V}{lev n:Int},0≤lev→0≤n→(V.chks l lev n).1=0→∀x∈l,x.err=0
  |[],lev,n,_,_,h,x,hx=>by cases hx
  |y::r,lev,n,hl,hn,h,x,hx=>by
    unfold V.chks at h
    split at h
    ·rename_i h';exact absurd h h'
    ·rename_i h'
      have h'':(y.chk(lev+1)n).1=0:=by simpa using h'
      rcases List.mem_cons.1 hx with rfl|hx
      ·exact Mr _ _ _ _ _ h''(by omega)hn
      ·have:=(V.chk_bounds y(lev+1)n).1
        exact Mp hl(by omega)h x hx
theorem Fm {v x:V}(h:v.err=0)(hx:x∈v.items):x.err=0:=by
  obtain⟨k,b,t,ks,is⟩:=v
  unfold V.err V.chk at h
  rw[if_neg(by decide),if_neg(by decide)]at h
  split at h
  ·simp at h
  ·exact Mp(by decide)(by decide)h x hx
structure V.good(v:V):Prop where
  wf:v.wf
  err:v.err=0
theorem V.good.kid {v x:V}(h:v.good)(hx:x∈v.items):x.good:=⟨h.wf.kid hx,Fm h.err hx⟩
theorem V.good.fine {v:V}(h:v.good):v.Fine:=V.fine_of h.err
theorem Mm {k:Int}{b:Nat}{t:Uj}(h:Uc(.mk k b t [] [])=true):(V.mk k b t [] []).err=0:=by
  unfold V.err V.chk
  rw[if_neg(by decide),if_neg(by decide),if_neg(by simp[h])];rfl
theorem Xl:V.nil.good:=⟨Wz,by decide⟩
theorem YD(b:Bool):(V.tr b).good:=by cases b<;>exact⟨.mk(by decide)(by decide)(by decide)(by decide)(by decide)(fun _ h=>by cases h)(fun _ h=>by cases h),by decide⟩
theorem K5 {b:Nat}(hb:b<2^64)(h:UC b=b):(V.nu b).good:=
  ⟨.mk(by decide)hb(by decide)(by decide)(by decide)(fun _ h=>by cases h)(fun _ h=>by cases h),Mm(by simp[Uc,h])⟩
theorem HH {t:Uj}(h:t.length≤128):(V.tx t).good:=
  ⟨.mk(by decide)(by decide)(by unfold Qu;omega)(by decide)(by decide)(fun _ h=>by cases h)(fun _ h=>by cases h),Mm(by simp[Uc,h])⟩
theorem HE {c:Nat}(h:Ua c=false):UC c=c:=by simp[UC,h]
theorem DW(op:BinOp)(a b:Nat):U1 op a b<2^64∧UC(U1 op a b)=U1 op a b:=by
  unfold U1
  cases h:UO op a b with
  |none=>exact⟨by decide,by decide⟩
  |some c=>have:=H2 h;exact⟨this.2,HE this.1⟩
theorem TA(o:Int)(a b:Nat):DX o a b<2^64∧UC(DX o a b)=DX o a b:=by
  unfold DX;repeat' split
  all_goals exact DW _ _ _
theorem L9(b:Nat):Kc b<2^64∧UC(Kc b)=Kc b:=by
  unfold Kc
  cases h:Ua b with
  |true=>rw[if_pos rfl];exact⟨by decide,by decide⟩
  |false=>exact⟨Gi _,HE(XT(Kn h .down))⟩
theorem RX(n:Int):Sz n<2^64∧UC(Sz n)=Sz n:=by
  unfold Sz
  split
  ·exact⟨by decide,by decide⟩
  ·rename_i h
    obtain⟨r,h1,_,h2,_⟩:=CG(n:=n)(by omega)
    exact⟨Df,HE(by unfold nearN;rw[h2];exact Gu(by omega))⟩
theorem RZ:∀(k n:Nat),n<10^(k+1)→(GS n).length≤k+1
  |0,n,h=>by unfold GS;rw[if_pos(by simpa using h)];simp
  |k+1,n,h=>by
    unfold GS
    split
    ·simp
    ·rw[List.length_append,List.length_singleton]
      have:=RZ k(n / 10)(by rw[Nat.pow_succ]at h;omega)
      omega
theorem KD(b:Nat)(h:XK b=0): -9007199254740992≤Xz b∧Xz b≤9007199254740992:=by
  unfold Xz
  split
  ·omega
  ·rename_i h1
    have:=HR(b:=b)(by omega)
    unfold svF;have h4:(2:Nat)^53=9007199254740992:=by decide
    rw[h4]at this;generalize UL(Q4 b) / UH=q at*;split<;>omega
theorem H3:∀{p:List StT}{v:V},v.good→(v.walk p).2=0→(v.walk p).1.good
  |[],v,h,_=>h
  |s::r,v,h,he=>by
    unfold V.walk at he⊢
    split at he
    ·rename_i h1;exact absurd he h1
    ·rename_i h1
      rw[if_neg h1]
      have hlt:=Hc h.fine.part(by simpa using h1)
      exact H3(h.kid(XO hlt))he
theorem Nf {v u:V}{s:StT}(h:v.good)(hg:K9 v s=.ok u):u.good:=by
  unfold K9 at hg
  split at hg
  ·rename_i he
    cases hg
    unfold V.getv at he⊢
    rw[if_neg(by simp[h.err])]at he⊢
    exact H3 h he
  ·cases hg
theorem KT {v u x:V}{s:StT}(h:v.good)(hs:s.wf)(hx:x.good)(hg:NO v s x=.ok u):u.good:=by
  unfold NO at hg
  split at hg
  ·rename_i he
    cases hg
    refine⟨Fj h.wf(fun t ht=>by obtain rfl:=List.mem_singleton.1 ht;exact hs)hx.wf,?_⟩
    obtain⟨w,hw⟩:∃w,v.setv [s]x=(w,0):=⟨_,Prod.ext rfl he⟩
    rw[hw]
    exact(Mj hw).2.2.2
  ·cases hg
theorem Ht {l:List V}{u:V}(hl:∀x∈l,x.wf)(h:Gf(.li l)=.ok u):u=.li l∧u.good:=by
  unfold Gf at h
  split at h
  ·rename_i he
    cases h
    refine⟨rfl,.mk(by decide)(by decide)(by decide)(by decide) ?_ (fun _ h=>by cases h)hl,he⟩
    have hp:=(V.fine_of he).part
    have:l.length≤32:=(Xf hp).1
    unfold Qu;omega
  ·cases h
theorem V.good.bits {v:V}(h:v.good):v.bits<2^64:=by obtain⟨k,b,t,ks,is⟩:=v;exact h.wf.inv.2.1
theorem V.good.len {v:V}(h:v.good):v.items.length≤32:=(Xf h.fine.part).1
theorem Bl {o:Int}{t:Uj}{a u:V}(ha:a.good)(h:Bm o t a=.ok u):u.good:=by
  unfold Bm at h
  split at h
  ·exact Nf ha h
  ·split at h
    ·split at h
      ·cases h
      ·cases h;exact K5(RX _).1(RX _).2
    ·split at h
      ·split at h
        ·cases h;exact K5(L9 _).1(L9 _).2
        ·cases h
      ·split at h
        ·split at h
          ·cases h;exact YD _
          ·cases h
        ·split at h
          ·cases h
          ·split at h
            ·cases h
            ·rename_i he
              cases h
              have hb:=KD a.bits(by simpa using he)
              have:=RZ 15(Xz a.bits).natAbs(by omega)
              refine HH ?_
              unfold Dp;split<;>(try simp only[List.length_cons])<;>omega
theorem FF {o:Int}{t:Uj}{a b u:V}(ht:t.length≤Qu)(ha:a.good)(hb:b.good)(h:FG o t a b=.ok u):u.good:=by
  unfold FG at h
  repeat' split at h
  all_goals first|(cases h;done)|skip
  ·exact Nf ha h
  ·cases h;exact YD _
  ·cases h;exact YD _
  ·rename_i h1 h2;cases h;exact HH(by simp;omega)
  ·exact KT ha⟨show([]:Uj).length≤Qu by unfold Qu;simp,by have:=ha.len;show(-9223372036854775808:Int)≤(a.items.length:Int)∧(a.items.length:Int)≤9223372036854775807;omega⟩hb h
  ·exact KT ha⟨ht,show(-9223372036854775808:Int)≤0∧(0:Int)≤9223372036854775807 by decide⟩hb h
  ·cases h;exact K5(TA _ _ _).1(TA _ _ _).2
theorem Da {o:Int}{t:Uj}{l:List V}{u:V}(ht:t.length≤Qu)(hl:∀x∈l,x.good)(h:US o t l=.ok u):u.good:=by
  unfold US at h
  split at h
  ·exact(Ht(fun x hx=>(hl x hx).wf)h).2
  ·split at h
    ·exact Bl(hl _(by simp))h
    ·exact FF ht(hl _(by simp))(hl _(by simp))h
    ·cases h
def Fz(f:Int)(d:Int)(r:ER V):Prop:=∀v f',r=.ok(v,f')→v.good∧f'≤f-d∧0≤f'
structure ScT.good(s:ScT):Prop where
  st:s.st.good
  ev:s.ev.good
  it:s.it.good
theorem M6 {g:V→Int→ER V}(hg:∀x f,x.good→0≤f→Fz f 0(g x f)):∀(l:List V)(f:Int),(∀x∈l,x.good)→0≤f→∀ys f',Hs g l f=.ok(ys,f')→(∀y∈ys,y.good)∧f'≤f∧0≤f'
  |[],f,hl,h0,ys,f',h=>by cases h;exact⟨fun y hy=>(by cases hy),Int.le_refl _,h0⟩
  |x::r,f,hl,h0,ys,f',h=>by
    unfold Hs at h
    split at h
    ·cases h
    ·rename_i y f1 h1
      split at h
      ·cases h
      ·rename_i l f2 h2
        cases h
        obtain⟨a1,a2,a3⟩:=hg x f(hl x(by simp))h0 _ _ h1
        obtain⟨b1,b2,b3⟩:=M6 hg r f1(fun z hz=>hl z(by simp[hz]))a3 _ _ h2
        exact⟨fun z hz=>(List.mem_cons.1 hz).elim(fun e=>e▸a1)(b1 z),by omega,b3⟩
theorem KR {r:ER V}{b:Bool}{f':Int}(h:UY r=.ok(b,f')):∃v,r=.ok(v,f')∧v.kind=1∧b=(v.bits==1):=by
  unfold UY at h
  split at h
  ·cases h
  ·split at h
    ·rename_i v f hk;cases h;exact⟨v,rfl,hk,rfl⟩
    ·cases h
theorem Nk {g:V→Int→ER V}(hg:∀x f,x.good→0≤f→Fz f 0(g x f)):∀(l:List V)(f:Int),(∀x∈l,x.good)→0≤f→∀ys f',HA(fun x f=>UY(g x f))l f=.ok(ys,f')→(∀y∈ys,y∈l)∧f'≤f∧0≤f'
  |[],f,hl,h0,ys,f',h=>by cases h;exact⟨fun y hy=>(by cases hy),Int.le_refl _,h0⟩
  |x::r,f,hl,h0,ys,f',h=>by
    unfold HA at h
    split at h
    ·cases h
    ·rename_i b f1 h1
      split at h
      ·cases h
      ·rename_i l f2 h2
        cases h
        obtain⟨v,h3,_,_⟩:=KR h1
        obtain⟨a1,a2,a3⟩:=hg x f(hl x(by simp))h0 _ _ h3
        obtain⟨b1,b2,b3⟩:=Nk hg r f1(fun z hz=>hl z(by simp[hz]))a3 _ _ h2
        refine⟨fun z hz=>?_,by omega,b3⟩
        split at hz
        ·exact(List.mem_cons.1 hz).elim(fun e=>by simp[e])(fun h=>by simp[b1 z h])
        ·simp[b1 z hz]
theorem Nj {g:V→Int→ER V}(hg:∀x f,x.good→0≤f→Fz f 0(g x f)):∀(l:List V)(f:Int),(∀x∈l,x.good)→0≤f→Fz f 0(Rk(fun x f=>UY(g x f))l f)
  |[],f,hl,h0,v,f',h=>by cases h
  |x::r,f,hl,h0,v,f',h=>by
    unfold Rk at h
    split at h
    ·cases h
    ·rename_i b f1 h1
      obtain⟨u,h3,_,_⟩:=KR h1
      obtain⟨a1,a2,a3⟩:=hg x f(hl x(by simp))h0 _ _ h3
      split at h
      ·cases h;exact⟨hl x(by simp),by omega,a3⟩
      ·obtain⟨b1,b2,b3⟩:=Nj hg r f1(fun z hz=>hl z(by simp[hz]))a3 _ _ h
        exact⟨b1,by omega,b3⟩
theorem R0 {r:ER(List V)}{v:V}{f:Int}(h:Xq r=.ok(v,f)):∃l,r=.ok(l,f)∧Gf(.li l)=.ok v:=by
  unfold Xq at h
  split at h
  ·cases h
  ·split at h
    ·cases h
    ·rename_i h1;cases h;exact⟨_,rfl,h1⟩
theorem Dd {o:Int}{g:V→Int→ER V}{r:ER V}{f:Int}(hr:Fz f 0 r)(hg:∀x f,x.good→0≤f→Fz f 0(g x f)):Fz f 0(XG o g r):=fun v f' h=>by
  unfold XG at h
  split at h
  ·cases h
  ·rename_i u f1
    obtain⟨a1,a2,a3⟩:=hr u f1 rfl
    have hk:∀x∈u.items,x.good:=fun x hx=>a1.kid hx
    split at h
    ·cases h
    ·split at h
      ·obtain⟨l,h1,h2⟩:=R0 h
        obtain⟨b1,b2,b3⟩:=M6 hg _ _ hk a3 _ _ h1
        exact⟨(Ht(fun x hx=>(b1 x hx).wf)h2).2,by omega,b3⟩
      ·split at h
        ·obtain⟨l,h1,h2⟩:=R0 h
          obtain⟨b1,b2,b3⟩:=Nk hg _ _ hk a3 _ _ h1
          exact⟨(Ht(fun x hx=>(hk x(b1 x hx)).wf)h2).2,by omega,b3⟩
        ·obtain⟨b1,b2,b3⟩:=Nj hg _ _ hk a3 _ _ h
          exact⟨b1,by omega,b3⟩
mutual
theorem Wu:∀(e:EX)(s:ScT)(f:Int),e.Fine→e.wf→s.good→Fz f 1(e.ev s f)
  |.mk o b t l,s,f,hf,hw,hs,v,f',h=>by
    have hok:=hf.part
    obtain⟨-,hb,ht,-,hwl⟩:=hw.inv
    have hbd:=Hg hok
    rw[EX.ev]at h
    by_cases h0:f<1
    ·rw[if_pos h0]at h;cases h
    rw[if_neg h0]at h
    by_cases c:o=0
    ·rw[if_pos c]at h
      cases h;exact⟨Xl,by omega,by omega⟩
    rw[if_neg c]at h;clear c
    by_cases c:o=1
    ·rw[if_pos c]at h
      cases h;exact⟨YD _,by omega,by omega⟩
    rw[if_neg c]at h;clear c
    by_cases c:o=2
    ·rw[if_pos c]at h
      cases h;exact⟨YD _,by omega,by omega⟩
    rw[if_neg c]at h;clear c
    by_cases c:o=3
    ·rw[if_pos c]at h
      cases h
      refine⟨K5 hb ?_,by omega,by omega⟩
      subst c
      have h9:(if(3:Int)=3 then UC b==b else b==0)=true:=by simp only[EX.ok,Bool.and_eq_true]at hok;exact hok.2
      simpa using h9
    rw[if_neg c]at h;clear c
    by_cases c:o=4
    ·rw[if_pos c]at h
      cases h;exact⟨HH hbd.2.2.1,by omega,by omega⟩
    rw[if_neg c]at h;clear c
    by_cases c:o=5
    ·rw[if_pos c]at h
      cases h;exact⟨hs.st,by omega,by omega⟩
    rw[if_neg c]at h;clear c
    by_cases c:o=6
    ·rw[if_pos c]at h
      cases h;exact⟨hs.ev,by omega,by omega⟩
    rw[if_neg c]at h;clear c
    by_cases c:o=7
    ·rw[if_pos c]at h
      cases h;exact⟨hs.it,by omega,by omega⟩
    rw[if_neg c]at h;clear c
    by_cases c:o=18
    ·rw[if_pos c]at h
      obtain⟨a1,a2,a3⟩:=Hh false l s(f-1)(fun x hx=>⟨hf.kid hx,hwl x hx⟩)hs v f' h;exact⟨a1,by omega,a3⟩
    rw[if_neg c]at h;clear c
    by_cases c:o=19
    ·rw[if_pos c]at h
      obtain⟨a1,a2,a3⟩:=Hh true l s(f-1)(fun x hx=>⟨hf.kid hx,hwl x hx⟩)hs v f' h;exact⟨a1,by omega,a3⟩
    rw[if_neg c]at h;clear c
    by_cases c:o=21
    ·rw[if_pos c]at h
      obtain⟨a1,a2,a3⟩:=RC l s(f-1)(fun x hx=>⟨hf.kid hx,hwl x hx⟩)hs v f' h;exact⟨a1,by omega,a3⟩
    rw[if_neg c]at h;clear c
    by_cases c:o=27∨o=28∨o=29
    ·rw[if_pos c]at h
      obtain⟨a1,a2,a3⟩:=RB o l s(f-1)(fun x hx=>⟨hf.kid hx,hwl x hx⟩)hs v f' h;exact⟨a1,by omega,a3⟩
    rw[if_neg c]at h;clear c
    split at h
    ·cases h
    ·rename_i vs f1 h1
      split at h
      ·cases h
      ·rename_i u h2
        cases h
        obtain⟨a1,a2,a3⟩:=KP l s(f-1)(fun x hx=>⟨hf.kid hx,hwl x hx⟩)hs(by omega)_ _ h1
        exact⟨Da ht a1 h2,by omega,a3⟩
theorem KP:∀(l:List EX)(s:ScT)(f:Int),(∀x∈l,x.Fine∧x.wf)→s.good→0≤f→∀vs f',Q8 l s f=.ok(vs,f')→(∀x∈vs,x.good)∧f'≤f∧0≤f'
  |[],s,f,hl,hs,h0,vs,f',h=>by unfold Q8 at h;cases h;exact⟨fun x hx=>(by cases hx),Int.le_refl _,h0⟩
  |x::r,s,f,hl,hs,h0,vs,f',h=>by
    unfold Q8 at h
    split at h
    ·cases h
    ·rename_i v f1 h1
      split at h
      ·cases h
      ·rename_i vs f2 h2
        cases h
        obtain⟨a1,a2,a3⟩:=Wu x s f(hl x(by simp)).1(hl x(by simp)).2 hs _ _ h1
        obtain⟨b1,b2,b3⟩:=KP r s f1(fun z hz=>hl z(by simp[hz]))hs a3 _ _ h2
        exact⟨fun z hz=>(List.mem_cons.1 hz).elim(fun e=>e▸a1)(b1 z),by omega,b3⟩
theorem Hh:∀(k:Bool)(l:List EX)(s:ScT)(f:Int),(∀x∈l,x.Fine∧x.wf)→s.good→Fz f 1(U5 k l s f)
  |k,[],s,f,hl,hs,v,f',h=>by unfold U5 at h;cases h
  |k,[_],s,f,hl,hs,v,f',h=>by unfold U5 at h;cases h
  |k,x::y::_,s,f,hl,hs,v,f',h=>by
    unfold U5 at h
    split at h
    ·cases h
    ·rename_i b1 f1 h1
      obtain⟨u,h2,_,_⟩:=KR h1
      obtain⟨a1,a2,a3⟩:=Wu x s f(hl x(by simp)).1(hl x(by simp)).2 hs _ _ h2
      split at h
      ·cases h;exact⟨YD _,by omega,a3⟩
      ·split at h
        ·cases h
        ·rename_i b2 f2 h3
          obtain⟨u,h4,_,_⟩:=KR h3
          obtain⟨b1,b2,b3⟩:=Wu y s f1(hl y(by simp)).1(hl y(by simp)).2 hs _ _ h4
          cases h;exact⟨YD _,by omega,b3⟩
theorem RC:∀(l:List EX)(s:ScT)(f:Int),(∀x∈l,x.Fine∧x.wf)→s.good→Fz f 1(Wv l s f)
  |[],s,f,hl,hs,v,f',h=>by unfold Wv at h;cases h
  |[_],s,f,hl,hs,v,f',h=>by unfold Wv at h;cases h
  |[_,_],s,f,hl,hs,v,f',h=>by unfold Wv at h;cases h
  |x::y::z::_,s,f,hl,hs,v,f',h=>by
    unfold Wv at h
    split at h
    ·cases h
    ·rename_i b1 f1 h1
      obtain⟨u,h2,_,_⟩:=KR h1
      obtain⟨a1,a2,a3⟩:=Wu x s f(hl x(by simp)).1(hl x(by simp)).2 hs _ _ h2
      split at h
      ·obtain⟨b1,b2,b3⟩:=Wu y s f1(hl y(by simp)).1(hl y(by simp)).2 hs _ _ h;exact⟨b1,by omega,b3⟩
      ·obtain⟨b1,b2,b3⟩:=Wu z s f1(hl z(by simp)).1(hl z(by simp)).2 hs _ _ h;exact⟨b1,by omega,b3⟩
theorem RB:∀(o:Int)(l:List EX)(s:ScT)(f:Int),(∀x∈l,x.Fine∧x.wf)→s.good→Fz f 0(Yu o l s f)
  |o,[],s,f,hl,hs,v,f',h=>by unfold Yu at h;cases h
  |o,[_],s,f,hl,hs,v,f',h=>by unfold Yu at h;cases h
  |o,x::y::_,s,f,hl,hs,v,f',h=>by
    unfold Yu at h
    have h1:Fz f 0(x.ev s f):=fun u f1 h1=>by
      obtain⟨a1,a2,a3⟩:=Wu x s f(hl x(by simp)).1(hl x(by simp)).2 hs _ _ h1
      exact⟨a1,by omega,a3⟩
    exact Dd(g:=fun it f=>y.ev {s with it}f)h1(fun z g hz hg u f1 h2=>by
      obtain⟨a1,a2,a3⟩:=Wu y {s with it:=z}g(hl y(by simp)).1(hl y(by simp)).2⟨hs.st,hs.ev,hz⟩_ _ h2
      exact⟨a1,by omega,a3⟩)v f' h
end

end
section
/- A function value is called that may panic. -/
section
variable {P:Program}{E:WZ}{Q:Exit→St→Prop}{n:Nat}{env:List(Nat×AV)}{own:List Own}{F:List(Value×AV)}{D:List Deferred}{ops:Array Oper}{rest:List Oper}
variable {ty:TypeId}{pos:String}{af:Array Edge}{d:Nat}
theorem Fv(ms:List Cd){f:FuncId}{fo:Operand}{fi ca:List Value}{l:List Operand}{tys:Array TypeId}{xs zs:List AV}{ok:Prop}{e:Value}{Rx:AV→List Own→Prop}{G:List(Value×AV)}(hf:QE P f=true)(hd:Nat.blt d n=true)
    (hfo:Ev E⟨n,env,own,F,D⟩fo(.c(.func(.func f)fi.toArray ca.toArray)))(hG:Lent G(Wo ms own))(hargs:∀E',EvL E'⟨n,env,QN ms own++Yl ms own,G++F,D⟩l xs)(hzs:fi.map AV.c++xs++ca.map AV.c=zs)(hAC:AC P f(QN ms own)zs(PanR ok e Rx))
    (hfr:Wo ms own=[]∨MA Rx)
    (hret:ok→∀x own',Rx x own'→JL P E ops rest⟨n,(d,x)::env,QR ms own' own,F,D⟩Q)
    (hpan:¬ok→Q(.panic [{v:=e,recovered:=false}])⟨n,env,QR ms []own,F,D⟩):
    JL P E ops(⟨some d,.call⟨.value fo,l.toArray,tys⟩,ty,pos,af,none⟩::rest)⟨n,env,own,F,D⟩Q:=
  JL.callG ms hf hd hfo hG hargs hzs hAC(hfr.imp id fun h r o hR=>by
      rcases hR with⟨_,x,h1,h2⟩|⟨_,h1,h2⟩
      ·subst h1;exact h x o h2
      ·subst h1 h2;exact⟨trivial,fun x hx=>by cases hx⟩)
    (fun x own' hR=>by
      rcases hR with⟨h0,y,h1,h2⟩|⟨_,h1,_⟩
      ·cases h1;exact hret h0 _ _ h2
      ·cases h1)
    (fun v own' hR=>by
      rcases hR with⟨_,y,h1,_⟩|⟨h0,h1,h2⟩
      ·cases h1
      ·cases h1;subst h2;exact hpan h0)
end

end
section
/- A place within an owned value: what the whole is when another value stands there. -/
theorem Reown.fold {b cap:Nat}{ys:List AV}{v:Value}{e:Wj}{xs:List(List AV)}(hv:v=sv b 0 xs.length(cap+1))(hle:xs.length≤cap+1)
    (hs:∀x∈xs,x.length=e.sz)(hl:ys.length=(cap+1)*e.sz)(hp:ys.take xs.flatten.length=xs.flatten):Reown [.box b ys] [.arr v e xs]:=by
  subst hv
  refine⟨fun x=>by simp[QV,UU,Own.fp,Gh,sv],fun w A h=>?_⟩
  simp only[List.forall_mem_cons,List.not_mem_nil,false_implies,implies_true,and_true]at h⊢
  simp only[Own.ok]at h⊢
  obtain⟨us,t,h1,h2,h3⟩:=h
  refine .inr⟨b,cap,us,t,rfl,h1,hle,⟨by rw[h2,hl],fun k u hu=>?_⟩,hs,fun k y hk=>?_⟩
  ·have hk:k<ys.length:=by rw[← h2];exact(Array.getElem?_eq_some_iff.1 hu).1
    obtain⟨u',g1,g2,_⟩:=h3 k _(List.getElem?_eq_getElem hk)
    rw[Nat.zero_add,hu]at g1
    cases g1;exact g2
  ·refine h3 k y ?_
    have hk1:=(List.getElem?_eq_some_iff.1 hk).1
    rw[← hp]at hk
    rw[List.getElem?_take]at hk
    rwa [if_pos hk1]at hk
theorem PQ {o:Own}{a l:List Own}(h:Reown [o]a):Reown(o::l)(a++l):=
  (Reown.perm(List.perm_append_singleton o l).symm).trans((Reown.left(c:=l)h).trans(Reown.perm List.perm_append_comm))
def Law(b:Nat)(pre post:List AV)(ctx:Own)(b0:Nat)(plug:V→V):Prop:=
  ∀(x:V)(kv iv:Value)(ok oi:Own),x.wf→VTr x kv iv ok oi→∃kw iw okw oiw,VTr(plug x)kw iw okw oiw∧Reown [.box b(pre++x.raw kv iv++post),ok,oi,ctx] [.box b0((plug x).raw kw iw),okw,oiw]
theorem PX(b:Nat):Law b [] [](.grp [])b id:=fun x kv iv ok oi _ h=>⟨kv,iv,ok,oi,h,by
  rw[List.append_nil,List.nil_append]
  exact HI [.p,.p,.p]_ rfl⟩
theorem SD {is:List V}{cs:List(List AV)}{us:List Value}{o:Own}{i:Nat}(hlt:i<is.length)(hl:cs.length=is.length)(h3:∀x∈cs,x.length=5)(hf:cs.flatten=us.map AV.c)(h1:us.all(·.oneCell')=true)(h:TrL(V.css true is).flatten us o):
    ∃kv iv ok oi ob oa u1 u3,cs[i]? =some((is[i]'hlt).raw kv iv)∧VTr(is[i]'hlt)kv iv ok oi∧TrL(V.css true(is.take i)).flatten u1 ob∧TrL(V.css true(is.drop(i+1))).flatten u3 oa∧(cs.take i).flatten=u1.map AV.c∧(cs.drop(i+1)).flatten=u3.map AV.c∧
      u1.all(·.oneCell')=true∧u3.all(·.oneCell')=true∧Reown [o] [ok,oi,ob,oa]:=by
  have hsp:(V.css true is).flatten=(V.css true(is.take i)).flatten++(V.css true(is.drop i)).flatten:=by
    rw[← List.flatten_append,← V.css_append,List.take_append_drop]
  rw[hsp]at h
  obtain⟨u1,u2,o1,o2,rfl,g1,g2,g3⟩:=h.split
  rw[List.all_append,Bool.and_eq_true]at h1
  have hlen:(cs.take i).flatten.length=u1.length:=by
    rw[← g1.length,QP(sz:=5)_(fun x hx=>h3 x(List.mem_of_mem_take hx)),QP(sz:=5)_(V.css_sz true _),V.css_length,List.length_take,List.length_take,hl]
  have hf2:(cs.take i).flatten++(cs.drop i).flatten=u1.map AV.c++u2.map AV.c:=by
    rw[← List.flatten_append,List.take_append_drop,hf,List.map_append]
  obtain⟨k1,k2⟩:=List.append_inj hf2(by simpa using hlen)
  obtain⟨kv,iv,ok,oi,u3,o3,e1,e2,e3,e4,e5,e6⟩:=CM hlt hl h3 k2 h1.2 g2
  refine⟨kv,iv,ok,oi,o1,o3,u1,u3,e1,e2,g1,e5,k1,e3,h1.1,e4,?_⟩
  exact(Ws g3).trans((Reown.cons e6).trans(Reown.perm(by
    simpa using(List.perm_append_comm(l₁:=[o1])(l₂:=[ok,oi])).append_right [o3])))
theorem Hl {α:Type}{l:List α}{i:Nat}{x:α}(h:i<l.length):l.set i x=l.take i++x::l.drop(i+1):=by
  rw[List.set_eq_take_append_cons_drop,if_pos h]
theorem Law.into {b b0 b2 cap i:Nat}{pre post:List AV}{ctx ok ob oa:Own}{plug:V→V}{u:V}{kv iv:Value}{cs:List(List AV)}{sp u1 u3:List Value}(hL:Law b pre post ctx b0 plug)(huw:u.wf)(hk1:kv.oneCell'=true)(hi1:iv.oneCell'=true)(hks:Tr(.sl true false W3(Q6 u.keys))kv ok)
    (hlt:i<u.items.length)(hcl:cs.length=u.items.length)(h5:∀x∈cs,x.length=5)(hiv:iv=sv b2 0 cs.length(cap+1))(hcap:cs.length≤cap+1)(hsz:cs.flatten.length+sp.length=(cap+1)*5)
    (t1:TrL(V.css true(u.items.take i)).flatten u1 ob)(t3:TrL(V.css true(u.items.drop(i+1))).flatten u3 oa)(f1:(cs.take i).flatten=u1.map AV.c)(f3:(cs.drop(i+1)).flatten=u3.map AV.c)(a1:u1.all(·.oneCell')=true)(a3:u3.all(·.oneCell')=true):
    Law b2(cs.take i).flatten((cs.drop(i+1)).flatten++sp.map AV.c)(.grp [.box b(pre++u.raw kv iv++post),ok,ob,oa,ctx])b0(fun x=>plug(u.setAt i x)):=fun x kx ix okx oix hxw hx=>by
  have hclt:i<cs.length:=by omega
  have hflat:(cs.set i(x.raw kx ix)).flatten=(u1++(x.vals kx ix++u3)).map AV.c:=by
    rw[Hl hclt,List.flatten_append,List.flatten_cons,f1,f3,V.raw_eq,List.map_append,List.map_append]
  have hrl:(x.raw kx ix).length=5:=rfl
  have h5':∀z∈cs.set i(x.raw kx ix),z.length=5:=fun z hz=>(List.mem_or_eq_of_mem_set hz).elim(h5 z)fun e=>e▸rfl
  have hits:u.items.length*80≤Qu:=by obtain⟨k,b,t,ks,is⟩:=u;exact huw.inv.2.2.2.2.1
  have htl:TrL(V.css true(u.items.set i x)).flatten(u1++(x.vals kx ix++u3))(.grp [ob,.grp [.grp [okx,oix],oa]]):=by
    rw[Hl hlt,V.css_append,List.flatten_append,V.css,List.flatten_cons]
    exact t1.append(hx.trL.append t3(.refl _))(.refl _)
  have hIt:Tr(.sl true false eV(V.css true(u.items.set i x)))iv(.grp [.arr iv eV(cs.set i(x.raw kx ix)),.grp [ob,.grp [.grp [okx,oix],oa]]]):=
    GU hflat(by simp[hcl])h5'(by rw[List.all_append,List.all_append,a1,hx.ones,a3];rfl)(by simpa using hits)htl
  have hV:VTr(u.setAt i x)kv iv ok(.grp [.arr iv eV(cs.set i(x.raw kx ix)),.grp [ob,.grp [.grp [okx,oix],oa]]]):=⟨hk1,hi1,hks,hIt⟩
  obtain⟨kw,iw,okw,oiw,g1,g2⟩:=hL _ _ _ _ _(GD huw hxw)hV
  refine⟨kw,iw,okw,oiw,g1,Reown.trans ?_ g2⟩
  have hfold:Reown [.box b2((cs.take i).flatten++x.raw kx ix++((cs.drop(i+1)).flatten++sp.map AV.c))] [.arr iv eV(cs.set i(x.raw kx ix))]:=by
    have he:(cs.take i).flatten++x.raw kx ix++((cs.drop(i+1)).flatten++sp.map AV.c)=(cs.set i(x.raw kx ix)).flatten++sp.map AV.c:=by
      rw[Hl hclt,List.flatten_append,List.flatten_cons];simp
    have hl2:(cs.set i(x.raw kx ix)).flatten.length=cs.flatten.length:=by
      rw[QP(sz:=5)_ h5',QP(sz:=5)_ h5,List.length_set]
    rw[he]
    refine Reown.fold(cap:=cap)(by rw[List.length_set];exact hiv)(by rw[List.length_set];exact hcap)h5' ?_ (List.take_left)
    rw[List.length_append,List.length_map,hl2];exact hsz
  refine(PQ(l:=[okx,oix,.grp [.box b(pre++u.raw kv iv++post),ok,ob,oa,ctx]])hfold).trans ?_
  refine⟨fun y=>by simp only[QV,UU,XB,List.count_append,List.count_nil,List.singleton_append,V.raw,V.setAt,V.kind,V.bits,V.text];simp only[Own.fp];omega,fun w A h=>?_⟩
  simp only[List.forall_mem_cons,List.singleton_append,Xg,List.not_mem_nil,false_implies,implies_true,and_true]at h⊢
  obtain⟨q1,q2,q3,q4,q5,q6,q7,q8⟩:=h
  exact⟨q4,q5,⟨q1,q6,⟨q2,q3⟩,q7⟩,q8⟩
structure At where
  b:Nat
  off:Nat
  pre:List AV
  post:List AV
  u:V
  kv:Value
  iv:Value
  ok:Own
  oi:Own
  ctx:Own
  plug:V→V
structure At.Ok(z:At)(b0:Nat):Prop where
  off:z.pre.length=z.off
  tr:VTr z.u z.kv z.iv z.ok z.oi
  law:Law z.b z.pre z.post z.ctx b0 z.plug
  fine:z.u.Fine
  wf:z.u.wf
def Yo(z:At)(u:V)(kv iv:Value):List AV:=z.pre++u.raw kv iv++z.post
theorem YM(z:At)(u:V)(kv iv:Value):Yo z u kv iv=z.pre++(u.raw kv iv++z.post):=List.append_assoc _ _ _
theorem CV {z:At}{u:V}{kv iv:Value}(h:z.pre.length=z.off):((Yo z u kv iv).drop z.off).take 5=u.raw kv iv:=by
  rw[YM,← h,List.drop_left]
  exact List.take_left' rfl
theorem KY {z:At}{u:V}{kv iv:Value}(h:z.pre.length=z.off)(k:Nat)(hk:k<5):(Yo z u kv iv)[z.off+k]? =(u.raw kv iv)[k]? :=by
  rw[YM,List.getElem?_append_right(by omega),List.getElem?_append_left(by rw[show(u.raw kv iv).length=5 from rfl];omega)]
  congr 1;omega
theorem LA {α:Type}{a l c ys:List α}{k:Nat}(h:k+ys.length≤l.length):QT(a++(l++c))(a.length+k)ys=a++(QT l k ys++c):=by
  unfold QT
  rw[List.take_append,List.take_of_length_le(by omega),Nat.add_sub_cancel_left,List.take_append_of_le_length(by omega),Nat.add_assoc,List.drop_append,List.drop_eq_nil_of_le(by omega),List.nil_append,Nat.add_sub_cancel_left,List.drop_append_of_le_length h]
  simp
theorem R8 {z:At}{u:V}{kv iv:Value}(h:z.pre.length=z.off){k:Nat}{x:AV}(hk:k<5):QT(Yo z u kv iv)(z.off+k) [x]=z.pre++(QT(u.raw kv iv)k [x]++z.post):=by
  rw[YM,← h,LA(by rw[show(u.raw kv iv).length=5 from rfl];simp;omega)]
theorem BI {z:At}{u x:V}{kv iv kx ix:Value}(h:z.pre.length=z.off):QT(Yo z u kv iv)z.off(x.raw kx ix)=Yo z x kx ix:=by
  have:=LA(a:=z.pre)(l:=u.raw kv iv)(c:=z.post)(ys:=x.raw kx ix)(k:=0)(by simp[V.raw])
  rw[Nat.add_zero,h]at this
  rw[YM,this,YM]
  rfl
theorem LW(z:At)(u:V)(kv iv:Value)(h:z.pre.length=z.off):(Yo z u kv iv).length=z.off+5+z.post.length:=by
  rw[YM,List.length_append,List.length_append,show(u.raw kv iv).length=5 from rfl];omega
section
variable {P:Program}{E:WZ}{st:St}{t et ty:TypeId}{pos:String}{af:Array Edge}{dd:Option Tmp}{gd:Option(Nat×Bool)}{x y:Operand}{g:Bool}{n B:Nat}
theorem D7 {b off len cap m:Nat}{k:IntKind}{i:Int}(hU:P.underlying t=some(.slice et))(hT:Uo P et=some(g,n,B))(hx:Ev E st x(.c(sv b off len cap)))(hi:Ev E st y(.c(.int k i)))(hm:i=(m:Int))(hlt:m<len):
    QW P E st⟨dd,.indexAddr t x y,ty,pos,af,gd⟩(.c(.pointer(some⟨b,off+m*n,none⟩))):=.pure fun A a w hs=>by
  subst hm
  refine⟨.pointer(some⟨b,off+m*n,none⟩),?_,.c _⟩
  simp only[execOp,hx.eq hs,hi.eq hs,Instr.indexAt,asIntOf,Sem.run_bind,Sem.run_pure,Result.andThen_ok,Qw _ hU]
  rw[if_pos(by omega)]
  simp[UE hT,W4]
end

end
section
/- Guards that are known; arrays behind a pointer. -/
section
variable {P:Program}{E:WZ}{Q:Exit→St→Prop}{n:Nat}{env:List(Nat×AV)}{own:List Own}{F:List(Value×AV)}{D:List Deferred}{ops:Array Oper}{rest:List Oper}
variable {ty:TypeId}{pos:String}{af:Array Edge}{d:Option Nat}{op:Op}
theorem SatA.yield {A:QZ}{a:Act}{w:World}{st:St}(hA:SatA E A st a w){j s:Nat}{g:Bool}(hs:(ops[j]?).bind(·.dst)=some s)(hl:lk st.env s=some(.c(.bool g))):yielded ops a.tmps j=some g:=by
  have h1:=(hA.env s _ hl).eq
  unfold yielded
  rw[hs]
  simp only[Option.bind_some]
  rw[Array.getD_eq_getD_getElem?]at h1
  cases h2:a.tmps[s]? with
  |none=>rw[h2]at h1;simp[undef]at h1
  |some v=>rw[h2]at h1;simp at h1;subst h1;rfl
theorem U4 {j s:Nat}{want g:Bool}(hs:(ops[j]?).bind(·.dst)=some s)(hl:lk env s=some(.c(.bool g)))(hw:g=want)(h:JL P E ops(⟨d,op,ty,pos,af,none⟩::rest)⟨n,env,own,F,D⟩Q):
    JL P E ops(⟨d,op,ty,pos,af,some(j,want)⟩::rest)⟨n,env,own,F,D⟩Q:=fun a w⟨A,hA⟩=>by
  have hy:=hA.yield hs hl
  have h1:=h a w⟨A,hA⟩
  unfold wpListIn at h1⊢
  rw[if_pos(by simp[Region.wanted])]at h1
  rw[if_pos(by simp[Region.wanted,hy,hw])]
  exact h1
theorem WB {d j s:Nat}{want g:Bool}(hs:(ops[j]?).bind(·.dst)=some s)(hn:Nat.blt d n=true)(hl:lk env s=some(.c(.bool g)))(hw:(g==want)=false)
    (h:JL P E ops rest⟨n,(d,.wh false(.c .nilIface))::env,own,F,D⟩Q):JL P E ops(⟨some d,op,ty,pos,af,some(j,want)⟩::rest)⟨n,env,own,F,D⟩Q:=fun a w⟨A,hA⟩=>by
  have hy:=hA.yield hs hl
  unfold wpListIn
  rw[if_neg(by simp only[Region.wanted,hy];simpa using hw)]
  exact⟨fun _ _=>trivial,h _ _⟨A,hA.put(Up hn)(.wh _ _ _(fun h=>by cases h)fun _=>rfl)⟩⟩
variable {st:St}{x y t et s0:TypeId}
theorem He {b:Bool}{x y:Operand}(hx:Ev E st x(.c(.bool true)))(hy:Ev E st y(.c(.bool b))):QW P E st⟨d,.pick x y(.const(.bool false)),ty,pos,af,none⟩(.c(.bool b)):=.pure fun A a w hs=>
  ⟨_,by simp only[execOp,hx.eq hs,asBool,Sem.run_bind,Sem.run_pure,Result.andThen_ok];rfl,by rw[if_pos trivial,hy.eq hs];exact .c _⟩
theorem Rs {x y:Operand}(hx:Ev E st x(.c(.bool false))):QW P E st⟨d,.pick x y(.const(.bool false)),ty,pos,af,none⟩(.c(.bool false)):=.pure fun A a w hs=>
  ⟨_,by simp only[execOp,hx.eq hs,asBool,Sem.run_bind,Sem.run_pure,Result.andThen_ok];rfl,by simp[Act.eval];exact .c _⟩
theorem TJ {b:Bool}{x y:Operand}(hx:Ev E st x(.c(.bool false)))(hy:Ev E st y(.c(.bool b))):QW P E st⟨d,.pick x(.const(.bool true))y,ty,pos,af,none⟩(.c(.bool b)):=.pure fun A a w hs=>
  ⟨_,by simp only[execOp,hx.eq hs,asBool,Sem.run_bind,Sem.run_pure,Result.andThen_ok];rfl,by simp only[Bool.false_eq_true,if_false];rw[hy.eq hs];exact .c _⟩
theorem TI {x y:Operand}(hx:Ev E st x(.c(.bool true))):QW P E st⟨d,.pick x(.const(.bool true))y,ty,pos,af,none⟩(.c(.bool true)):=.pure fun A a w hs=>
  ⟨_,by simp only[execOp,hx.eq hs,asBool,Sem.run_bind,Sem.run_pure,Result.andThen_ok];rfl,by simp[Act.eval];exact .c _⟩
variable {g:Bool}{sz B:Nat}{k:IntKind}{i:Int}{x y lo:Operand}{gd:Option(Nat×Bool)}
theorem Mv {b off ln m off':Nat}(hU:P.underlying t=some(.array ln et))(hT:Uo P et=some(g,sz,B))(hx:Ev E st x(.c(.pointer(some⟨b,off,none⟩))))(hi:Ev E st y(.c(.int k i)))(hm:i=(m:Int))(hlt:m<ln)(ho:off+m*sz=off'):
    QW P E st⟨d,.indexAddr t x y,ty,pos,af,gd⟩(.c(.pointer(some⟨b,off',none⟩))):=.pure fun A a w hs=>by
  subst hm ho
  refine⟨.pointer(some⟨b,off+m*sz,none⟩),?_,.c _⟩
  simp only[execOp,hx.eq hs,hi.eq hs,Instr.indexAt,asIntOf,Instr.sureAddr,Sem.run_bind,Sem.run_pure,Result.andThen_ok,Qw _ hU]
  rw[if_pos(by omega)]
  simp[UE hT,W4]
theorem H5 {b off ln l off':Nat}(hU:P.underlying t=some(.array ln et))(hT:Uo P et=some(g,sz,B))(hx:Ev E st x(.c(.pointer(some⟨b,off,none⟩))))(hlo:Ev E st lo(.c(.int k i)))(hi:i=(l:Int))(hl:l≤ln)(ho:(if ln=l then off else off+l*sz)=off'):
    QW P E st⟨d,.slice t x(some lo)none none,ty,pos,af,gd⟩(.c(sv b off'(ln-l)(ln-l))):=.pure fun A a w hs=>by
  refine⟨sv b off'(ln-l)(ln-l),?_,.c _⟩
  subst ho
  have e:(Instr.sliceAt t(.pointer(some⟨b,off,none⟩))(some(.int k(l:Int)))none none).run P w=.ok(sv b(if ln=l then off else off+l*sz)(ln-l)(ln-l))w:=by
    simp only[Instr.sliceAt,Instr.sureAddr,Instr.sliceBounds,Sem.run_bind,Sem.run_pure,Result.andThen_ok,Qw _ hU,UE hT,Ho hl]
    split
    ·rfl
    ·rw[W4]
  simp only[execOp,hx.eq hs,Option.map_some,Option.map_none,ND hlo hi hs,Sem.run_bind,e,Result.andThen_ok,Sem.run_pure]
theorem Mx(j:Nat){b off len cap:Nat}{ys:List AV}{l:List UInt8}{e8:TypeId}(hS:P.underlying s0=some(.slice e8))(hT:P.underlying t=some .string)(hE:P.underlying e8=some(.int .u8))(hx:Ev E st x(.c(sv b off len cap)))
    (ho:st.own[j]? =some(.box b ys))(hy:(ys.drop off).take len=l.map fun b=>.c(.int .u8(b.toNat:Int)))(hl:l.length=len):QW P E st⟨d,.convert s0 t x,ty,pos,af,gd⟩(.c(Un l)):=.pure fun A a w hs=>by
  obtain⟨us,t',hb,_,hc⟩:=hs.box j ho
  have hc2:=(hc.drop off).take len
  rw[Nat.zero_add,hy]at hc2
  refine⟨Un l,?_,.c _⟩
  have hrun:(Conv.bytesToString(sv b off len cap)).run P w=.ok(Un l)w:=by rw[← hl];exact Cu hb hc2 cap
  simp only[execOp,hx.eq hs,Go.convert,Sem.run_bind,Qw _ hS,Qw _ hT,Result.andThen_ok]
  simp only[Qw _ hE,Result.andThen_ok,hrun,Sem.run_bind,Sem.run_pure]
end

end
section
/- Walks: the digits of a whole number. -/
set_option maxRecDepth 10000
set_option maxHeartbeats 4000000
def Br(d:Uj):List AV:=d.map fun b=>.c(.int .u8(b.toNat:Int))
def dgB(d:Uj):List AV:=List.replicate(20-d.length)(.c(.int .u8 0))++Br d
theorem Bq(d:Uj):(Br d).length=d.length:=by simp[Br]
theorem E7 {d:Uj}(h:d.length≤20):(dgB d).length=20:=by simp[dgB,Bq];omega
theorem Tl {d:Uj}(c:UInt8)(h:d.length<20):QT(dgB d)(19-d.length) [.c(.int .u8(c.toNat:Int))]=dgB(c::d):=by
  obtain⟨k,hk⟩:∃k,20-d.length=k+1:=⟨19-d.length,by omega⟩
  have h1:19-d.length=k:=by omega
  unfold dgB QT
  rw[hk,h1,List.length_singleton,List.take_append_of_le_length(by simp),List.take_replicate,Nat.min_eq_left(by omega),List.drop_append_of_le_length(by simp),List.drop_replicate,Nat.sub_self,List.length_cons,show 20-(d.length+1)=k by omega]
  simp[Br]
theorem Tm {d:Uj}(h:d.length≤20):((dgB d).drop(20-d.length)).take d.length=d.map fun b=>.c(.int .u8(b.toNat:Int)):=by
  unfold dgB
  rw[List.drop_append_of_le_length(by simp),List.drop_replicate,Nat.sub_self,List.replicate_zero,List.nil_append]
  exact List.take_of_length_le(by simp[Br])
theorem CH {n m:Nat}{d:Uj}(h:GS n=(if m=0∧d≠[]then []else GS m)++d)(hc:0<m∨d=[]):GS n=(if m / 10=0∧(UInt8.ofNat(48+m%10)::d)≠[]then []else GS(m / 10))++UInt8.ofNat(48+m%10)::d:=by
  rw[if_neg(fun h=>hc.elim(fun h1=>by omega)h.2)]at h
  rw[h]
  by_cases hm:m<10
  ·rw[if_pos⟨by omega,by simp⟩,GS,if_pos hm,show m%10=m by omega];rfl
  ·rw[if_neg(fun h=>by omega),GS,if_neg hm,List.append_assoc];rfl
theorem digC {m:Nat}:((UInt8.ofNat(48+m%10)).toNat:Int)=48+((m%10:Nat):Int):=by
  rw[UInt8.toNat_ofNat',Nat.mod_eq_of_lt(by omega)];omega
def Qau(b:Nat):AV:=.tup [.c(Un(if XK b=0 then Dp(Xz b)else [])),.c(.int .i64(if XK b=0 then 0 else 7))]
theorem Fa(b:Nat)(hb:b<2^64):Fn Tryz.prog 115 [.c(.int .u64(b:Int))](Qau b):=by
  refine AC.of_J Tryz.func115 rfl Tryz.ntmps115 rfl fun w0 A0=>?_
  refine Zs(Zq rfl(QW.assign .const)(Zq rfl(QW.assign .const)(Zn(Zs(Zq rfl(QW.move(.tmp rfl))(Zq rfl(QW.call EL(.cons(.tmp rfl) .nil)(BH _(by assumption))) ?_))))))
  refine Zq rfl(QW.move(.tmp rfl))(Zq rfl(QW.extract(.tmp rfl)rfl)(Zq rfl(QW.extract(.tmp rfl)rfl)(Zq rfl(QW.assign(.tmp rfl))(Zq rfl(QW.assign(.tmp rfl))(Zn(J.seq(Zs(Zq rfl(QW.move(.tmp rfl))(Zq rfl(QW.neq(.tmp rfl) .const) ?_)))))))))
  refine Zn ?_
  refine J.cond(.tmp rfl)(fun c1=>?_)(fun c1=>?_)
  ·skip
    have hne:¬XK b=0:=by simpa using c1
    exact Zs(Zq rfl(QW.assign .const)(Zq rfl(QW.assign .const)(Zn(J.ret(thenQ.r(Zr [](QB rfl(REv.tmp rfl lr)(REv.tmp rfl lr))rfl⟨by rw[Qau,if_neg hne,if_neg hne],rfl⟩))))))
  have he0:XK b=0:=by simpa using c1
  have hbd:=KD b he0
  obtain⟨v,hv⟩:∃v,Xz b=v:=⟨_,rfl⟩
  rw[hv]at hbd
  obtain⟨N,hN⟩:∃N,v.natAbs=N:=⟨_,rfl⟩
  have hN16:N<10000000000000000:=by omega
  refine Zk(Zs(JL.alloc z182 rfl rfl fun b6=>Zn(Zs(Zq rfl(QW.assign .const)(Zn(J.seq(Zs(Zq rfl(QW.move(.tmp rfl)) ?_))))))))
  refine Zq rfl(QW.move(.tmp rfl))(Zq rfl(QW.neg(.tmp rfl)(c:= -v)(by rw[hv,Int.zero_sub];exact W0(by omega))) ?_)
  refine Zq rfl((QW.max2(.tmp rfl)(.tmp rfl)).conv(show _=AV.c(.int .i64(N:Int))by rw[hv];congr 2;omega)) ?_
  refine Zq rfl(QW.assign(.tmp rfl))(Zn(J.block(Q0(ι:=Uj×Nat) [2,3,4,6](fun⟨d,m⟩=>[(7,.c(.int .i64((20-d.length:Nat):Int))),(8,.c(.int .i64(m:Int)))])(fun⟨d,m⟩oo=>List.set oo 0(.box b6(dgB d)))(fun⟨d,m⟩=>m≤N∧d.length≤16∧m<10^(16-d.length)∧GS N=(if m=0∧d≠[]then []else GS m)++d)(fun⟨d,m⟩=>m+(if d=[]then 1 else 0))⟨[],N⟩(⟨Nat.le_refl _,by simp,by simpa using hN16,by simp⟩)(QK(.cons rfl lr(.cons rfl lr(.cons rfl lr(.cons rfl lr(.cons rfl lr(.cons rfl lr .nil))))))(Reown.refl _)(fun _ h=>by first|exact h|simp[h])) ?_)))
  intro⟨d,m⟩⟨hmN,hd16,hm10,hnd⟩
  refine J.conv(by(try simp only[nl,Qk,Qz,QA,Qy,QR,AV.cellsOf,Qd,Qe,Nat.reduceAdd]);rfl) ?_
  refine J.seq(Zs(Zq rfl(QW.move(.tmp rfl))(Zq rfl(QW.gtr(.tmp rfl) .const)(Zq rfl(QW.move(.tmp rfl))(Zg rfl(fun hg=>(QW.move(.tmp rfl)))(Zg rfl(fun hg=>(QW.eql(.when rfl hg) .const))(Zq rfl(QW.pick_or(.tmp rfl)(.tmp rfl))(Zn ?_))))))))
  refine J.cond(.tmp rfl)(fun c2=>?_)(fun c2=>?_)
  ·skip
    have hc:0<m∨d=[]:=by
      simp at c2
      exact c2.imp(fun h=>h)(fun h=>List.eq_nil_of_length_eq_zero(by omega))
    have hd15:d.length≤15:=by
      rcases hc with hc|hc
      ·exact Nat.lt_succ_iff.1(Nat.lt_of_le_of_ne hd16 fun h=>by rw[h]at hm10;simp at hm10;omega)
      ·subst hc;exact Nat.zero_le _
    obtain⟨q,hq⟩:∃q,16-d.length=q+1:=⟨15-d.length,by omega⟩
    rw[hq,Nat.pow_succ]at hm10
    refine Zk(J.seq(J.block(Zs(Zq rfl(QW.move(.tmp rfl))(Zq rfl(QW.sub(.tmp rfl) .const(c:=((19-d.length:Nat):Int))(U7(by omega)(by omega)))(Zq rfl(QW.assign(.tmp rfl))(Zn(Qg(Zq rfl(QW.move(.tmp rfl)) ?_)))))))))
    refine Zq rfl(QW.move(.tmp rfl))(Zq rfl(QW.rem(.tmp rfl) .const(by decide)(c:=((m%10:Nat):Int))(Int.ofNat_tmod m 10).symm) ?_)
    refine Zq rfl(WU us3 iu5(.tmp rfl)(c:=((m%10:Nat):Int))(wu8(by omega)))(Zq rfl(QW.add .const(.tmp rfl)(c:=((UInt8.ofNat(48+m%10)).toNat:Int))(by rw[digC];exact wu8(by omega))) ?_)
    refine Zq rfl(Mv(b:=b6)(off:=0)(ln:=20)(et:=5)(off':=19-d.length)(m:=19-d.length)(by kernel_rfl)ty5(.tmp rfl)(.tmp rfl)rfl(by omega)(by simp)) ?_
    refine JL.store_box 0 ty5(.tmp rfl)rfl(.tmp rfl)rfl rfl(by rw[E7(by omega)];exact Nat.ble_eq_true_of_le(by omega))(Tl(UInt8.ofNat(48+m%10))(by omega))rfl ?_
    refine JL.nil(blkQ.n(thenQ.n(Qg(Zq rfl(QW.move(.tmp rfl))(Zq rfl(QW.quo(.tmp rfl) .const(by decide)(c:=((m / 10:Nat):Int))(by rw[show(m:Int).tdiv 10=((m / 10:Nat):Int)from(Int.ofNat_tdiv m 10).symm];exact W0(by omega))) ?_)))))
    refine Zq rfl(QW.assign(.tmp rfl))(Zn ?_)
    exact⟨⟨UInt8.ofNat(48+m%10)::d,m / 10⟩,⟨by show m / 10≤N;omega,by simp;omega,by rw[List.length_cons,show 16-(d.length+1)=q by omega];exact Nat.div_lt_of_lt_mul(by omega),CH hnd hc⟩,hc.elim(fun h=>by have:=Nat.div_lt_self h(by decide:1<10);show m / 10+(if UInt8.ofNat(48+m%10)::d=[]then 1 else 0)<m+(if d=[]then 1 else 0);rw[if_neg(by simp)];omega)(fun h=>by subst h;show m / 10+(if UInt8.ofNat(48+m%10)::([]:Uj)=[]then 1 else 0)<m+1;rw[if_neg(by simp)];omega),QK(.cons rfl((by rw[List.length_cons,show 20-(d.length+1)=19-d.length by omega];exact .refl _))(.cons rfl lr(.cons rfl lr(.cons rfl lr(.cons rfl lr(.cons rfl lr .nil))))))(Reown.refl _)(fun _ h=>by first|exact h|simp[h])⟩
  have hz:m=0∧d≠[]:=by
    simp at c2
    exact⟨by omega,fun h=>by subst h;simp at c2⟩
  rw[if_pos hz,List.nil_append]at hnd
  have hd0:=hz.2
  have hd1:1≤d.length:=by cases d with|nil=>exact absurd rfl hd0|cons x r=>simp
  refine J.exit(Qv(Qv(QM(thenQ.n(J.seq(Zs(Zq rfl(QW.move(.tmp rfl))(Zq rfl(QW.lss(.tmp rfl) .const)(Zn ?_)))))))))
  refine J.cond(.tmp rfl)(fun c3=>?_)(fun c3=>?_)
  ·skip
    have hneg:v<0:=by rw[← hv];simpa using c3
    refine Zs(Zq rfl(QW.move(.tmp rfl))(Zq rfl(QW.sub(.tmp rfl) .const(c:=((19-d.length:Nat):Int))(U7(by omega)(by omega)))(Zq rfl(QW.assign(.tmp rfl))(Zn(Qg(Zq rfl(QW.move(.tmp rfl))(Zq rfl(Mv(b:=b6)(off:=0)(ln:=20)(et:=5)(off':=19-d.length)(m:=19-d.length)(by kernel_rfl)ty5(.tmp rfl)(.tmp rfl)rfl(by omega)(by simp)) ?_)))))))
    refine JL.store_box 0 ty5(.tmp rfl)rfl .const rfl rfl(by rw[E7(by omega)];exact Nat.ble_eq_true_of_le(by omega))(Tl 45(by omega))rfl ?_
    refine Zn(Zs(Zq rfl(QW.move(.tmp rfl))(Zq rfl(by exact H5(b:=b6)(off:=0)(ln:=20)(et:=5)(off':=19-d.length)(l:=19-d.length)(by kernel_rfl)ty5(.tmp rfl)(.tmp rfl)rfl(by omega)(by split<;>omega)) ?_)))
    refine Zq rfl(by exact Mx 0(l:=45::d)(e8:=5)(by kernel_rfl)(by kernel_rfl)(by kernel_rfl)(.tmp rfl)rfl(by rw[show 20-(19-d.length)=(45::d).length by rw[List.length_cons];omega,show 19-d.length=20-(45::d).length by rw[List.length_cons];omega];exact Tm(by rw[List.length_cons];omega))(by(simp;omega))) ?_
    exact Zq rfl(QW.assign(.tmp rfl))(Zq rfl(QW.assign .const)(Zn(J.ret(Zr [.k](QB rfl(REv.tmp rfl lr)(REv.tmp rfl lr))rfl⟨by rw[Qau,if_pos he0,if_pos he0,hv,Dp,if_pos hneg,hN,hnd],rfl⟩))))
  have hpos:¬v<0:=by rw[← hv];simpa using c3
  refine Zk(Zs(Zq rfl(QW.move(.tmp rfl))(Zq rfl(by exact H5(b:=b6)(off:=0)(ln:=20)(et:=5)(off':=20-d.length)(l:=20-d.length)(by kernel_rfl)ty5(.tmp rfl)(.tmp rfl)rfl(by omega)(by split<;>omega)) ?_)))
  refine Zq rfl(by exact Mx 0(l:=d)(e8:=5)(by kernel_rfl)(by kernel_rfl)(by kernel_rfl)(.tmp rfl)rfl(by rw[show 20-(20-d.length)=d.length by omega];exact Tm(by omega))(by omega)) ?_
  exact Zq rfl(QW.assign(.tmp rfl))(Zq rfl(QW.assign .const)(Zn(J.ret(Zr [.k](QB rfl(REv.tmp rfl lr)(REv.tmp rfl lr))rfl⟨by rw[Qau,if_pos he0,if_pos he0,hv,Dp,if_neg hpos,hN,hnd],rfl⟩))))

end
section
/- Events as plain data: a name and a value; lists of them. -/
structure EvT where
  name:Uj
  arg:V
  deriving DecidableEq
def MN:Wj:=⟨6,96⟩
def EvT.cs(fr:Bool)(e:EvT):List AV:=.c(Un e.name)::e.arg.cs fr
def EvT.css(fr:Bool)(l:List EvT):List(List AV):=l.map(EvT.cs fr)
theorem EvT.cs_length(fr:Bool)(e:EvT):(e.cs fr).length=6:=by simp[EvT.cs,V.cs_length]
theorem EvT.css_length(fr:Bool)(l:List EvT):(EvT.css fr l).length=l.length:=by simp[EvT.css]
theorem EvT.css_get(fr:Bool){l:List EvT}{i:Nat}{v:EvT}(h:l[i]? =some v):(EvT.css fr l)[i]? =some(v.cs fr):=by simp[EvT.css,h]
theorem EvT.css_getE(fr:Bool){l:List EvT}{i:Nat}(h:i<l.length):(EvT.css fr l)[i]? =some((l[i]).cs fr):=EvT.css_get fr(List.getElem?_eq_getElem h)
theorem EvT.css_append(fr:Bool)(a b:List EvT):EvT.css fr(a++b)=EvT.css fr a++EvT.css fr b:=by simp[EvT.css]
theorem EvT.css_take(fr:Bool)(a:List EvT)(k:Nat):EvT.css fr(a.take k)=(EvT.css fr a).take k:=by simp[EvT.css,List.map_take]
theorem Ry(fr:Bool)(a:List EvT)(k:Nat):EvT.css fr(a.drop k)=(EvT.css fr a).drop k:=by simp[EvT.css,List.map_drop]
theorem EvT.css_sz(fr:Bool)(l:List EvT):∀x∈EvT.css fr l,x.length=MN.sz:=by
  intro x hx
  obtain⟨v,_,rfl⟩:=List.mem_map.1 hx
  exact EvT.cs_length fr v
theorem EvT.cs_le {F:List(Value×AV)}(fr fr':Bool)(hf:fr'=true→fr=true)(e:EvT):LeL F(e.cs fr)(e.cs fr'):=.cons(.refl _)(V.cs_le fr fr' hf _)
theorem EvT.css_le {F:List(Value×AV)}(fr fr':Bool)(hf:fr'=true→fr=true):∀l:List EvT,LeL F(EvT.css fr l).flatten(EvT.css fr' l).flatten
  |[]=>.nil
  |v::r=>by
    simp only[EvT.css,List.map_cons,List.flatten_cons]
    exact LeL.append(v.cs_le fr fr' hf)(EvT.css_le fr fr' hf r)
theorem Nl {F:List(Value×AV)}(fr fr' clip:Bool)(hf:fr'=true→fr=true)(l:List EvT):Le F(.sl fr clip MN(EvT.css fr l))(.sl fr' false MN(EvT.css fr' l)):=
  .slL hf(by rw[EvT.css_length,EvT.css_length])(EvT.css_sz fr' l)(EvT.css_le fr fr' hf l)
structure EvT.wf(e:EvT):Prop where
  name:e.name.length≤Qu
  arg:e.arg.wf
def EvT.wfs(l:List EvT):Prop:=l.length*96≤Qu∧∀e∈l,e.wf
theorem H7:EvT.wfs []:=⟨by decide,fun _ h=>by cases h⟩
theorem EvT.wfs.len {l:List EvT}(h:EvT.wfs l):l.length≤1466015503658:=by have:=h.1;unfold Qu at this;omega
theorem EvT.wfs.take {l:List EvT}(h:EvT.wfs l)(k:Nat):EvT.wfs(l.take k):=⟨Nat.le_trans(Nat.mul_le_mul_right _(by simp;omega))h.1,fun e he=>h.2 e(List.mem_of_mem_take he)⟩
theorem EvT.wfs.drop {l:List EvT}(h:EvT.wfs l)(k:Nat):EvT.wfs(l.drop k):=⟨Nat.le_trans(Nat.mul_le_mul_right _(by simp))h.1,fun e he=>h.2 e(List.mem_of_mem_drop he)⟩
/-! ### the page -/
def We(s:Uj):Bool:=Kl s

end
section
/- Walks: slices.Insert of one element, slices.Delete of one. -/
set_option maxRecDepth 10000
set_option maxHeartbeats 4000000
theorem Sr:∀u v w,(callFunc 101 #[u,v]).run Tryz.prog w=((Extern.SlicesOverlaps.overlaps #[23,23] #[4] #[u,v]).run Tryz.prog w).andThen fun v w'=>.ok(.value v)w':=fun u v w=>run_callFunc_extern(P:=Tryz.prog)Tryz.func101(by kernel_rfl)(by kernel_rfl)(by kernel_rfl)(by kernel_rfl)_ w
theorem CR {v:Value}{xs:List(List AV)}{ys:List AV}{i:Nat}{fr clip:Bool}(hi:i≤xs.length)(hy:ys.length=1)(hr:(xs.length+1)*16≤Qu):AC Tryz.prog 88 [.arr v W3 xs] [.c v,.c(.int .i64(i:Int)),.sl fr clip W3 [ys]](WA(GG W3(xs.take i++[ys]++xs.drop i))):=by
  have hr2:=hr
  unfold Qu at hr2
  refine AC.of_J Tryz.func88 rfl Tryz.ntmps88 rfl fun w0 A0=>?_
  refine Zs(Zq rfl(QW.assign .const)(Zn(Zs(Zq rfl(QW.move(.tmp rfl))(Zq rfl(QW.move(.tmp rfl))(NC 0 UD Wc(.tmp rfl)rfl(.tmp rfl)rfl hi rfl fun u12=>Zn(Zs(Zq rfl(QW.move(.tmp rfl)) ?_))))))))
  refine Zq rfl(Qr UD(.tmp rfl))(Zq rfl(QW.assign(.tmp rfl))(Zn(J.seq(Zs(Zq rfl(QW.move(.tmp rfl))(Zq rfl(QW.eql(.tmp rfl) .const)(Zn ?_)))))))
  refine J.cond(.tmp rfl)(fun c1=>absurd c1(by simp))(fun c1=>?_)
  refine Zk(Zs(Zq rfl(QW.move(.tmp rfl))(Zq rfl(Yg 0 UD(.tmp rfl)rfl)(Zq rfl(QW.assign(.tmp rfl))(Zn(J.seq(Zs(Zq rfl(QW.move(.tmp rfl))(Zq rfl(QW.move(.tmp rfl)) ?_)))))))))
  refine Zq rfl(QW.eql(.tmp rfl)(.tmp rfl))(Zn ?_)
  refine J.cond(.tmp rfl)(fun c2=>?_)(fun c2=>?_)
  ·skip
    obtain rfl:i=xs.length:=by simp at c2;omega
    exact Zs(Zq rfl(QW.move(.tmp rfl))(Zq rfl(QW.move(.tmp rfl))(JL.append 0 UD el9 rfl(.tmp rfl)rfl(UM UD(.tmp rfl))(by omega)rfl fun v25=>JL.isSlice 0 rfl fun hs1=>Zq rfl(QW.assign(.tmp rfl))(Zn(J.ret(thenQ.r(Zr [.p](RetEv.one rfl(REv.tmp rfl lr))rfl⟨_,rfl,_,rfl,hs1,by simp;rfl⟩)))))))
  have hlt:i<xs.length:=by simp at c2;omega
  refine Zk(J.seq(J.seq(J.lay 0 rfl(fun a0 hv hx=>absurd hlt(by rw[hx];simp))fun b cap sp hv hcap hsz hfl=>?_)))
  subst hv
  have hX:xs.flatten.length=xs.length*1:=QP xs hsz
  have hBl:(xs.flatten++sp.map AV.c).length=(cap+1)*1:=by rw[List.length_append,List.length_map];exact hfl
  refine Qg(Zq rfl(QW.move(.tmp rfl))(Zq rfl(QW.move(.tmp rfl))(Zq rfl(QW.add(.tmp rfl)(.tmp rfl)(U7(m:=xs.length+1)rfl(by omega)))(Zq rfl(QW.move(.tmp rfl))(Zq rfl(TM UD(.tmp rfl))(Zq rfl(QW.gtr(.tmp rfl)(.tmp rfl))(Zn ?_)))))))
  refine J.cond(.tmp rfl)(fun c3=>?_)(fun c3=>?_)
  ·skip
    have hgr:cap+1<xs.length+1:=by simp at c3;omega
    refine Zs(Zq rfl(QW.move(.tmp rfl))(Zq rfl(QW.move(.tmp rfl))(Zq rfl(Lt(h:=i)UD Wc(.tmp rfl)(.tmp rfl)rfl(by omega))(Zq rfl(QW.move(.tmp rfl))(Zq rfl(QW.move(.tmp rfl))(Zq rfl(QW.add(.tmp rfl)(.tmp rfl)(U7(m:=xs.length+1)rfl(by omega)))(Zq rfl(QW.move(.tmp rfl))(Zq rfl(QW.sub(.tmp rfl)(.tmp rfl)(U7(m:=xs.length+1-i)(by omega)(by omega)))(Mz 0 UD iu3 el9 rfl(.tmp rfl)rfl(.tmp rfl)(by omega)(by omega)(by show 0+i*1≤_;rw[hBl];omega)(by rw[show i+(xs.length+1-i)=xs.length+1 by omega];exact hr)(by unfold Qu;omega)rfl fun b2 cap2 tl hc2 hhl htl=>?_)))))))))
    have hNl:(((xs.flatten++sp.map AV.c).drop 0).take(i*1)++tl).length=(cap2+1)*1:=by rw[List.length_append];exact(congrArg(·+tl.length)hhl).trans htl
    have htl2:i*1+tl.length=(cap2+1)*1:=htl
    have hml:(((xs.flatten++sp.map AV.c).drop(i*1)).take(xs.flatten.length-i*1)).length=xs.flatten.length-i*1:=by rw[List.length_take,List.length_drop,hBl];omega
    refine Zq rfl(QW.assign(.tmp rfl))(Zn(Zs(Zq rfl(QW.move(.tmp rfl))(Zq rfl(QW.move(.tmp rfl))(Zq rfl(WJ(l:=i)(off':=i*1)UD Wc(.tmp rfl)(.tmp rfl)rfl(by omega)(by omega)(by rw[if_neg(by omega)];omega)) ?_)))))
    refine Zq rfl(QW.move(.tmp rfl))(YQ 0 UD Wc(.tmp rfl)rfl(SrcN.one(.tmp rfl)rfl hy)(Nat.min_eq_left(by omega))(by rw[hNl,hy];omega)rfl ?_)
    refine Zn(J.seq(QY 8 Ud(by kernel_rfl)(by kernel_rfl)(by kernel_rfl)rfl ?_))
    refine .cons []rfl rfl rfl(.q rfl(QW.move(.tmp rfl))) ?_
    refine .cons []rfl rfl rfl(.q rfl(QW.move(.tmp rfl))) ?_
    refine .cons []rfl rfl rfl(.q rfl(QW.move(.tmp rfl))) ?_
    refine .cons [47,48]rfl rfl rfl(.q rfl(QW.add(.tmp rfl)(.tmp rfl)(U7(m:=i+1)rfl(by omega)))) ?_
    refine .cons [46,49]rfl rfl rfl(.q rfl(WJ(l:=i+1)(off':=i*1+1)UD Wc(.tmp rfl)(.tmp rfl)rfl(by omega)(by omega)(by rw[if_neg(by omega)];omega))) ?_
    refine .cons []rfl rfl rfl(.q rfl(QW.move(.tmp rfl))) ?_
    refine .cons []rfl rfl rfl(.q rfl(QW.move(.tmp rfl))) ?_
    refine .cons [51,52]rfl rfl rfl(.q rfl(WJ(l:=i)(off':=i*1)UD Wc(.tmp rfl)(.tmp rfl)rfl(by omega)(by omega)(by rw[if_neg(by omega)];omega))) ?_
    refine .nil ?_
    refine YQ 0 UD Wc(.tmp rfl)rfl(K6(i2:=1)(mm:=xs.length-i)(q:=xs.flatten.length-i*1)(.tmp rfl)rfl(by omega)(Nat.le_refl _)(by rw[hBl];omega))(Nat.min_eq_left(by omega))(by rw[QF(by rw[hNl,hy];omega),hNl,hml];omega)rfl ?_
    refine Zn(J.seq(J.fold 0(xs.take i++[ys]++xs.drop i)rfl(v:=sv b2 0(i+(xs.length+1-i))(cap2+1))(by rw[Xr hi,show i+(xs.length+1-i)=xs.length+1 by omega])(by rw[Xr hi];omega)(N0 hsz hy)(by rw[QF(by rw[QF(by rw[hNl,hy];omega),hNl,hml];omega),QF(by rw[hNl,hy];omega),hNl];rfl)(by rw[GW hsz hy,KE hsz];exact R7(X:=xs.flatten)(sp:=sp.map AV.c)(tl:=tl)(a:=i*1)(m:=1)(by omega)hy(by omega))rfl ?_))
    exact Qg(Zq rfl(QW.move(.tmp rfl))(Zq rfl(QW.assign(.tmp rfl))(Zn(J.ret(thenQ.r(Zr [.p,.k](RetEv.one rfl(REv.tmp rfl lr))rfl⟨_,rfl,_,rfl,rfl,rfl⟩))))))
  have hroom:xs.length+1≤cap+1:=by simp at c3;omega
  refine Zk(Zs(Zq rfl(QW.move(.tmp rfl))(Zq rfl(QW.move(.tmp rfl))(Zq rfl(QW.move(.tmp rfl))(Zq rfl(QW.add(.tmp rfl)(.tmp rfl)(U7(m:=xs.length+1)rfl(by omega)))(Zq rfl(Lt(h:=xs.length+1)UD Wc(.tmp rfl)(.tmp rfl)rfl(by omega))(Zq rfl(QW.assign(.tmp rfl))(Zn(J.seq ?_)))))))))
  refine Zs(Zq rfl(QW.move(.tmp rfl))(Zq rfl(QW.move(.tmp rfl))(Zq rfl(QW.move(.tmp rfl))(Zq rfl(QW.move(.tmp rfl))(Zq rfl(QW.add(.tmp rfl)(.tmp rfl)(U7(m:=i+1)rfl(by omega)))(Zq rfl(WJ(l:=i+1)(off':=i*1+1)UD Wc(.tmp rfl)(.tmp rfl)rfl(by omega)(by omega)(by rw[if_neg(by omega)];omega)) ?_))))))
  refine Zq rfl(TN 0 UD Wc Sr(.tmp rfl)(.tmp rfl)rfl(by intro h0;simp at h0;subst h0;simp at hy)(by intro h0;have:=congrArg List.length h0;rw[hBl]at this;simp at this)) ?_
  refine Zq rfl(QW.not(.tmp rfl))(Zn ?_)
  refine J.cond(.tmp rfl)(fun c4=>?_)(fun c4=>absurd c4(by simp))
  refine J.seq ?_
  have hml:(((xs.flatten++sp.map AV.c).drop(i*1)).take(xs.flatten.length-i*1)).length=xs.flatten.length-i*1:=by rw[List.length_take,List.length_drop,hBl];omega
  refine QY 8 Ud(by kernel_rfl)(by kernel_rfl)(by kernel_rfl)rfl ?_
  refine .cons []rfl rfl rfl(.q rfl(QW.move(.tmp rfl))) ?_
  refine .cons []rfl rfl rfl(.q rfl(QW.move(.tmp rfl))) ?_
  refine .cons []rfl rfl rfl(.q rfl(QW.move(.tmp rfl))) ?_
  refine .cons [70,71]rfl rfl rfl(.q rfl(QW.add(.tmp rfl)(.tmp rfl)(U7(m:=i+1)rfl(by omega)))) ?_
  refine .cons [69,72]rfl rfl rfl(.q rfl(WJ(l:=i+1)(off':=i*1+1)UD Wc(.tmp rfl)(.tmp rfl)rfl(by omega)(by omega)(by rw[if_neg(by omega)];omega))) ?_
  refine .cons []rfl rfl rfl(.q rfl(QW.move(.tmp rfl))) ?_
  refine .cons []rfl rfl rfl(.q rfl(QW.move(.tmp rfl))) ?_
  refine .cons [74,75]rfl rfl rfl(.q rfl(WJ(l:=i)(off':=i*1)UD Wc(.tmp rfl)(.tmp rfl)rfl(by omega)(by omega)(by rw[if_neg(by omega)];omega))) ?_
  refine .nil ?_
  refine YQ 0 UD Wc(.tmp rfl)rfl(K6(i2:=0)(mm:=xs.length-i)(q:=xs.flatten.length-i*1)(.tmp rfl)rfl(by omega)(by omega)(by rw[hBl];omega))(by show min _ _=_;omega)(by rw[hBl,hml];omega)rfl ?_
  refine Zn(Zs(Zq rfl(QW.move(.tmp rfl))(Zq rfl(QW.move(.tmp rfl))(Zq rfl(WJ(l:=i)(off':=i*1)UD Wc(.tmp rfl)(.tmp rfl)rfl(by omega)(by omega)(by rw[if_neg(by omega)];omega)) ?_))))
  refine Zq rfl(QW.move(.tmp rfl))(YQ 0 UD Wc(.tmp rfl)rfl(SrcN.one(.tmp rfl)rfl hy)(Nat.min_eq_left(by omega))(by rw[QF(by rw[hBl,hml];omega),hBl,hy];omega)rfl ?_)
  refine Zn(J.seq(J.fold 0(xs.take i++[ys]++xs.drop i)rfl(v:=sv b 0(xs.length+1)(cap+1))(by rw[Xr hi])(by rw[Xr hi];omega)(N0 hsz hy)(by rw[QF(by rw[QF(by rw[hBl,hml];omega),hBl,hy];omega),QF(by rw[hBl,hml];omega),hBl];rfl)(by rw[GW hsz hy,KE hsz];exact Nc(X:=xs.flatten)(sp:=sp.map AV.c)(a:=i*1)(m:=1)(by omega)hy(by rw[hBl];omega))rfl ?_))
  exact Qg(Zq rfl(QW.move(.tmp rfl))(Zq rfl(QW.assign(.tmp rfl))(Zn(J.ret(thenQ.r(Zr [.p](RetEv.one rfl(REv.tmp rfl lr))rfl⟨_,rfl,_,rfl,rfl,rfl⟩))))))
theorem Sq:∀u v w,(callFunc 103 #[u,v]).run Tryz.prog w=((Extern.SlicesOverlaps.overlaps #[24,24] #[4] #[u,v]).run Tryz.prog w).andThen fun v w'=>.ok(.value v)w':=fun u v w=>run_callFunc_extern(P:=Tryz.prog)Tryz.func103(by kernel_rfl)(by kernel_rfl)(by kernel_rfl)(by kernel_rfl)_ w
theorem CQ {v:Value}{xs:List(List AV)}{ys:List AV}{i:Nat}{fr clip:Bool}(hi:i≤xs.length)(hy:ys.length=5)(hr:(xs.length+1)*80≤Qu):AC Tryz.prog 89 [.arr v eV xs] [.c v,.c(.int .i64(i:Int)),.sl fr clip eV [ys]](WA(GG eV(xs.take i++[ys]++xs.drop i))):=by
  have hr2:=hr
  unfold Qu at hr2
  refine AC.of_J Tryz.func89 rfl Tryz.ntmps89 rfl fun w0 A0=>?_
  refine Zs(Zq rfl(QW.assign .const)(Zn(Zs(Zq rfl(QW.move(.tmp rfl))(Zq rfl(QW.move(.tmp rfl))(NC 0 QO Qj(.tmp rfl)rfl(.tmp rfl)rfl hi rfl fun u12=>Zn(Zs(Zq rfl(QW.move(.tmp rfl)) ?_))))))))
  refine Zq rfl(Qr QO(.tmp rfl))(Zq rfl(QW.assign(.tmp rfl))(Zn(J.seq(Zs(Zq rfl(QW.move(.tmp rfl))(Zq rfl(QW.eql(.tmp rfl) .const)(Zn ?_)))))))
  refine J.cond(.tmp rfl)(fun c1=>absurd c1(by simp))(fun c1=>?_)
  refine Zk(Zs(Zq rfl(QW.move(.tmp rfl))(Zq rfl(Yg 0 QO(.tmp rfl)rfl)(Zq rfl(QW.assign(.tmp rfl))(Zn(J.seq(Zs(Zq rfl(QW.move(.tmp rfl))(Zq rfl(QW.move(.tmp rfl)) ?_)))))))))
  refine Zq rfl(QW.eql(.tmp rfl)(.tmp rfl))(Zn ?_)
  refine J.cond(.tmp rfl)(fun c2=>?_)(fun c2=>?_)
  ·skip
    obtain rfl:i=xs.length:=by simp at c2;omega
    exact Zs(Zq rfl(QW.move(.tmp rfl))(Zq rfl(QW.move(.tmp rfl))(JL.append 0 QO Ga rfl(.tmp rfl)rfl(UM QO(.tmp rfl))(by omega)rfl fun v25=>JL.isSlice 0 rfl fun hs1=>Zq rfl(QW.assign(.tmp rfl))(Zn(J.ret(thenQ.r(Zr [.p](RetEv.one rfl(REv.tmp rfl lr))rfl⟨_,rfl,_,rfl,hs1,by simp;rfl⟩)))))))
  have hlt:i<xs.length:=by simp at c2;omega
  refine Zk(J.seq(J.seq(J.lay 0 rfl(fun a0 hv hx=>absurd hlt(by rw[hx];simp))fun b cap sp hv hcap hsz hfl=>?_)))
  subst hv
  have hX:xs.flatten.length=xs.length*5:=QP xs hsz
  have hBl:(xs.flatten++sp.map AV.c).length=(cap+1)*5:=by rw[List.length_append,List.length_map];exact hfl
  refine Qg(Zq rfl(QW.move(.tmp rfl))(Zq rfl(QW.move(.tmp rfl))(Zq rfl(QW.add(.tmp rfl)(.tmp rfl)(U7(m:=xs.length+1)rfl(by omega)))(Zq rfl(QW.move(.tmp rfl))(Zq rfl(TM QO(.tmp rfl))(Zq rfl(QW.gtr(.tmp rfl)(.tmp rfl))(Zn ?_)))))))
  refine J.cond(.tmp rfl)(fun c3=>?_)(fun c3=>?_)
  ·skip
    have hgr:cap+1<xs.length+1:=by simp at c3;omega
    refine Zs(Zq rfl(QW.move(.tmp rfl))(Zq rfl(QW.move(.tmp rfl))(Zq rfl(Lt(h:=i)QO Qj(.tmp rfl)(.tmp rfl)rfl(by omega))(Zq rfl(QW.move(.tmp rfl))(Zq rfl(QW.move(.tmp rfl))(Zq rfl(QW.add(.tmp rfl)(.tmp rfl)(U7(m:=xs.length+1)rfl(by omega)))(Zq rfl(QW.move(.tmp rfl))(Zq rfl(QW.sub(.tmp rfl)(.tmp rfl)(U7(m:=xs.length+1-i)(by omega)(by omega)))(Mz 0 QO iu3 Ga rfl(.tmp rfl)rfl(.tmp rfl)(by omega)(by omega)(by show 0+i*5≤_;rw[hBl];omega)(by rw[show i+(xs.length+1-i)=xs.length+1 by omega];exact hr)(by unfold Qu;omega)rfl fun b2 cap2 tl hc2 hhl htl=>?_)))))))))
    have hNl:(((xs.flatten++sp.map AV.c).drop 0).take(i*5)++tl).length=(cap2+1)*5:=by rw[List.length_append];exact(congrArg(·+tl.length)hhl).trans htl
    have htl2:i*5+tl.length=(cap2+1)*5:=htl
    have hml:(((xs.flatten++sp.map AV.c).drop(i*5)).take(xs.flatten.length-i*5)).length=xs.flatten.length-i*5:=by rw[List.length_take,List.length_drop,hBl];omega
    refine Zq rfl(QW.assign(.tmp rfl))(Zn(Zs(Zq rfl(QW.move(.tmp rfl))(Zq rfl(QW.move(.tmp rfl))(Zq rfl(WJ(l:=i)(off':=i*5)QO Qj(.tmp rfl)(.tmp rfl)rfl(by omega)(by omega)(by rw[if_neg(by omega)];omega)) ?_)))))
    refine Zq rfl(QW.move(.tmp rfl))(YQ 0 QO Qj(.tmp rfl)rfl(SrcN.one(.tmp rfl)rfl hy)(Nat.min_eq_left(by omega))(by rw[hNl,hy];omega)rfl ?_)
    refine Zn(J.seq(QY 8 Ud(by kernel_rfl)(by kernel_rfl)(by kernel_rfl)rfl ?_))
    refine .cons []rfl rfl rfl(.q rfl(QW.move(.tmp rfl))) ?_
    refine .cons []rfl rfl rfl(.q rfl(QW.move(.tmp rfl))) ?_
    refine .cons []rfl rfl rfl(.q rfl(QW.move(.tmp rfl))) ?_
    refine .cons [47,48]rfl rfl rfl(.q rfl(QW.add(.tmp rfl)(.tmp rfl)(U7(m:=i+1)rfl(by omega)))) ?_
    refine .cons [46,49]rfl rfl rfl(.q rfl(WJ(l:=i+1)(off':=i*5+5)QO Qj(.tmp rfl)(.tmp rfl)rfl(by omega)(by omega)(by rw[if_neg(by omega)];omega))) ?_
    refine .cons []rfl rfl rfl(.q rfl(QW.move(.tmp rfl))) ?_
    refine .cons []rfl rfl rfl(.q rfl(QW.move(.tmp rfl))) ?_
    refine .cons [51,52]rfl rfl rfl(.q rfl(WJ(l:=i)(off':=i*5)QO Qj(.tmp rfl)(.tmp rfl)rfl(by omega)(by omega)(by rw[if_neg(by omega)];omega))) ?_
    refine .nil ?_
    refine YQ 0 QO Qj(.tmp rfl)rfl(K6(i2:=1)(mm:=xs.length-i)(q:=xs.flatten.length-i*5)(.tmp rfl)rfl(by omega)(Nat.le_refl _)(by rw[hBl];omega))(Nat.min_eq_left(by omega))(by rw[QF(by rw[hNl,hy];omega),hNl,hml];omega)rfl ?_
    refine Zn(J.seq(J.fold 0(xs.take i++[ys]++xs.drop i)rfl(v:=sv b2 0(i+(xs.length+1-i))(cap2+1))(by rw[Xr hi,show i+(xs.length+1-i)=xs.length+1 by omega])(by rw[Xr hi];omega)(N0 hsz hy)(by rw[QF(by rw[QF(by rw[hNl,hy];omega),hNl,hml];omega),QF(by rw[hNl,hy];omega),hNl];rfl)(by rw[GW hsz hy,KE hsz];exact R7(X:=xs.flatten)(sp:=sp.map AV.c)(tl:=tl)(a:=i*5)(m:=5)(by omega)hy(by omega))rfl ?_))
    exact Qg(Zq rfl(QW.move(.tmp rfl))(Zq rfl(QW.assign(.tmp rfl))(Zn(J.ret(thenQ.r(Zr [.p,.k](RetEv.one rfl(REv.tmp rfl lr))rfl⟨_,rfl,_,rfl,rfl,rfl⟩))))))
  have hroom:xs.length+1≤cap+1:=by simp at c3;omega
  refine Zk(Zs(Zq rfl(QW.move(.tmp rfl))(Zq rfl(QW.move(.tmp rfl))(Zq rfl(QW.move(.tmp rfl))(Zq rfl(QW.add(.tmp rfl)(.tmp rfl)(U7(m:=xs.length+1)rfl(by omega)))(Zq rfl(Lt(h:=xs.length+1)QO Qj(.tmp rfl)(.tmp rfl)rfl(by omega))(Zq rfl(QW.assign(.tmp rfl))(Zn(J.seq ?_)))))))))
  refine Zs(Zq rfl(QW.move(.tmp rfl))(Zq rfl(QW.move(.tmp rfl))(Zq rfl(QW.move(.tmp rfl))(Zq rfl(QW.move(.tmp rfl))(Zq rfl(QW.add(.tmp rfl)(.tmp rfl)(U7(m:=i+1)rfl(by omega)))(Zq rfl(WJ(l:=i+1)(off':=i*5+5)QO Qj(.tmp rfl)(.tmp rfl)rfl(by omega)(by omega)(by rw[if_neg(by omega)];omega)) ?_))))))
  refine Zq rfl(TN 0 QO Qj Sq(.tmp rfl)(.tmp rfl)rfl(by intro h0;simp at h0;subst h0;simp at hy)(by intro h0;have:=congrArg List.length h0;rw[hBl]at this;simp at this)) ?_
  refine Zq rfl(QW.not(.tmp rfl))(Zn ?_)
  refine J.cond(.tmp rfl)(fun c4=>?_)(fun c4=>absurd c4(by simp))
  refine J.seq ?_
  have hml:(((xs.flatten++sp.map AV.c).drop(i*5)).take(xs.flatten.length-i*5)).length=xs.flatten.length-i*5:=by rw[List.length_take,List.length_drop,hBl];omega
  refine QY 8 Ud(by kernel_rfl)(by kernel_rfl)(by kernel_rfl)rfl ?_
  refine .cons []rfl rfl rfl(.q rfl(QW.move(.tmp rfl))) ?_
  refine .cons []rfl rfl rfl(.q rfl(QW.move(.tmp rfl))) ?_
  refine .cons []rfl rfl rfl(.q rfl(QW.move(.tmp rfl))) ?_
  refine .cons [70,71]rfl rfl rfl(.q rfl(QW.add(.tmp rfl)(.tmp rfl)(U7(m:=i+1)rfl(by omega)))) ?_
  refine .cons [69,72]rfl rfl rfl(.q rfl(WJ(l:=i+1)(off':=i*5+5)QO Qj(.tmp rfl)(.tmp rfl)rfl(by omega)(by omega)(by rw[if_neg(by omega)];omega))) ?_
  refine .cons []rfl rfl rfl(.q rfl(QW.move(.tmp rfl))) ?_
  refine .cons []rfl rfl rfl(.q rfl(QW.move(.tmp rfl))) ?_
  refine .cons [74,75]rfl rfl rfl(.q rfl(WJ(l:=i)(off':=i*5)QO Qj(.tmp rfl)(.tmp rfl)rfl(by omega)(by omega)(by rw[if_neg(by omega)];omega))) ?_
  refine .nil ?_
  refine YQ 0 QO Qj(.tmp rfl)rfl(K6(i2:=0)(mm:=xs.length-i)(q:=xs.flatten.length-i*5)(.tmp rfl)rfl(by omega)(by omega)(by rw[hBl];omega))(by show min _ _=_;omega)(by rw[hBl,hml];omega)rfl ?_
  refine Zn(Zs(Zq rfl(QW.move(.tmp rfl))(Zq rfl(QW.move(.tmp rfl))(Zq rfl(WJ(l:=i)(off':=i*5)QO Qj(.tmp rfl)(.tmp rfl)rfl(by omega)(by omega)(by rw[if_neg(by omega)];omega)) ?_))))
  refine Zq rfl(QW.move(.tmp rfl))(YQ 0 QO Qj(.tmp rfl)rfl(SrcN.one(.tmp rfl)rfl hy)(Nat.min_eq_left(by omega))(by rw[QF(by rw[hBl,hml];omega),hBl,hy];omega)rfl ?_)
  refine Zn(J.seq(J.fold 0(xs.take i++[ys]++xs.drop i)rfl(v:=sv b 0(xs.length+1)(cap+1))(by rw[Xr hi])(by rw[Xr hi];omega)(N0 hsz hy)(by rw[QF(by rw[QF(by rw[hBl,hml];omega),hBl,hy];omega),QF(by rw[hBl,hml];omega),hBl];rfl)(by rw[GW hsz hy,KE hsz];exact Nc(X:=xs.flatten)(sp:=sp.map AV.c)(a:=i*5)(m:=5)(by omega)hy(by rw[hBl];omega))rfl ?_))
  exact Qg(Zq rfl(QW.move(.tmp rfl))(Zq rfl(QW.assign(.tmp rfl))(Zn(J.ret(thenQ.r(Zr [.p](RetEv.one rfl(REv.tmp rfl lr))rfl⟨_,rfl,_,rfl,rfl,rfl⟩))))))

end
section
/- Walks: a new item in an owned value. -/
set_option maxRecDepth 10000
set_option maxHeartbeats 4000000
theorem Ni {v:V}{s:StT}{i:Nat}{e:Int}(h:v.fnd s=(i,e)):e=0∨(e=71∧s.isKey=true∧v.kind=5∧i≤v.keys.length)∨(e=82∧s.isKey=false∧v.kind=4∧i=0)∨(e=81∧i=0):=by
  unfold V.fnd at h
  split at h
  ·rename_i h1
    split at h
    ·rename_i h2
      split at h
      ·exact .inl(congrArg Prod.snd h).symm
      ·cases h;exact .inr(.inl⟨rfl,h1,h2,Dj _ _⟩)
    ·cases h;exact .inr(.inr(.inr⟨rfl,rfl⟩))
  ·rename_i h1
    split at h
    ·rename_i h2
      split at h
      ·cases h;exact .inr(.inr(.inl⟨rfl,by simpa using h1,h2,rfl⟩))
      ·exact .inl(congrArg Prod.snd h).symm
    ·cases h;exact .inr(.inr(.inr⟨rfl,rfl⟩))
def V.stp(u:V)(s:StT)(last:Bool):V×Nat×Int:=
  if(u.fnd s).2=0 then(u,(u.fnd s).1,0)else if last=true then(if(u.grw s(u.fnd s).1(u.fnd s).2).2=0 then(u.ins s(u.grw s(u.fnd s).1(u.fnd s).2).1 .nil,(u.grw s(u.fnd s).1(u.fnd s).2).1,0)else(u,(u.grw s(u.fnd s).1(u.fnd s).2).1,(u.grw s(u.fnd s).1(u.fnd s).2).2))
  else(u,(u.fnd s).1,(u.fnd s).2)
def GrowR(z:At)(s:StT):AV→List Own→Prop:=fun x o=>∃kv iv ok oi,x=.tup [.c(.int .i64((z.u.stp s true).2.1:Int)),.c(.int .i64(z.u.stp s true).2.2)]∧o=[.box z.b(Yo z(z.u.stp s true).1 kv iv),ok,oi]∧VTr(z.u.stp s true).1 kv iv ok oi
theorem GrowR.no {z:At}{s:StT}{i m:Nat}{e f:Int}{ok oi:Own}{o:List Own}(h:z.u.fnd s=(i,e))(he:e≠0)(hg:z.u.grw s i e=(m,f))(hf:f≠0)(ho:o=[.box z.b(Yo z z.u z.kv z.iv),ok,oi])(hV:VTr z.u z.kv z.iv ok oi):GrowR z s(.tup [.c(.int .i64(m:Int)),.c(.int .i64 f)])o:=by
  have:z.u.stp s true=(z.u,m,f):=by simp[V.stp,h,he,hg,hf]
  exact⟨z.kv,z.iv,ok,oi,by rw[this],by rw[this];exact ho,by rw[this];exact hV⟩
theorem GrowR.yes {z:At}{s:StT}{i m:Nat}{e:Int}{kv iv:Value}{ok oi:Own}{o:List Own}(h:z.u.fnd s=(i,e))(he:e≠0)(hg:z.u.grw s i e=(m,0))(ho:o=[.box z.b(Yo z z.u kv iv),ok,oi])(hV:VTr(z.u.ins s m .nil)kv iv ok oi):GrowR z s(.tup [.c(.int .i64(m:Int)),.c(.int .i64 0)])o:=by
  have:z.u.stp s true=(z.u.ins s m .nil,m,0):=by simp[V.stp,h,he,hg]
  exact⟨kv,iv,ok,oi,by rw[this],by rw[this];exact ho,by rw[this];exact hV⟩
theorem CT {z:At}{u:V}{kv kv2 iv:Value}(h:z.pre.length=z.off):QT(Yo z u kv iv)(z.off+3) [.c kv2]=Yo z u kv2 iv:=(R8 h(by decide)).trans(by rw[YM];rfl)
theorem CU {z:At}{u:V}{kv iv iv2:Value}(h:z.pre.length=z.off):QT(Yo z u kv iv)(z.off+4) [.c iv2]=Yo z u kv iv2:=(R8 h(by decide)).trans(by rw[YM];rfl)
theorem RG:∀{ks:List Uj}{us:List Value}{o:Own},TrL(Q6 ks).flatten us o→us=ks.map Un
  |[],us,o,h=>by cases h;rfl
  |s::ks,us,o,h=>by
    simp only[Q6,List.map_cons,List.flatten_cons,List.singleton_append]at h
    cases h with
    |cons h1 h2 ho=>rw[h1.c_inv,RG h2];rfl
theorem M2:∀{cs:List(List AV)}{ks:List Uj},(∀x∈cs,x.length=1)→cs.flatten=(ks.map Un).map AV.c→cs=Q6 ks
  |[],[],_,_=>rfl
  |[],_::_,_,h=>by simp at h
  |c::cs,ks,h1,h=>by
    obtain⟨x,rfl⟩:=List.length_eq_one_iff.1(h1 c(by simp))
    cases ks with
    |nil=>simp at h
    |cons k ks=>
      simp only[List.flatten_cons,List.singleton_append,List.map_cons,List.cons.injEq]at h
      rw[M2(fun x hx=>h1 x(by simp[hx]))h.2,h.1]
      rfl
theorem SE {cs:List(List AV)}{ks:List Uj}{us:List Value}{o:Own}(h1:cs.flatten=us.map AV.c)(h3:∀x∈cs,x.length=1)(h:TrL(Q6 ks).flatten us o):cs=Q6 ks:=by
  rw[RG h]at h1
  exact M2 h3 h1
def SA:List AV:=[.c(.int .i64 0),.c(.int .u64 0),.c(Un []),.c(.slice none 0 0),.c(.slice none 0 0)]
theorem TO(e:Wj):OwnEq(.grp [.arr(.slice none 0 0)e [],.grp []])(.grp []):=⟨fun b=>by simp[Own.fp,Yt,Gh],fun w A=>by
  simp only[Xg,List.forall_mem_cons,List.not_mem_nil,false_implies,implies_true,and_true,iff_true]
  exact .inl⟨_,rfl,rfl⟩⟩
theorem RY(e:Wj):Tr(.sl true false e [])(.slice none 0 0)(.grp []):=.sl(us:=[])(o:=.grp [])rfl rfl(fun _ h=>by cases h)(fun _ h=>by cases h)rfl(by simp)(.nil(.refl _))(TO e)
theorem Er:VTr .nil(.slice none 0 0)(.slice none 0 0)(.grp [])(.grp []):=⟨rfl,rfl,RY W3,RY eV⟩
theorem ins_tr {is:List V}{cs:List(List AV)}{us:List Value}{o:Own}{m:Nat}{v:Value}(hm:m≤is.length)(hl:cs.length=is.length)(h3:∀x∈cs,x.length=5)(hf:cs.flatten=us.map AV.c)(h1:us.all(·.oneCell')=true)(h:TrL(V.css true is).flatten us o)(h6:(is.length+1)*80≤Qu):
    Tr(.sl true false eV(V.css true(is.take m++[V.nil]++is.drop m)))v(.grp [.arr v eV(cs.take m++[SA]++cs.drop m),o]):=by
  have hsp:(V.css true is).flatten=(V.css true(is.take m)).flatten++(V.css true(is.drop m)).flatten:=by
    rw[← List.flatten_append,← V.css_append,List.take_append_drop]
  rw[hsp]at h
  obtain⟨u1,u2,o1,o2,rfl,g1,g2,g3⟩:=h.split
  rw[List.all_append,Bool.and_eq_true]at h1
  have hlen:(cs.take m).flatten.length=u1.length:=by
    rw[← g1.length,QP(sz:=5)_(fun x hx=>h3 x(List.mem_of_mem_take hx)),QP(sz:=5)_(V.css_sz true _),V.css_length,List.length_take,List.length_take,hl]
  have hf2:(cs.take m).flatten++(cs.drop m).flatten=u1.map AV.c++u2.map AV.c:=by
    rw[← List.flatten_append,List.take_append_drop,hf,List.map_append]
  obtain⟨k1,k2⟩:=List.append_inj hf2(by simpa using hlen)
  have htl:TrL(V.css true(is.take m++[V.nil]++is.drop m)).flatten(u1++V.vals .nil(.slice none 0 0)(.slice none 0 0)++u2)o:=by
    rw[V.css_append,V.css_append,List.flatten_append,List.flatten_append]
    have hn:(V.css true [V.nil]).flatten=V.nil.cs true:=by simp[V.css]
    rw[hn]
    refine(g1.append Er.trL(o'':=o1) ?_).append g2 g3
    refine(OwnEq.grp_perm(List.Perm.swap _ _ _)).trans(OwnEq.trans(.cons ?_ (.refl _))(OwnEq.drops _))
    exact(Yh [] [.grp []]).trans(OwnEq.one _)
  refine GU(us:=u1++V.vals .nil(.slice none 0 0)(.slice none 0 0)++u2) ?_ ?_ ?_ ?_ ?_ htl
  ·rw[List.flatten_append,List.flatten_append,k1,k2,List.map_append,List.map_append]
    rfl
  ·simp only[List.length_append,List.length_take,List.length_drop,List.length_singleton];omega
  ·intro x hx
    simp only[List.mem_append,List.mem_singleton]at hx
    rcases hx with(hx|rfl)|hx
    ·exact h3 x(List.mem_of_mem_take hx)
    ·rfl
    ·exact h3 x(List.mem_of_mem_drop hx)
  ·rw[List.all_append,List.all_append,h1.1,h1.2,Er.ones];rfl
  ·simp only[List.length_append,List.length_take,List.length_drop,List.length_singleton];unfold Qu at h6⊢;omega
theorem Dm(ks:List Uj)(s:Uj)(m:Nat):(Q6 ks).take m++[[.c(Un s)]]++(Q6 ks).drop m=Q6(ks.take m++[s]++ks.drop m):=by simp[Q6,List.map_take,List.map_drop]
theorem SJ {z:At}{s:StT}{zs:List AV}{i:Nat}{e:Int}(hs:Sc s zs)(ho:z.pre.length=z.off)(hV:VTr z.u z.kv z.iv z.ok z.oi)(hp:Uc z.u=true)(hw:z.u.wf)(hsw:s.wf)(hie:z.u.fnd s=(i,e))(he0:e≠0):AC Tryz.prog 77 [.box z.b(Yo z z.u z.kv z.iv),z.ok,z.oi] [.c(.pointer(some⟨z.b,z.off,none⟩)),.agg zs,.c(.int .i64(i:Int)),.c(.int .i64 e)](WA(GrowR z s)):=by
  subst hs
  obtain⟨l1,l2⟩:=Xf hp
  have hcs:=(Ni hie).resolve_left he0
  obtain⟨ck,uk,o1,p1,p2,p3,p4,p5,p6⟩:=hV.ks.inv
  obtain⟨ci,ui,o2,q1,q2,q3,q4,q5,q6⟩:=hV.is.inv
  obtain rfl:=SE p1 p3 p5
  rw[V.css_length]at q2
  have hkr:z.u.keys.length*16≤Qu:=by unfold Qu;omega
  have hir:z.u.items.length*80≤Qu:=by unfold Qu;omega
  have hV2:VTr z.u z.kv z.iv(.arr z.kv W3(Q6 z.u.keys))(.grp [.arr z.iv eV ci,o2]):=⟨hV.k1,hV.i1,Lf hkr,GU q1 q2 q3 q4 hir q5⟩
  refine AC.of_J Tryz.func77 rfl Tryz.ntmps77 rfl fun w0 A0=>?_
  refine J.seq(J.reown(Reown.cons(TG p6 q6))(Qg(Qp(.tmp rfl)rfl fun b5=>Zq rfl(QW.assign .const)(Zq rfl(QW.assign .const)(Zn(Rw(ι:=Nat) [0,5](fun m=>[(2,.c(.int .i64(m:Int)))])(fun m oo=>oo)(fun m=>z.u.grw s i e=(if 32≤z.u.items.length then(0,3)else(m,0))∧m≤z.u.items.length∧(s.isKey=true→m≤z.u.keys.length)) ?_ ?_))))))
  ·skip
    refine J.block(Zs(Zq rfl(QW.move(.tmp rfl))(Zq rfl(QW.eql(.tmp rfl) .const)(Zq rfl(QW.move(.tmp rfl))(Zg rfl(fun hg=>(Qa DE(.tmp rfl)rfl))(Zg rfl(fun hg=>(Qb 0 Wc(.when rfl hg)rfl rfl))(Zg rfl(fun hg=>(QW.call BM(.cons(.when rfl hg) .nil)(BA _)))(Zg rfl(fun hg=>(QW.not(.when rfl hg)))(Zq rfl(QW.pick_and(.tmp rfl)(.tmp rfl)) ?_)))))))))
    refine Zq rfl(QW.assign(.tmp rfl))(Zn ?_)
    refine J.cond(.tmp rfl)(fun c1=>?_)(fun c1=>?_)
    ·skip
      have ht1:e=71∧Kl s.key=false:=by simpa using c1
      exact J.seq(J.reown(Reown.cons(Reown.cons(Reown.cons(Yf _ _ _))))(Qg(Zq rfl(QW.assign .const)(Zq rfl(QW.assign .const)(Zn(J.ret(blkQ.r(thenQ.r(Zr [.k,.p,.p,.p](QB rfl(REv.tmp rfl lr)(REv.tmp rfl lr))rfl⟨_,rfl,GrowR.no(m:=0)(f:=31)hie he0(by unfold V.grw;rw[if_pos ht1])(by decide)rfl hV2⟩)))))))))
    have hf1:¬(e=71∧Kl s.key=false):=by intro hh;simp[hh.1,hh.2]at c1
    refine J.seq(QY 10 Ud(by kernel_rfl)(by kernel_rfl)(by kernel_rfl)rfl ?_)
    refine .cons []rfl rfl rfl(.q rfl(QW.move(.tmp rfl))) ?_
    refine .cons [20]rfl rfl rfl(.q rfl(QW.eql(.tmp rfl) .const)) ?_
    refine .cons [21]rfl rfl rfl(.q rfl(QW.move(.tmp rfl))) ?_
    refine .cons [22]rfl rfl rfl(.g rfl rfl rfl(fun hg=>(Qa L8(.tmp rfl)rfl))) ?_
    refine .cons [23,22]rfl rfl rfl(.g rfl rfl rfl(fun hg=>(Qb 0 UR(.when rfl hg)rfl rfl))) ?_
    refine .cons [22]rfl rfl rfl(.g rfl rfl rfl(fun hg=>(QW.move(.tmp rfl)))) ?_
    refine .cons [25,22]rfl rfl rfl(.g rfl rfl rfl(fun hg=>(QG(.when rfl hg)))) ?_
    refine .cons [26,22]rfl rfl rfl(.g rfl rfl rfl(fun hg=>(Qa Ue(.when rfl hg)rfl))) ?_
    refine .cons [27,22]rfl rfl rfl(.g rfl rfl rfl(fun hg=>(Qb 1 U6(.when rfl hg)rfl((KY ho 4(by decide)).trans rfl)))) ?_
    refine .cons [28,22]rfl rfl rfl(.g rfl rfl rfl(fun hg=>(Yg 3 QO(.when rfl hg)rfl))) ?_
    refine .nil ?_
    refine Zg rfl(fun hg=>(QW.eql(.when rfl hg)(.when rfl hg)))(Zq rfl(QW.pick_and(.tmp rfl)(.tmp rfl))(Zq rfl(QW.assign(.tmp rfl))(Zn ?_)))
    refine J.cond(.tmp rfl)(fun c2=>?_)(fun c2=>?_)
    ·skip
      have ht2:e=82∧s.index=(z.u.items.length:Int):=by simpa[q2]using c2
      refine Qg(Zq rfl(Qa L8(.tmp rfl)rfl)(Zq rfl(Qb 0 UR(.tmp rfl)rfl rfl)(Zq rfl(QW.assign(.tmp rfl))(JL.nil(blkQ.n(thenQ.n ?_))))))
      exact⟨z.u.items.length,⟨by unfold V.grw;rw[if_neg hf1,if_pos ht2],Nat.le_refl _,fun hk=>absurd hk(by rcases hcs with h|h|h;(exact absurd(h.1.symm.trans ht2.1)(by decide));(rw[h.2.1];decide);(exact absurd(h.1.symm.trans ht2.1)(by decide)))⟩,QK(.cons rfl(Rt ht2.2)(.cons rfl lr(.cons rfl lr .nil)))(Reown.refl _)(fun _ h=>by first|exact h|simp[h])⟩
    have hf2:¬(e=82∧s.index=(z.u.items.length:Int)):=by intro hh;simp[hh.1,hh.2,q2]at c2
    refine Zs(Zq rfl(QW.move(.tmp rfl))(Zq rfl(QW.neq(.tmp rfl) .const)(Zq rfl(QW.assign(.tmp rfl))(Zn ?_))))
    refine J.cond(.tmp rfl)(fun c3=>?_)(fun c3=>?_)
    ·skip
      have ht3:e≠71:=by simpa using c3
      exact J.seq(J.reown(Reown.cons(Reown.cons(Reown.cons(Yf _ _ _))))(Qg(Zq rfl(QW.move(.tmp rfl))(Zq rfl(QW.assign .const)(Zq rfl(QW.assign(.tmp rfl))(Zn(J.ret(blkQ.r(thenQ.r(Zr [.k,.p,.p,.p](QB rfl(REv.tmp rfl lr)(REv.tmp rfl lr))rfl⟨_,rfl,GrowR.no(m:=0)(f:=e)hie he0(by unfold V.grw;rw[if_neg hf1,if_neg hf2,if_pos ht3])(by assumption)rfl hV2⟩))))))))))
    have h71:e=71:=by simpa using c3
    have h5:s.isKey=true∧z.u.kind=5∧i≤z.u.keys.length:=by
      rcases hcs with h|h|h
      ·exact h.2
      ·exact absurd(h.1.symm.trans h71)(by decide)
      ·exact absurd(h.1.symm.trans h71)(by decide)
    have hkl:=(X3 hp h5.2.1).1
    refine J.skip(blkQ.n(thenQ.n ?_))
    exact⟨i,⟨by unfold V.grw;rw[if_neg hf1,if_neg hf2,if_neg(by simp[h71])],by omega,fun _=>h5.2.2⟩,QK(.cons rfl lr(.cons rfl lr(.cons rfl lr .nil)))(Reown.refl _)(fun _ h=>by first|exact h|simp[h])⟩
  ·intro m⟨hgm,hmi,hmk⟩
    refine J.conv(by(try simp only[nl,Qk,Qz,QA,Qy,QR,AV.cellsOf,Qd,Qe,Nat.reduceAdd]);rfl) ?_
    refine J.seq(Zs(Zq rfl(QW.move(.tmp rfl))(Zq rfl(QG(.tmp rfl))(Zq rfl(Qa Ue(.tmp rfl)rfl)(Zq rfl(Qb 1 U6(.tmp rfl)rfl((KY ho 4(by decide)).trans rfl)) ?_)))))
    refine Zq rfl(Yg 3 QO(.tmp rfl)rfl)(Zq rfl(QW.geq(.tmp rfl) .const)(Zn ?_))
    refine J.cond(.tmp rfl)(fun c1=>?_)(fun c1=>?_)
    ·skip
      have h32:32≤z.u.items.length:=by(simp[q2]at c1;omega)
      exact J.seq(J.reown(Reown.cons(Reown.cons(Reown.cons(Yf _ _ _))))(Qg(Zq rfl(QW.assign .const)(Zq rfl(QW.assign .const)(Zn(J.ret(thenQ.r(Zr [.k,.p,.p,.p](QB rfl(REv.tmp rfl lr)(REv.tmp rfl lr))rfl⟨_,rfl,GrowR.no(m:=0)(f:=3)hie he0(by rw[hgm,if_pos h32])(by decide)rfl hV2⟩))))))))
    have h32:¬32≤z.u.items.length:=by(simp[q2]at c1;omega)
    refine Zk(Rw(ι:=Value×List Uj) [0,2](fun⟨kv2,ks2⟩=>[])(fun⟨kv2,ks2⟩oo=>List.set(List.set oo 1(.box z.b(Yo z z.u kv2 z.iv))) 2(.arr kv2 W3(Q6 ks2)))(fun⟨kv2,ks2⟩=>kv2.oneCell'=true∧ks2=(if s.isKey=true then z.u.keys.take m++[s.key]++z.u.keys.drop m else z.u.keys)) ?_ ?_)
    ·skip
      refine Zs(Zq rfl(Qa Rb(.tmp rfl)rfl)(Zq rfl(Qb 0 P5(.tmp rfl)rfl rfl)(Zn ?_)))
      refine J.cond(.tmp rfl)(fun c2=>?_)(fun c2=>?_)
      ·skip
        have hK:s.isKey=true:=c2
        refine Ya 10 1(fun os_ ow_ x_ o_=>match os_ with|[]=>(∃o2_,(GG W3((Q6 z.u.keys).take m++[[.c(Un s.key)]]++(Q6 z.u.keys).drop m))x_ o2_∧o_=QR [.k,.k,.p]o2_ ow_)|_=>False)Ud(by kernel_rfl)(by kernel_rfl)(by kernel_rfl)rfl ?_
        refine OutK.quiet []rfl rfl rfl(fun qs_ qv_ ql_=>(.q rfl(QW.move(.tmp rfl)))) ?_
        refine OutK.quiet []rfl rfl rfl(fun qs_ qv_ ql_=>(.q rfl(QW.move(.tmp rfl)))) ?_
        refine OutK.quiet [47]rfl rfl rfl(fun qs_ qv_ ql_=>(.q rfl(QG(.tmp rfl)))) ?_
        refine OutK.quiet [48]rfl rfl rfl(fun qs_ qv_ ql_=>(.q rfl(Qa U9(.tmp rfl)rfl))) ?_
        refine OutK.quiet [49]rfl rfl rfl(fun qs_ qv_ ql_=>by
            rcases qs_ with _|⟨⟨y0,p0⟩,qs_⟩
            ·skip
              exact(.q rfl(Qb 1 YS(.tmp rfl)rfl((KY ho 3(by decide)).trans rfl)))
            rcases qs_ with _|⟨⟨y1,p1⟩,qs_⟩
            ·skip
              obtain⟨hr0,_⟩:=qv_
              obtain⟨o55,⟨v55,rfl,hs55,rfl⟩,rfl⟩:=hr0
              exact(.q rfl(Qb 1 YS(.tmp rfl)rfl((KY ho 3(by decide)).trans rfl)))
            exact absurd ql_(by simp)) ?_
        refine OutK.quiet []rfl rfl rfl(fun qs_ qv_ ql_=>(.q rfl(QW.move(.tmp rfl)))) ?_
        refine OutK.quiet []rfl rfl rfl(fun qs_ qv_ ql_=>(.q rfl(Qa DE(.tmp rfl)rfl))) ?_
        refine OutK.quiet [52]rfl rfl rfl(fun qs_ qv_ ql_=>by
            rcases qs_ with _|⟨⟨y0,p0⟩,qs_⟩
            ·skip
              exact(.q rfl(Qb 0 Wc(.tmp rfl)rfl rfl))
            rcases qs_ with _|⟨⟨y1,p1⟩,qs_⟩
            ·skip
              obtain⟨hr0,_⟩:=qv_
              obtain⟨o55,⟨v55,rfl,hs55,rfl⟩,rfl⟩:=hr0
              exact(.q rfl(Qb 0 Wc(.tmp rfl)rfl rfl))
            exact absurd ql_(by simp)) ?_
        refine OutK.quiet [53]rfl rfl rfl(fun qs_ qv_ ql_=>(.q rfl(QW.buildSlice(idx:=[0])(xs:=[[.c(Un s.key)]])UD el9 z9 rfl(.cons(.tmp rfl) .nil)rfl rfl rfl rfl rfl rfl rfl rfl rfl))) ?_
        refine OutK.loud [50,51,54]rfl rfl rfl rfl rfl(fun qs_ qv_ ql_=>by
            obtain rfl:qs_=[]:=List.length_eq_zero_iff.1 ql_
            exact LStepR.callRF(d:=55) [.k,.k,.p]gofn88 Lent.nil(fun _=>(.cons(.tmp rfl)(.cons(.tmp rfl)(.cons(.tmp rfl) .nil))))(CR(xs:=Q6 z.u.keys)(i:=m)(by rw[Qo];exact hmk hK)rfl(by rw[Qo];unfold Qu;omega))(.inl rfl)) ?_
        refine .nil fun qs_ qv_ ql_=>?_
        obtain⟨⟨y0,p0⟩,qs_,rfl⟩:∃p t,qs_=p::t:=by(cases qs_ with|nil=>simp at ql_|cons p t=>exact⟨p,t,rfl⟩)
        obtain rfl:qs_=[]:=List.length_eq_zero_iff.1(by simpa using ql_)
        obtain⟨hr0,_⟩:=qv_
        obtain⟨o55,⟨v55,rfl,hs55,rfl⟩,rfl⟩:=hr0
        refine JL.conv(by(try simp only[nl,Qk,Qz,QA,Qy,QR,AV.cellsOf,Qd,Qe,Nat.reduceAdd]);rfl) ?_
        refine Zq rfl(QG(.tmp rfl))(Zq rfl(Qa U9(.tmp rfl)rfl)(JL.store_box 1 YS(.tmp rfl)rfl(.tmp rfl)(by assumption)rfl(by rw[LW _ _ _ _ ho];exact Nat.ble_eq_true_of_le(by omega))(CT ho)rfl ?_))
        refine Zn ?_
        exact⟨⟨v55,z.u.keys.take m++[s.key]++z.u.keys.drop m⟩,⟨hs55,by rw[if_pos hK]⟩,QK(.cons rfl lr(.cons rfl lr .nil))(Reown.ofEq(by show [_,Own.box z.b _,Own.arr v55 W3 _,_,_]=_;rw[Dm];rfl))(fun _ h=>by first|exact h|simp[h])⟩
      have hK:s.isKey=false:=c2
      refine Zk ?_
      exact⟨⟨z.kv,z.u.keys⟩,⟨hV.k1,by rw[if_neg(by simp[hK])]⟩,QK(.cons rfl lr(.cons rfl lr .nil))(Reown.refl _)(fun _ h=>by first|exact h|simp[h])⟩
    ·intro⟨kv2,ks2⟩⟨hk2,hks2⟩
      refine J.conv(by(try simp only[nl,Qk,Qz,QA,Qy,QR,AV.cellsOf,Qd,Qe,Nat.reduceAdd]);rfl) ?_
      refine Zs(Zq rfl(QW.move(.tmp rfl))(Zq rfl(QW.move(.tmp rfl))(Zq rfl(QG(.tmp rfl))(Zq rfl(Qa Ue(.tmp rfl)rfl)(Zq rfl(Qb 1 U6(.tmp rfl)rfl((KY ho 4(by decide)).trans rfl)) ?_)))))
      refine Zq rfl(QW.move(.tmp rfl))(Zq rfl(QW.build(idx:=[])Xx WV rfl .nil rfl rfl rfl rfl)(Zq rfl(QW.buildSlice(idx:=[0])(xs:=[SA])QO Ga WV rfl(.cons(.tmp rfl) .nil)rfl rfl rfl rfl rfl rfl rfl rfl rfl)(JL.callRF [.k,.k,.k,.p]gofn89 rfl Lent.nil(fun _=>(.cons(.tmp rfl)(.cons(.tmp rfl)(.cons(.tmp rfl) .nil))))(CQ(xs:=ci)(i:=m)(by omega)rfl(by unfold Qu;omega))(.inl rfl)fun x66 o66 h66=>?_)))
      obtain⟨v66,rfl,hs66,rfl⟩:=h66
      refine Zq rfl(QG(.tmp rfl))(Zq rfl(Qa Ue(.tmp rfl)rfl)(JL.store_box 1 U6(.tmp rfl)rfl(.tmp rfl)(by assumption)rfl(by rw[LW _ _ _ _ ho];exact Nat.ble_eq_true_of_le(by omega))(CU ho)rfl ?_))
      exact Zn(J.seq(J.reown(Reown.cons(Reown.cons(Reown.cons(Yf _ _ _))))(Qg(Zq rfl(QW.move(.tmp rfl))(Zq rfl(QW.assign(.tmp rfl))(Zq rfl(QW.assign .const)(Zn(J.ret(Zr [.k,.p,.p,.p](QB rfl(REv.tmp rfl lr)(REv.tmp rfl lr))rfl⟨_,rfl,GrowR.yes(m:=m)hie he0(by rw[hgm,if_neg h32])rfl⟨hk2,hs66,by(rw[show(z.u.ins s m .nil).keys=ks2 from hks2.symm];exact Lf(by rw[hks2];split<;>((try simp only[List.length_append,List.length_take,List.length_drop,List.length_singleton]);unfold Qu;omega))),ins_tr hmi q2 q3 q1 q4 q5(by unfold Qu;omega)⟩⟩)))))))))

end
section
/- Walks: a part of a value is another one. -/
set_option maxRecDepth 10000
set_option maxHeartbeats 4000000
theorem D1:V.nil.Fine:=.mk rfl fun _ h=>by cases h
theorem Fp {u:V}{s:StT}{m:Nat}(hm:m≤u.items.length):∃h:m<(u.ins s m .nil).items.length,(u.ins s m .nil).items[m]=.nil:=by
  have hl:m<(u.items.take m++[V.nil]++u.items.drop m).length:=by simp;omega
  refine⟨hl,?_⟩
  show(u.items.take m++[V.nil]++u.items.drop m)[m]'hl=.nil
  simp[List.getElem_append,Nat.min_eq_left hm]
theorem Fo {u x:V}{s:StT}{m:Nat}(hm:m≤u.items.length):(u.ins s m .nil).setAt m x=u.ins s m x:=by
  obtain⟨k,b,t,ks,is⟩:=u
  simp only[V.items]at hm
  simp only[V.setAt,V.ins,V.kind,V.bits,V.text,V.keys,V.items]
  congr 1
  rw[List.append_assoc,List.set_append_right _ _(by simp;omega)]
  simp[Nat.min_eq_left hm]
theorem PO {u:V}{s:StT}{i m:Nat}{e:Int}(hp:Uc u=true)(h:u.fnd s=(i,e))(he:e≠0)(hg:u.grw s i e=(m,0)):m≤u.items.length:=by
  unfold V.grw at hg
  split at hg
  ·cases hg
  ·split at hg
    ·split at hg
      ·cases hg
      ·cases hg;exact Nat.le_refl _
    ·split at hg
      ·rename_i h1 h2 h3
        cases hg;exact absurd rfl he
      ·rename_i h3
        split at hg
        ·cases hg
        ·cases hg
          have h71:e=71:=Decidable.byContradiction h3
          rcases Ni h with h|h|h|h
          ·exact absurd h he
          ·have:=(X3 hp h.2.2.1).1;omega
          ·omega
          ·omega
theorem PM {u u2 x:V}{s:StT}{r:List StT}{i2:Nat}{e2:Int}(h:u.stp s(decide(r=[]))=(u2,i2,e2))(he:e2≠0):u.set(s::r)x=(.nil,e2):=by
  unfold V.stp at h
  split at h
  ·cases h;exact absurd rfl he
  ·rename_i h0
    split at h
    ·rename_i hr
      have hr:r=[]:=by simpa using hr
      subst hr
      split at h
      ·cases h;exact absurd rfl he
      ·rename_i hg
        cases h
        show u.put s x=_
        rw[V.put,if_neg h0,if_neg hg]
    ·rename_i hr
      cases h
      cases r with
      |nil=>simp at hr
      |cons t r=>rw[V.set,if_pos h0]
theorem Fi {u u2 x:V}{s:StT}{r:List StT}{i2:Nat}(hf:u.Fine)(hw:u.wf)(hs:s.wf)(h:u.stp s(decide(r=[]))=(u2,i2,0)):
    ∃hlt:i2<u2.items.length,u2.wf∧u2.items[i2].Fine∧u.set(s::r)x=if(u2.items[i2].set r x).2≠0 then(.nil,(u2.items[i2].set r x).2)else(u2.setAt i2(u2.items[i2].set r x).1,0):=by
  unfold V.stp at h
  split at h
  ·rename_i h0
    cases h
    have hlt:=Hc hf.part h0
    refine⟨hlt,hw,hf.kid(List.getElem_mem hlt),?_⟩
    cases r with
    |nil=>show u.put s x=_;rw[V.put,if_pos h0];rfl
    |cons t r=>rw[V.set,if_neg(by simp[h0]),TD hlt]
  ·rename_i h0
    split at h
    ·rename_i hr
      have hr:r=[]:=by simpa using hr
      subst hr
      split at h
      ·rename_i hg
        cases h
        have hm:=PO(m:=(u.grw s(u.fnd s).1(u.fnd s).2).1)hf.part(i:=(u.fnd s).1)(e:=(u.fnd s).2)rfl h0(Prod.ext rfl hg)
        obtain⟨hlt,hnil⟩:=Fp(s:=s)hm
        refine⟨hlt,TE hw hf.part hs Wz,by rw[hnil];exact D1,?_⟩
        show u.put s x=if(V.set _ []x).2≠0 then _ else(V.setAt _ _ x,0)
        rw[V.put,if_neg h0,if_pos hg,Fo hm]
        rfl
      ·rename_i hg
        have:=congrArg(·.2.2)h
        exact absurd this hg
    ·have:=congrArg(·.2.2)h
      exact absurd this h0
def LM(f:V→V)(w:V×Int):V×Int:=if w.2≠0 then(.nil,w.2)else(f w.1,0)
theorem F7(w:V×Int)(h:w.2≠0→w.1=.nil):LM id w=w:=by
  unfold LM
  split
  ·rename_i h0;rw[← h h0]
  ·rename_i h0
    have:w.2=0:=Decidable.byContradiction h0
    exact Prod.ext rfl this.symm
theorem Fk:∀{p:List StT}{v x:V},(v.set p x).2≠0→(v.set p x).1=.nil
  |[],v,x,h=>absurd rfl h
  |[s],v,x,h=>by
    change(v.put s x).2≠0 at h
    show(v.put s x).1=.nil
    unfold V.put at h⊢
    split
    ·rename_i h0;rw[if_pos h0]at h;exact absurd rfl h
    ·rename_i h0
      rw[if_neg h0]at h
      split
      ·rename_i h1;rw[if_pos h1]at h;exact absurd rfl h
      ·rfl
  |s::t::r,v,x,h=>by
    unfold V.set at h⊢
    split
    ·rfl
    ·rename_i h0
      rw[if_neg h0]at h
      split
      ·rfl
      ·rename_i h1;rw[if_neg h1]at h;exact absurd rfl h
theorem F6(f:V→V)(u:V)(i:Nat)(w:V×Int):LM f(if w.2≠0 then(.nil,w.2)else(u.setAt i w.1,0))=LM(fun z=>f(u.setAt i z))w:=by
  unfold LM
  by_cases h:w.2=0
  ·simp[h]
  ·simp[h]
theorem FM {v x w:V}{p:List StT}{e:Int}(hv:v.err=0)(hx:x.err=0)(h:v.set p x=(w,e))(he:e≠0):v.setv p x=(.nil,e):=by rw[V.setv,if_neg(by simp[hv]),if_neg(by simp[hx]),h,if_pos he]
theorem FN {v x w:V}{p:List StT}(hv:v.err=0)(hx:x.err=0)(h:v.set p x=(w,0))(he:w.err≠0):v.setv p x=(.nil,w.err):=by rw[V.setv,if_neg(by simp[hv]),if_neg(by simp[hx]),h,if_neg(by simp),if_pos he]
theorem Se {v x w:V}{p:List StT}(hv:v.err=0)(hx:x.err=0)(h:v.set p x=(w,0))(he:w.err=0):v.setv p x=(w,0):=by rw[V.setv,if_neg(by simp[hv]),if_neg(by simp[hx]),h,if_neg(by simp),if_neg(by simp[he])]
def FQ(v:V)(p:List StT)(x:V):AV:=.tup [.agg((v.setv p x).1.cs true),.c(.int .i64(v.setv p x).2)]
theorem GO {v u x:V}{p:List StT}{e:Int}(h:v.setv p x=(u,e)):FQ v p x=.tup [.agg(u.cs true),.c(.int .i64 e)]:=by rw[FQ,h]
theorem Tc(v:V)(s:StT):TS(EW v s):=.tup(FlL.cons(.c _)(FlL.cons(.c _) .nil))
theorem D3(a b c d:Own)(l:List Own):Reown(a::b::c::d::l)(b::c::d::a::l):=.perm(List.perm_middle(l₁:=[b,c,d])).symm
theorem Reown.step {cur ok bx ctx kids ok3 oi3 ob oa:Own}(h:Reown [kids] [ok3,oi3,ob,oa]):Reown [cur,ok,bx,ctx,kids] [bx,ok3,oi3,.grp [cur,ok,ob,oa,ctx]]:=by
  refine(Reown.left(c:=[cur,ok,bx,ctx])h).trans⟨fun y=>by simp only[QV,UU,XB,List.count_append,List.count_nil,List.cons_append,List.nil_append];omega,fun w A h=>?_⟩
  simp only[List.forall_mem_cons,List.cons_append,List.nil_append,Xg,List.not_mem_nil,false_implies,implies_true,and_true]at h⊢
  obtain⟨q1,q2,q3,q4,q5,q6,q7,q8⟩:=h
  exact⟨q3,q5,q6,q1,q2,q7,q8,q4⟩
theorem Reown.fin {cur ok oi ctx okx oix:Own}{l:List Own}(h:Reown [cur,okx,oix,ctx]l):Reown [cur,ok,oi,ctx,okx,oix]l:=by
  refine Reown.trans⟨fun y=>by simp only[QV,UU,List.count_append,List.count_nil];omega,fun w A h=>?_⟩h
  simp only[List.forall_mem_cons,List.not_mem_nil,false_implies,implies_true,and_true]at h⊢
  exact⟨h.1,h.2.2.2.2.1,h.2.2.2.2.2,h.2.2.2.1⟩
theorem So {fr:Bool}{v x:V}{j:Nat}(h:j<2):((v.cs fr++x.cs fr).drop(j*5)).take 5=(if j=0 then v else x).cs fr:=by
  have h1:=V.cs_length fr v
  have h2:=V.cs_length fr x
  rcases Nat.lt_or_ge j 1 with h0|h0
  ·obtain rfl:j=0:=by omega
    rw[Nat.zero_mul,List.drop_zero,List.take_left' h1];rfl
  ·obtain rfl:j=1:=by omega
    rw[Nat.one_mul,List.drop_left' h1,List.take_of_length_le(by omega)];rfl
theorem PH {cs:List(List AV)}{sp:List Value}{i:Nat}{c:List AV}(h:cs[i]? =some c):cs.flatten++sp.map AV.c=(cs.take i).flatten++c++((cs.drop(i+1)).flatten++sp.map AV.c):=by
  obtain⟨hi,rfl⟩:=List.getElem?_eq_some_iff.1 h
  have h2:=congrArg List.flatten(show cs=cs.take i++cs[i]::cs.drop(i+1)by rw[← List.drop_eq_getElem_cons hi,List.take_append_drop])
  rw[List.flatten_append,List.flatten_cons]at h2
  rw[h2]
  simp only[List.append_assoc]
theorem T6 {fr fr2 c2:Bool}{v x:V}{p:List StT}{ys zs:List AV}(hv:Vc fr v ys)(hx:Vc fr x zs)(hw:v.wf)(hxw:x.wf)(hp:p.length*32≤Qu∧∀s∈p,s.wf):Fn Tryz.prog 64 [.agg ys,.sl fr2 c2 eSt(StT.css p),.agg zs](FQ v p x):=by
  obtain⟨hp80,hpw⟩:=hp
  have hpl:p.length≤4398046511104:=by unfold Qu at hp80;omega
  subst hv hx
  refine AC.of_J Tryz.func64 rfl Tryz.ntmps64 rfl fun w0 A0=>?_
  refine Zs(Qp(.tmp rfl)rfl fun b3=>Qp(.tmp rfl)rfl fun b5=>JL.alloc WV rfl rfl fun b6=>Zq rfl(QW.assign .const)(Zn(J.seq(Zs(Zq rfl(Qf 2 Qj(.tmp rfl)rfl(Qm vl rfl)vl)(Zq rfl(Qf 1 Qj(.tmp rfl)rfl(Qm vl rfl)vl) ?_))))))
  refine Zq rfl(Ft(idx:=[0,1])(sz:=5)(by kernel_rfl)z142 rfl(.cons(.tmp rfl)(.cons(.tmp rfl) .nil))rfl rfl rfl(Pk(z0:=SA)(z1:=SA)rfl rfl(by exact vl)(by exact vl))) ?_
  refine Zq rfl(QW.move .const)(Zn(J.block(Q0(ι:=Nat) [1,3,5,6,20](fun j=>[(21,.c(.int .i64(j:Int)))])(fun _ oo=>oo)(fun j=>j≤2∧(0<j→v.err=0)∧(1<j→x.err=0))(fun j=>2-j) 0(⟨by decide,fun h=>absurd h(by decide),fun h=>absurd h(by decide)⟩)(QK(.cons rfl lr(.cons rfl lr(.cons rfl lr(.cons rfl lr(.cons rfl lr(.cons rfl lr .nil))))))(Reown.refl _)(fun _ h=>by first|exact h|simp[h])) ?_)))
  intro j⟨hj2,he1,he2⟩
  refine J.conv(by(try simp only[nl,Qk,Qz,QA,Qy,QR,AV.cellsOf,Qd,Qe,Nat.reduceAdd]);rfl) ?_
  refine Zs(Zq rfl(QW.lss(.tmp rfl) .const)(Zn(J.seq ?_)))
  refine J.cond(.tmp rfl)(fun c1=>?_)(fun c1=>?_)
  ·skip
    have hj1:j<2:=by(simp at c1;omega)
    have hwj:(if j=0 then v else x).wf:=by split<;>assumption
    refine Zk(J.seq(J.block(Zs(Zq rfl(Fs(zs:=(if j=0 then v else x).cs fr)(ln:=2)(et:=26)(by kernel_rfl)Qj(.tmp rfl)(.tmp rfl)rfl(by omega)(So hj1)vl) ?_))))
    refine JL.alloc WV rfl rfl fun b9=>Qc 0 Qj(.tmp rfl)rfl(.tmp rfl)rfl vl rfl rfl(Zn(Zs(Zq rfl(Qf 0 Qj(.tmp rfl)rfl(Qm vl rfl)vl)(Zq rfl(QW.call XA(.cons(.tmp rfl) .nil)(W9 Vc.self hwj))(Zq rfl(QW.assign(.tmp rfl))(Zn(Zs(Zq rfl(QW.move(.tmp rfl)) ?_))))))))
    refine Zq rfl(QW.neq(.tmp rfl) .const)(Zn ?_)
    refine J.cond(.tmp rfl)(fun c2=>?_)(fun c2=>?_)
    ·skip
      simp at c2
      have hbad:v.setv p x=(.nil,(if j=0 then v else x).err):=by
        by_cases h0:j=0
        ·rw[if_pos h0]at c2⊢
          rw[V.setv,if_pos c2]
        ·rw[if_neg h0]at c2⊢
          rw[V.setv,if_neg(by simp[he1(by omega)]),if_pos c2]
      refine Zs(Zq rfl(QW.build(idx:=[])Xx WV rfl .nil rfl rfl rfl rfl)(Zq rfl(QW.move(.tmp rfl))(Qc 1 Qj(.tmp rfl)rfl(.tmp rfl)rfl rfl rfl rfl(Zq rfl(QW.assign(.tmp rfl))(Zn(J.ret(blkQ.r(thenQ.r(thenQ.r ?_)))))))))
      exact blkQ.r(thenQ.r(Zr [.k,.k,.k,.k](QB rfl(REv.cell 1 Qj rfl rfl rfl rfl(.aggL(.cons lr(.cons lr(.cons lr(.cons(.nil true false _)(.cons(.nil true false _) .nil)))))))(REv.tmp rfl lr))rfl⟨congrArg W5.ret(GO hbad).symm,rfl⟩))
    simp at c2
    have he1b:v.err=0:=by
      by_cases h0:j=0
      ·rw[if_pos h0]at c2;exact c2
      ·exact he1(by omega)
    have he2b:1<j+1→x.err=0:=fun h=>by
      rw[if_neg(by omega)]at c2;exact c2
    refine J.skip(blkQ.n(thenQ.n(Qg(Zq rfl(QW.add(.tmp rfl) .const(W0(by omega)))(Zq rfl(QW.move(.tmp rfl))(Zn ?_))))))
    exact⟨j+1,⟨by omega,fun _=>he1b,he2b⟩,by omega,QK(.cons rfl lr(.cons rfl lr(.cons rfl lr(.cons rfl lr(.cons rfl lr(.cons rfl lr .nil))))))(Q9 1 _ rfl)(fun _ h=>by first|exact h|simp[h])⟩
  obtain rfl:j=2:=by(simp at c1;omega)
  have hv0:=he1(by decide)
  have hx0:=he2(by decide)
  have hfv:=V.fine_of hv0
  refine J.exit(Qv(Qv(QM(thenQ.n(Zs(Zq rfl(Qf 2 Qj(.tmp rfl)rfl(Qm vl rfl)vl)(JL.callRF []Gy rfl Lent.nil(fun _=>(.cons(.tmp rfl) .nil))(Mh Vc.self hw)(.inl rfl)fun x32 o32 h32=>?_)))))))
  obtain⟨kv32,iv32,ok32,oi32,rfl,rfl,hV32⟩:=h32
  refine JL.alloc WV rfl rfl fun b11=>Qc 0 Qj(.tmp rfl)rfl(.tmp rfl)rfl rfl rfl rfl(Zn(Zs(Zq rfl(QW.assign(.tmp rfl))(Zn(J.seq(Zs(Zq rfl(QW.move(.tmp rfl))(Zq rfl(Qh NM(.tmp rfl)(StT.css_length _)) ?_))))))))
  refine Zq rfl(QW.move .const)(Zn(J.block(J.reown((D3 _ _ _ _ _).trans(YF _))(Q0(ι:=Nat×At) [1,5,6,11,33,34](fun⟨j,z⟩=>[(35,.c(.int .i64(j:Int))),(12,.c(.pointer(some⟨z.b,z.off,none⟩)))])(fun⟨j,z⟩oo=>List.set(List.set(List.set(List.set oo 3(.box z.b(Yo z z.u z.kv z.iv))) 4(z.ok)) 5(z.oi)) 6(z.ctx))(fun⟨j,z⟩=>j≤p.length∧z.Ok b11∧v.set p x=LM z.plug(z.u.set(p.drop j)x))(fun⟨j,z⟩=>p.length-j)⟨0,⟨b11,0,[],[],v,kv32,iv32,ok32,oi32,.grp [],id⟩⟩(⟨Nat.zero_le _,⟨rfl,hV32,PX b11,hfv,hw⟩,(F7 _ Fk).symm⟩)(QK(.cons rfl lr(.cons rfl lr(.cons rfl lr(.cons rfl lr(.cons rfl lr(.cons rfl lr(.cons rfl lr(.cons rfl lr .nil))))))))(Reown.ofEq rfl)(fun _ h=>by first|exact h|simp[h])) ?_))))
  intro⟨j,z⟩⟨hj,hz,hset⟩
  refine J.conv(by(try simp only[nl,Qk,Qz,QA,Qy,QR,AV.cellsOf,Qd,Qe,Nat.reduceAdd]);rfl) ?_
  refine Zs(Zq rfl(QW.lss(.tmp rfl)(.tmp rfl))(Zn(J.seq ?_)))
  refine J.cond(.tmp rfl)(fun c2=>?_)(fun c2=>?_)
  ·skip
    have hlt:j<p.length:=by simpa using c2
    have hsw:=hpw _(List.getElem_mem hlt)
    refine Zk(J.seq(J.block(Zs(Zq rfl(QW.move(.tmp rfl))(Zq rfl(Qi NM ME rfl(.tmp rfl)(.tmp rfl)rfl(by exact StT.css_getE hlt)) ?_)))))
    refine Zq rfl(Ql ME(.tmp rfl)rfl rfl)(JL.alloc FA rfl rfl fun b14=>Zq rfl(QW.assign(.tmp rfl))(Qc 0 ME(.tmp rfl)rfl(.tmp rfl)rfl rfl rfl rfl(Zn(J.seq(QY 9 Ud(by kernel_rfl)(by kernel_rfl)(by kernel_rfl)rfl ?_)))))
    refine .cons []rfl rfl rfl(.q rfl(QW.move(.tmp rfl))) ?_
    refine .cons [41]rfl rfl rfl(.q rfl(QG(.tmp rfl))) ?_
    refine .cons [42]rfl rfl rfl(.q rfl(Qf 4 Qj(.tmp rfl)rfl(CV hz.off)rfl)) ?_
    refine .cons []rfl rfl rfl(.q rfl(Qf 0 ME(.tmp rfl)rfl rfl rfl)) ?_
    refine .cons [43,44]rfl rfl rfl(.q rfl(NA [.k,.k,.k,.k,.k,.l,.l]B0(Lent.cons(hz.tr.lentK)(Lent.cons(hz.tr.lentI)Lent.nil))rfl rfl(fun _=>(.cons(Ev.le(.tmp rfl)(V.raw_le(by simp)(by simp)))(.cons(.tmp rfl) .nil)))(EY(fr:=false)(v:=z.u)(s:=p[j]'hlt)Vc.self Sc.self hz.fine.part(hpw _(List.getElem_mem hlt)))(Tc _ _))) ?_
    refine .cons [45]rfl rfl rfl(.q rfl(QW.move(.tmp rfl))) ?_
    refine .cons [40]rfl rfl rfl(.q rfl(QW.extract(.tmp rfl)rfl)) ?_
    refine .cons [40]rfl rfl rfl(.q rfl(QW.extract(.tmp rfl)rfl)) ?_
    refine .cons [46]rfl rfl rfl(.q rfl(QW.assign(.tmp rfl))) ?_
    refine .nil ?_
    refine Zq rfl(QW.assign(.tmp rfl))(Zn(Rw(ι:=V×Nat×Int×Value×Value×Own×Own) [1,5,6,11,12,13,14,33,34,35,36,37,38,39,40,41,42,43,44,45,46,47](fun⟨u2,i2,e2,kv2,iv2,ok2,oi2⟩=>[(15,.c(.int .i64(i2:Int))),(16,.c(.int .i64 e2))])(fun⟨u2,i2,e2,kv2,iv2,ok2,oi2⟩oo=>List.set(List.set(List.set oo 4(.box z.b(Yo z u2 kv2 iv2))) 5(ok2)) 6(oi2))(fun⟨u2,i2,e2,kv2,iv2,ok2,oi2⟩=>z.u.stp(p[j]'hlt)(decide(p.drop(j+1)=[]))=(u2,i2,e2)∧VTr u2 kv2 iv2 ok2 oi2) ?_ ?_))
    ·skip
      refine Zs(Zq rfl(QW.move(.tmp rfl))(Zq rfl(QW.neq(.tmp rfl) .const)(Zq rfl(QW.move(.tmp rfl))(Zg rfl(fun hg=>(QW.move(.tmp rfl)))(Zg rfl(fun hg=>(QW.move(.tmp rfl)))(Zg rfl(fun hg=>(Qh NM(.when rfl hg)(StT.css_length _)))(Zg rfl(fun hg=>(QW.sub(.when rfl hg) .const(W0(by omega))))(Zg rfl(fun hg=>(QW.eql(.when rfl hg)(.when rfl hg)))(Zq rfl(QW.pick_and(.tmp rfl)(.tmp rfl)) ?_)))))))))
      refine Zn ?_
      refine J.cond(.tmp rfl)(fun c3=>?_)(fun c3=>?_)
      ·skip
        have he0:(z.u.fnd(p[j]'hlt)).2≠0:=by(simp at c3;exact c3.1)
        have hlast:p.drop(j+1)=[]:=by(simp at c3;exact List.drop_of_length_le(by omega))
        refine Qg(Zq rfl(QW.move(.tmp rfl))(Zq rfl(Qf 0 ME(.tmp rfl)rfl rfl rfl)(Zq rfl(QW.move(.tmp rfl))(Zq rfl(QW.move(.tmp rfl))(JL.callRF [.k,.k,.k,.k,.p,.p,.p]gofn77 rfl Lent.nil(fun _=>(.cons(.tmp rfl)(.cons(.tmp rfl)(.cons(.tmp rfl)(.cons(.tmp rfl) .nil)))))(SJ(z:=z)(s:=p[j]'hlt)(i:=(z.u.fnd(p[j]'hlt)).1)(e:=(z.u.fnd(p[j]'hlt)).2)Sc.self hz.off hz.tr hz.fine.part hz.wf(hpw _(List.getElem_mem hlt))rfl he0)(.inl rfl)fun x62 o62 h62=>?_)))))
        obtain⟨kv62,iv62,ok62,oi62,rfl,rfl,hV62⟩:=h62
        refine Zq rfl(QW.move(.tmp rfl))(Zq rfl(QW.extract(.tmp rfl)rfl)(Zq rfl(QW.extract(.tmp rfl)rfl)(Zq rfl(QW.assign(.tmp rfl))(Zq rfl(QW.assign(.tmp rfl))(Zn ?_)))))
        exact⟨⟨_,_,_,kv62,iv62,ok62,oi62⟩,⟨by rw[hlast];rfl,hV62⟩,QK(.cons rfl lr(.cons rfl lr(.cons rfl lr(.cons rfl lr(.cons rfl lr(.cons rfl lr(.cons rfl lr(.cons rfl lr(.cons rfl lr(.cons rfl lr(.cons rfl lr(.cons rfl lr(.cons rfl lr(.cons rfl lr(.cons rfl lr(.cons rfl lr(.cons rfl lr(.cons rfl lr(.cons rfl lr(.cons rfl lr(.cons rfl lr(.cons rfl lr(.cons rfl lr(.cons rfl lr .nil))))))))))))))))))))))))(Reown.refl _)(fun _ h=>by first|exact h|simp[h])⟩
      have hno:(z.u.fnd(p[j]'hlt)).2=0∨p.drop(j+1)≠[]:=by
        simp at c3
        by_cases h0:(z.u.fnd(p[j]'hlt)).2=0
        ·exact .inl h0
        ·refine .inr fun hd=>?_
          have:=c3 h0
          rw[List.drop_eq_nil_iff]at hd
          omega
      refine Zk ?_
      exact⟨⟨z.u,(z.u.fnd(p[j]'hlt)).1,(z.u.fnd(p[j]'hlt)).2,z.kv,z.iv,z.ok,z.oi⟩,⟨by unfold V.stp;by_cases h0:(z.u.fnd(p[j]'hlt)).2=0;(rw[if_pos h0,h0]);(rw[if_neg h0,if_neg(by simpa using hno.resolve_left h0)]),hz.tr⟩,QK(.cons rfl lr(.cons rfl lr(.cons rfl lr(.cons rfl lr(.cons rfl lr(.cons rfl lr(.cons rfl lr(.cons rfl lr(.cons rfl lr(.cons rfl lr(.cons rfl lr(.cons rfl lr(.cons rfl lr(.cons rfl lr(.cons rfl lr(.cons rfl lr(.cons rfl lr(.cons rfl lr(.cons rfl lr(.cons rfl lr(.cons rfl lr(.cons rfl lr(.cons rfl lr(.cons rfl lr .nil))))))))))))))))))))))))(Reown.refl _)(fun _ h=>by first|exact h|simp[h])⟩
    ·intro⟨u2,i2,e2,kv2,iv2,ok2,oi2⟩⟨hst,hV2⟩
      refine J.conv(by(try simp only[nl,Qk,Qz,QA,Qy,QR,AV.cellsOf,Qd,Qe,Nat.reduceAdd]);rfl) ?_
      refine J.seq(Zs(Zq rfl(QW.move(.tmp rfl))(Zq rfl(QW.neq(.tmp rfl) .const)(Zn ?_))))
      refine J.cond(.tmp rfl)(fun c3=>?_)(fun c3=>?_)
      ·skip
        have he2:e2≠0:=by simpa using c3
        refine Zs(Zq rfl(QW.build(idx:=[])Xx WV rfl .nil rfl rfl rfl rfl)(Zq rfl(QW.move(.tmp rfl))(Qc 1 Qj(.tmp rfl)rfl(.tmp rfl)rfl rfl rfl rfl(Zq rfl(QW.assign(.tmp rfl))(Zn(J.ret(thenQ.r(blkQ.r(thenQ.r ?_)))))))))
        exact thenQ.r(blkQ.r(thenQ.r(Zr [.k,.k,.k,.k,.k,.k,.k,.k](QB rfl(REv.cell 1 Qj rfl rfl rfl rfl(.aggL(.cons lr(.cons lr(.cons lr(.cons(.nil true false _)(.cons(.nil true false _) .nil)))))))(REv.tmp rfl lr))rfl⟨congrArg W5.ret(GO(FM hv0 hx0(e:=e2)(w:=.nil)(by rw[hset,Lq hlt,PM hst he2];simp[LM,he2])he2)).symm,rfl⟩)))
      obtain rfl:e2=0:=by simpa using c3
      obtain⟨hlt2,huw2,hfk,hset3⟩:=Fi(x:=x)hz.fine hz.wf hsw hst
      refine Zk ?_
      obtain⟨ci,ui,o2,q1,q2,q3,q4,q5,q6⟩:=hV2.is.inv
      rw[V.css_length]at q2
      refine J.reown(Rr(i:=6)rfl q6)(J.lay 6 rfl(fun a0 hv hx=>absurd hlt2(by rw[← q2,hx];simp))fun b2 cap sp hiv hcap hsz5 hfl=>?_)
      subst hiv
      refine Qg(Zq rfl(QW.move(.tmp rfl))(Zq rfl(QG(.tmp rfl))(Zq rfl(Qa Ue(.tmp rfl)rfl)(Zq rfl(Qb 4 U6(.tmp rfl)rfl((KY hz.off 4(by decide)).trans rfl)) ?_))))
      refine Zq rfl(QW.move(.tmp rfl))(Zq rfl(D7(m:=i2)QO Qj(.tmp rfl)(.tmp rfl)rfl(by omega))(Zq rfl(QW.assign(.tmp rfl))(JL.nil(blkQ.n(thenQ.n ?_)))))
      obtain⟨kv3,iv3,ok3,oi3,ob,oa,u1,u3,e1,e3,e4,e5,e6,e7,e8,e9,e10⟩:=SD hlt2 q2 q3 q1 q4 q5
      refine J.reown(Reown.cons(Reown.cons(Reown.cons(Reown.cons(Reown.step e10)))))(Qg(Zq rfl(QW.add(.tmp rfl) .const(W0(by omega)))(Zq rfl(QW.move(.tmp rfl))(Zn ?_))))
      exact⟨⟨j+1,⟨b2,0+i2*5,(ci.take i2).flatten,(ci.drop(i2+1)).flatten++sp.map AV.c,u2.items[i2],kv3,iv3,ok3,oi3,.grp [.box z.b(Yo z u2 kv2(sv b2 0 ci.length(cap+1))),ok2,ob,oa,z.ctx],fun w=>z.plug(u2.setAt i2 w)⟩⟩,⟨hlt,⟨by rw[QP(sz:=5)_(fun x hx=>q3 x(List.mem_of_mem_take hx)),List.length_take,Nat.min_eq_left(by omega)];exact(Nat.zero_add _).symm,e3,hz.law.into huw2 hV2.k1 hV2.i1 hV2.ks hlt2 q2 q3 rfl hcap hfl e4 e5 e6 e7 e8 e9,hfk,huw2.kid(List.getElem_mem hlt2)⟩,by rw[hset,Lq hlt,hset3,F6]⟩,by show p.length-(j+1)<p.length-j;omega,QK(.cons rfl lr(.cons rfl lr(.cons rfl lr(.cons rfl lr(.cons rfl lr(.cons rfl lr(.cons rfl lr(.cons rfl lr .nil))))))))((Q9 1 _ rfl).trans(Reown.ofEq(by show [_,_,_,Own.box b2 _,_,_,_]=[_,_,_,Own.box b2 _,_,_,_];rw[PH e1];rfl)))(fun _ h=>by first|exact h|simp[h])⟩
  have hge:p.length≤j:=by simpa using c2
  rw[List.drop_of_length_le hge]at hset
  have hset2:v.set p x=(z.plug x,0):=hset
  have hww:(z.plug x).wf:=by have:=Mk hw hfv hpw hxw;rwa [hset2]at this
  refine J.exit(Qv(Qv(QM(thenQ.n(Zs(Zq rfl(QW.move(.tmp rfl))(Zq rfl(Qf 1 Qj(.tmp rfl)rfl(Qm vl rfl)vl)(JL.callRF []Gy rfl Lent.nil(fun _=>(.cons(.tmp rfl) .nil))(Mh Vc.self hxw)(.inl rfl)fun x78 o78 h78=>?_))))))))
  obtain⟨kv78,iv78,ok78,oi78,rfl,rfl,hV78⟩:=h78
  refine Zq rfl(QG(.tmp rfl))(JL.store_box 3 Qj(.tmp rfl)rfl(.tmp rfl)rfl rfl(by rw[LW _ _ _ _ hz.off];exact Nat.ble_eq_true_of_le(by omega))(BI hz.off)rfl ?_)
  refine Zn(J.seq(J.seq ?_))
  obtain⟨kw,iw,okw,oiw,hW,hR⟩:=hz.law x kv78 iv78 ok78 oi78 hxw hV78
  refine J.reown(Reown.cons(Reown.cons(Reown.cons(Reown.fin hR))))(Qg(Zq rfl(Qf 3 Qj(.tmp rfl)rfl rfl rfl)(Zq rfl(NA [.k,.k,.k,.k,.l,.l]XA(Lent.cons(hW.lentK)(Lent.cons(hW.lentI)Lent.nil))rfl rfl(fun _=>(.cons(Ev.le(.tmp rfl)(V.raw_le(by simp)(by simp))) .nil))(W9(fr:=false)(v:=z.plug x)Vc.self hww)(Fl.c _)) ?_)))
  refine Zq rfl(QW.assign(.tmp rfl))(Zn(Zs(Zq rfl(QW.move(.tmp rfl))(Zq rfl(QW.neq(.tmp rfl) .const)(Zn ?_)))))
  refine J.cond(.tmp rfl)(fun c3=>?_)(fun c3=>?_)
  ·skip
    have hbd:(z.plug x).err≠0:=by simpa using c3
    exact Zs(Zq rfl(QW.build(idx:=[])Xx WV rfl .nil rfl rfl rfl rfl)(Zq rfl(QW.move(.tmp rfl))(Qc 0 Qj(.tmp rfl)rfl(.tmp rfl)rfl rfl rfl rfl(Zq rfl(QW.assign(.tmp rfl))(Zn(J.ret(thenQ.r(Zr [.k,.k,.k,.k,.k,.k](QB rfl(REv.cell 0 Qj rfl rfl rfl rfl(.aggL(.cons lr(.cons lr(.cons lr(.cons(.nil true false _)(.cons(.nil true false _) .nil)))))))(REv.tmp rfl lr))rfl⟨congrArg W5.ret(GO(FN hv0 hx0 hset2 hbd)).symm,rfl⟩))))))))
  have hgd:(z.plug x).err=0:=by simpa using c3
  refine Zk(J.seq(J.close 4 rfl hW.ks.clos rfl(fun _ h=>by cases h) ?_))
  refine J.close 4 rfl hW.is.clos rfl(fun _ h=>by cases h) ?_
  exact Qg(Zq rfl(Qf 3 Qj(.tmp rfl)rfl rfl rfl)(Qc 0 Qj(.tmp rfl)rfl(.tmp rfl)rfl rfl rfl rfl(Zq rfl(QW.assign .const)(Zn(J.ret(Zr [.k,.k,.k,.k](QB rfl(REv.cell 0 Qj rfl rfl rfl rfl(V.raw_le(by simp)(by simp)))(REv.tmp rfl lr))rfl⟨congrArg W5.ret(GO(Se hv0 hx0 hset2 hgd)).symm,rfl⟩))))))

end
section
/- Walks: operations of lists and records. -/
set_option maxRecDepth 10000
set_option maxHeartbeats 4000000
def XN {α:Type}:Except Int α→Int
  |.ok _=>0
  |.error c=>c
def PlR(r:Except Int V):W5→List Own→Prop:=PanR(XN r=0)(YV(XN r))fun x o=>∃v,r=.ok v∧x=.agg(v.cs false)∧o=[]
theorem PlR.ok {r:Except Int V}{v:V}(h:r=.ok v):PlR r(.ret(.agg(v.cs false))) []:=.inl⟨by rw[h];rfl,_,rfl,v,h,rfl,rfl⟩
theorem PlR.er {r:Except Int V}{c:Int}(h:r=.error c)(hc:¬c=0):PlR r(.pan(.iface 33(.int .i64 c))) []:=.inr⟨by rw[h];exact hc,by rw[h];rfl,rfl⟩
theorem Xu {l:List V}(h:l.length=2):∃a b,l=[a,b]:=by
  match l,h with
  |[a,b],_=>exact⟨a,b,rfl⟩
theorem LO {l:List V}(h:l.length=1):∃a,l=[a]:=by
  match l,h with
  |[a],_=>exact⟨a,rfl⟩
theorem Gm {v:V}(h:Uc v=true):v.text.length≤128:=by
  obtain⟨k,b,t,ks,is⟩:=v
  show t.length≤128
  unfold Uc at h
  have hz:t=[]→t.length≤128:=fun h=>by subst h;simp
  by_cases h3:k=3
  ·subst h3;simp at h;omega
  ·refine hz ?_
    simp only[h3,if_false]at h
    repeat' split at h
    all_goals simp at h
    all_goals simp[h]
theorem li_wf {l:List V}(hl:∀x∈l,x.good)(hn:l.length≤8):(V.li l).wf:=.mk(by decide)(by decide)(by decide)(by decide)(by unfold Qu;omega)(fun _ h=>by cases h)(fun x hx=>(hl x hx).wf)
theorem pe8(t:Uj)(a:V):US 8 t [a]=K9 a⟨true,t,0⟩:=rfl
theorem pe9(t:Uj)(a b:V):US 9 t [a,b]=if a.kind≠4∨b.kind≠2 then .error 81 else if XK b.bits≠0 then .error 82 else K9 a⟨false,[],Xz b.bits⟩:=rfl
theorem pe10(t:Uj)(a:V):US 10 t [a]=if a.kind<3 then .error 81 else .ok(.nu(Sz((a.text.length:Int)+(a.items.length:Int)))):=rfl
theorem pe23(t:Uj)(l:List V):US 23 t l=Gf(.li l):=rfl
theorem pe24(t:Uj)(a b:V):US 24 t [a,b]=if a.kind≠4 then .error 81 else NO a⟨false,[],a.items.length⟩b:=rfl
theorem pe25(t:Uj)(a b:V):US 25 t [a,b]=if a.kind≠5 then .error 81 else NO a⟨true,t,0⟩b:=rfl
theorem EO {v:V}{s:StT}(h:(v.getv [s]).2=0):K9 v s=.ok(v.getv [s]).1:=if_pos h
theorem EQ {v:V}{s:StT}(h:¬(v.getv [s]).2=0):K9 v s=.error(v.getv [s]).2:=if_neg h
theorem Lb {v x:V}{s:StT}(h:(v.setv [s]x).2=0):NO v s x=.ok(v.setv [s]x).1:=if_pos h
theorem Ej {v x:V}{s:StT}(h:¬(v.setv [s]x).2=0):NO v s x=.error 84:=if_neg h
theorem NJ {s:StT}(h:s.wf):[s].length*32≤Qu∧∀x∈[s],x.wf:=⟨by unfold Qu;simp,fun x hx=>by rw[List.mem_singleton.1 hx];exact h⟩
theorem Kh {F:List(Value×AV)}(v:V):Le F(.agg(v.cs true))(.agg(v.cs false)):=.aggL(V.cs_le true false(fun h=>by cases h)v)
theorem By {fr:Bool}{o:Int}{bb:Nat}{t:Uj}{args:List EX}{l:List V}{ys:List AV}(he:Xc fr(.mk o bb t args)ys)(ht:t.length≤Qu)(hl:∀x∈l,x.good)(hn:l.length≤8∧(o=23∨((o=8∨o=10)∧l.length=1)∨((o=9∨o=24∨o=25)∧l.length=2))):
    AC Tryz.prog 116 [] [.agg ys,.sl false false eV(V.css false l)](PlR(US o t l)):=by
  subst he
  obtain⟨hn8,hn⟩:=hn
  refine AC.of_J Tryz.func116 rfl Tryz.ntmps116 rfl fun w0 A0=>?_
  refine Zs(Qp(.tmp rfl)rfl fun b2=>JL.alloc WV rfl rfl fun b4=>Zn(J.seq(Zs(Zq rfl(Qa YU(.tmp rfl)rfl)(Zq rfl(Qb 1 UR(.tmp rfl)rfl rfl)(Zn(J.block ?_)))))))
  refine Zs(Zq rfl(QW.eql(.tmp rfl) .const)(Zq rfl(QW.assign(.tmp rfl))(Zn ?_)))
  refine J.cond(.tmp rfl)(fun c1=>?_)(fun c1=>?_)
  ·skip
    obtain rfl:o=8:=by simpa using c1
    obtain⟨a,rfl⟩:=LO(l:=l)(by omega)
    have ha:=hl a(by simp)
    refine J.seq(QU Ud(Zf 0 []rfl(fun _=>QW.move(.tmp rfl))(Zf 1 [17]rfl(fun _=>Qi QO Qj rfl(.tmp rfl) .const rfl rfl)(Zf 2 [18]rfl(fun _=>Ql Qj(.tmp rfl)(QH vl rfl)vl)(Zf 3 []rfl(fun _=>Qa N9(.tmp rfl)rfl)(Zo 4 1 [20]rfl(fun _ ho_=>Qb 1 Wc(.tmp rfl)ho_ rfl)(Zf 5 [21]rfl(fun _=>QW.build(idx:=[0,1])Ba FA rfl(.cons .const(.cons(.tmp rfl) .nil))rfl rfl rfl rfl)(JX.one 6 [true,true,true,true,true,true]rfl(by kernel_rfl)(by kernel_rfl)rfl rfl(by kernel_rfl)rfl fun bs6_ pe_ ex_=>?_))))))))
    refine JL.conv(by(try simp only[Ub,Uk,Q5,QS,Flt.val,Flt.bx,nx,nl,Qk,Qz,QA,Qy,QR,AV.cellsOf,Qd,Qe,Nat.reduceAdd]);rfl) ?_
    refine Qs []EK rfl Lent.nil(fun _=>(.cons(.tmp rfl)(.cons(.tmp rfl) .nil)))(E6(v:=a)(s:=⟨true,t,0⟩)Vc.self ha.wf⟨ht,show(-9223372036854775808:Int)≤0∧(0:Int)≤9223372036854775807 by decide⟩)(.inl rfl)(fun k23 x23 o23 h23=>?_)(fun k23=>?_)
    rotate_left
    ·skip
      refine thenQ.p(thenQ.p(blkQ.p(thenQ.p ?_)))
      exact⟨_,QN [.k,.k]_,_,rfl,rfl,Qn [.k,.k]_,PlR.er((pe8 t a).trans(EQ k23))k23⟩
    obtain⟨rfl,rfl⟩:=h23
    refine JL.nil ?_
    refine thenQ.n⟨[_],_,rfl,rfl,rfl,rfl,rfl,Wt 2 rfl rfl,⟨rfl,rfl⟩,trivial,?_⟩
    refine JX.conv(S':=[6,5,4,3,2,1,0])rfl(by(try simp only[QS]);rfl)(by(try simp only[Ub,Uk,Q5,QS,Flt.val,Flt.bx,nx,nl,Qk,Qz,QA,Qy,QR,AV.cellsOf,Qd,Qe,Nat.reduceAdd]);rfl) ?_
    refine JX.one 7 []rfl(by kernel_rfl)(by kernel_rfl)rfl rfl(by kernel_rfl)rfl fun bs7_ pe_ ex_=>?_
    refine JL.conv(by(try simp only[Ub,Uk,Q5,QS,Flt.val,Flt.bx,nx,nl,Qk,Qz,QA,Qy,QR,AV.cellsOf,Qd,Qe,Nat.reduceAdd]);rfl) ?_
    refine Qc 0 Qj(.tmp rfl)rfl(.tmp rfl)rfl vl rfl rfl(JL.nil ?_)
    refine thenQ.n⟨[],_,rfl,rfl,rfl,rfl,rfl,QJ 2 rfl,trivial,trivial,?_⟩
    refine JX.conv(S':=[7,6,5,4,3,2,1,0])rfl(by(try simp only[QS]);rfl)(by(try simp only[Ub,Uk,Q5,QS,Flt.val,Flt.bx,nx,nl,Qk,Qz,QA,Qy,QR,AV.cellsOf,Qd,Qe,Nat.reduceAdd]);rfl) ?_
    refine JX.fin(by kernel_rfl)(by kernel_rfl)fun bs_=>?_
    refine QX.conv(by(try simp only[Ub,Uk,Q5,QS,Flt.val,Flt.bx,nx,nl,Qk,Qz,QA,Qy,QR,AV.cellsOf,Qd,Qe,Nat.reduceAdd]);rfl) ?_
    exact thenQ.n(J.ret(blkQ.r(thenQ.r(Zr [.k,.k](RetEv.one rfl(REv.cell 0 Qj rfl rfl(Qm vl rfl)vl(Kh _)))rfl(PlR.ok((pe8 t a).trans(EO k23)))))))
  have n8:¬o=8:=by simpa using c1
  refine Zs(Zq rfl(QW.eql(.tmp rfl) .const)(Zq rfl(QW.assign(.tmp rfl))(Zn ?_)))
  refine J.cond(.tmp rfl)(fun c2=>?_)(fun c2=>?_)
  ·skip
    obtain rfl:o=9:=by simpa using c2
    obtain⟨a,b,rfl⟩:=Xu(l:=l)(by omega)
    have ha:=hl a(by simp)
    have hb:=hl b(by simp)
    have hb64:=hb.bits
    refine Zs(Zq rfl(QW.move(.tmp rfl))(Zq rfl(QW.buildSlice(idx:=[0,1])(xs:=WF [4,2])YJ C8 z3 rfl(.cons .const(.cons .const .nil))rfl rfl rfl rfl rfl rfl rfl rfl rfl) ?_))
    refine Qs []Yd rfl Lent.nil(fun _=>(.cons(.tmp rfl)(.cons(.tmp rfl) .nil)))(Wx _ [4,2](by simp)(by simp))(.inl rfl)(fun k28 x28 o28 h28=>?_)(fun k28=>?_)
    rotate_left
    ·skip
      refine thenQ.p(blkQ.p(thenQ.p ?_))
      exact⟨_,QN [.k,.k]_,_,rfl,rfl,Qn [.k,.k]_,PlR.er(c:=81)((pe9 t a b).trans(if_pos(by simp[Uh]at k28;omega)))(by decide)⟩
    obtain⟨rfl,rfl⟩:=h28
    refine Zn(Zs(Zq rfl(QW.move(.tmp rfl))(Zq rfl(Qi QO Qj rfl(.tmp rfl) .const rfl rfl)(Zq rfl(Qt Uv(.tmp rfl)rfl)(Zq rfl(Qq Wn(.tmp rfl)(YW _ _))(Zq rfl(QW.call EL(.cons(.tmp rfl) .nil)(BH _(by assumption))) ?_))))))
    refine Zq rfl(QW.move(.tmp rfl))(Zq rfl(QW.extract(.tmp rfl)rfl)(Zq rfl(QW.extract(.tmp rfl)rfl)(Zq rfl(QW.assign(.tmp rfl))(Zq rfl(QW.assign(.tmp rfl))(Zn(Zs(Zq rfl(QW.move(.tmp rfl))(Zq rfl(QW.eql(.tmp rfl) .const) ?_))))))))
    refine Qs []YB rfl Lent.nil(fun _=>(.cons(.tmp rfl)(.cons .const .nil)))(XI _ _)(.inl rfl)(fun k39 x39 o39 h39=>?_)(fun k39=>?_)
    rotate_left
    ·skip
      refine thenQ.p(blkQ.p(thenQ.p ?_))
      exact⟨_,QN [.k,.k]_,_,rfl,rfl,Qn [.k,.k]_,PlR.er(c:=82)(by rw[pe9,if_neg(by simp[Uh]at k28;omega),if_pos(by simpa using k39)])(by decide)⟩
    obtain⟨rfl,rfl⟩:=h39
    refine Zn(Zs(Zq rfl(QW.move(.tmp rfl))(Zq rfl(Qi QO Qj rfl(.tmp rfl) .const rfl rfl)(Zq rfl(Ql Qj(.tmp rfl)(QH vl rfl)vl)(Zq rfl(QW.move(.tmp rfl))(Zq rfl(QW.build(idx:=[2])Ba FA rfl(.cons(.tmp rfl) .nil)rfl rfl rfl rfl) ?_))))))
    refine Qs []EK rfl Lent.nil(fun _=>(.cons(.tmp rfl)(.cons(.tmp rfl) .nil)))(E6(v:=a)(s:=⟨false,[],Xz b.bits⟩)Vc.self ha.wf⟨by unfold Qu;simp,by have:=KD b.bits(by simpa using k39);show(-9223372036854775808:Int)≤Xz b.bits∧Xz b.bits≤9223372036854775807;omega⟩)(.inl rfl)(fun k45 x45 o45 h45=>?_)(fun k45=>?_)
    rotate_left
    ·skip
      refine thenQ.p(blkQ.p(thenQ.p ?_))
      exact⟨_,QN [.k,.k]_,_,rfl,rfl,Qn [.k,.k]_,PlR.er(by rw[pe9,if_neg(by simp[Uh]at k28;omega),if_neg(by simpa using k39)];exact EQ k45)k45⟩
    obtain⟨rfl,rfl⟩:=h45
    exact Qc 0 Qj(.tmp rfl)rfl(.tmp rfl)rfl vl rfl rfl(Zn(J.ret(blkQ.r(thenQ.r(Zr [.k,.k](RetEv.one rfl(REv.cell 0 Qj rfl rfl(Qm vl rfl)vl(Kh _)))rfl(PlR.ok(by rw[pe9,if_neg(by simp[Uh]at k28;omega),if_neg(by simpa using k39)];exact EO k45)))))))
  have n9:¬o=9:=by simpa using c2
  refine Zs(Zq rfl(QW.eql(.tmp rfl) .const)(Zq rfl(QW.assign(.tmp rfl))(Zn ?_)))
  refine J.cond(.tmp rfl)(fun c3=>?_)(fun c3=>?_)
  ·skip
    obtain rfl:o=10:=by simpa using c3
    obtain⟨a,rfl⟩:=LO(l:=l)(by omega)
    have ha:=hl a(by simp)
    have ha32:=ha.len
    have hat:=Gm ha.fine.part
    refine Zs(Zq rfl(QW.move(.tmp rfl))(Zq rfl(Qi QO Qj rfl(.tmp rfl) .const rfl rfl)(Zq rfl(Qt UK(.tmp rfl)rfl)(Zq rfl(Qq UR(.tmp rfl)(D2 _ _))(Zq rfl(QW.geq(.tmp rfl) .const) ?_)))))
    refine Qs []YB rfl Lent.nil(fun _=>(.cons(.tmp rfl)(.cons .const .nil)))(XI _ _)(.inl rfl)(fun k53 x53 o53 h53=>?_)(fun k53=>?_)
    rotate_left
    ·skip
      refine thenQ.p(blkQ.p(thenQ.p ?_))
      exact⟨_,QN [.k,.k]_,_,rfl,rfl,Qn [.k,.k]_,PlR.er(c:=81)((pe10 t a).trans(if_pos(by simp at k53;omega)))(by decide)⟩
    obtain⟨rfl,rfl⟩:=h53
    refine Zn(J.seq(QU Ud(Zf 0 []rfl(fun _=>QW.move(.tmp rfl))(Zf 1 [55]rfl(fun _=>Qi QO Qj rfl(.tmp rfl) .const rfl rfl)(Zf 2 [56]rfl(fun _=>Qt Yp(.tmp rfl)rfl)(Zf 3 [57]rfl(fun _=>Qq Wc(.tmp rfl)(Mo _ _))(Zf 4 [58]rfl(fun _=>U3 T2(.tmp rfl))(Zf 5 []rfl(fun _=>QW.move(.tmp rfl))(Zf 6 [60]rfl(fun _=>Qi QO Qj rfl(.tmp rfl) .const rfl rfl) ?_)))))))))
    refine Zf 7 [61]rfl(fun _=>Qt Ue(.tmp rfl)rfl)(Zf 8 [62]rfl(fun _=>Qq U6(.tmp rfl)(PP _ _))(Zf 9 [63]rfl(fun _=>Qh QO(.tmp rfl)wl)(Zf 10 [59,64]rfl(fun _=>QW.add(.tmp rfl)(.tmp rfl)(W0(by omega)))(Zf 11 [65]rfl(fun _=>QW.call SX(.cons(.tmp rfl) .nil)(Bo _(by omega)))(Zf 12 [66]rfl(fun _=>QW.move(.tmp rfl))(Zf 13 [54]rfl(fun _=>QW.extract(.tmp rfl)rfl)(Zf 14 [54]rfl(fun _=>QW.extract(.tmp rfl)rfl)(Zf 15 [67]rfl(fun _=>QW.assign(.tmp rfl))(Zf 16 [68]rfl(fun _=>QW.assign(.tmp rfl)) ?_)))))))))
    refine JX.fin(by kernel_rfl)(by kernel_rfl)fun bs_=>?_
    refine QX.conv(by(try simp only[Ub,Uk,Q5,QS,Flt.val,Flt.bx,nx,nl,Qk,Qz,QA,Qy,QR,AV.cellsOf,Qd,Qe,Nat.reduceAdd]);rfl) ?_
    exact thenQ.n(Zs(Zq rfl(QW.move(.tmp rfl))(Zq rfl(QW.call Gw(.cons(.tmp rfl) .nil)(Gp _))(Qc 0 Qj(.tmp rfl)rfl(.tmp rfl)rfl rfl rfl rfl(Zn(J.ret(blkQ.r(thenQ.r(Zr [.k,.k](RetEv.one rfl(REv.cell 0 Qj rfl rfl rfl rfl lr))rfl(PlR.ok((pe10 t a).trans(if_neg(by simp at k53;omega)))))))))))))
  have n10:¬o=10:=by simpa using c3
  refine Zs(Zq rfl(QW.eql(.tmp rfl) .const)(Zq rfl(QW.assign(.tmp rfl))(Zn ?_)))
  refine J.cond(.tmp rfl)(fun c4=>?_)(fun c4=>?_)
  ·skip
    obtain rfl:o=23:=by simpa using c4
    refine Zs(Zq rfl(QW.move(.tmp rfl))(Zq rfl(QW.build(idx:=[0,4])Xx WV rfl(.cons .const(.cons(.tmp rfl) .nil))rfl rfl rfl rfl) ?_))
    refine Qs []N7 rfl Lent.nil(fun _=>(.cons(Ev.le(.tmp rfl)(.aggL(.cons lr(.cons lr(.cons lr(.cons(.nil false false _)(.cons lr .nil))))))) .nil))(NZ(fr:=false)(v:=.li l)Vc.self(li_wf hl hn8))(.inl rfl)(fun k75 x75 o75 h75=>?_)(fun k75=>?_)
    rotate_left
    ·skip
      refine thenQ.p(blkQ.p(thenQ.p ?_))
      exact⟨_,QN [.k,.k]_,_,rfl,rfl,Qn [.k,.k]_,PlR.er(c:=84)((pe23 t l).trans(if_neg k75))(by decide)⟩
    obtain⟨rfl,rfl⟩:=h75
    exact Qc 0 Qj(.tmp rfl)rfl(.tmp rfl)rfl rfl rfl rfl(Zn(J.ret(blkQ.r(thenQ.r(Zr [.k,.k](RetEv.one rfl(REv.cell 0 Qj rfl rfl rfl rfl lr))rfl(PlR.ok(v:=.li l)((pe23 t l).trans(if_pos k75))))))))
  have n23:¬o=23:=by simpa using c4
  refine Zs(Zq rfl(QW.eql(.tmp rfl) .const)(Zq rfl(QW.assign(.tmp rfl))(Zn ?_)))
  refine J.cond(.tmp rfl)(fun c5=>?_)(fun c5=>?_)
  ·skip
    obtain rfl:o=24:=by simpa using c5
    obtain⟨a,b,rfl⟩:=Xu(l:=l)(by omega)
    have ha:=hl a(by simp)
    have hb:=hl b(by simp)
    have ha32:=ha.len
    refine Zs(Zq rfl(QW.move(.tmp rfl))(Zq rfl(QW.buildSlice(idx:=[0])(xs:=WF [4])YJ C8 z3 rfl(.cons .const .nil)rfl rfl rfl rfl rfl rfl rfl rfl rfl) ?_))
    refine Qs []Yd rfl Lent.nil(fun _=>(.cons(.tmp rfl)(.cons(.tmp rfl) .nil)))(Wx _ [4](by simp)(by simp))(.inl rfl)(fun k80 x80 o80 h80=>?_)(fun k80=>?_)
    rotate_left
    ·skip
      refine thenQ.p(blkQ.p(thenQ.p ?_))
      exact⟨_,QN [.k,.k]_,_,rfl,rfl,Qn [.k,.k]_,PlR.er(c:=81)((pe24 t a b).trans(if_pos(by simpa[Uh]using k80)))(by decide)⟩
    obtain⟨rfl,rfl⟩:=h80
    refine Zn(J.seq(QU Ud(Zf 0 []rfl(fun _=>QW.move(.tmp rfl))(Zf 1 [82]rfl(fun _=>Qi QO Qj rfl(.tmp rfl) .const rfl rfl)(Zf 2 [83]rfl(fun _=>Ql Qj(.tmp rfl)(QH vl rfl)vl)(Zf 3 []rfl(fun _=>QW.move(.tmp rfl))(Zf 4 [85]rfl(fun _=>Qi QO Qj rfl(.tmp rfl) .const rfl rfl)(Zf 5 [86]rfl(fun _=>Qt Ue(.tmp rfl)rfl)(Zf 6 [87]rfl(fun _=>Qq U6(.tmp rfl)(PP _ _)) ?_)))))))))
    refine Zf 7 [88]rfl(fun _=>Qh QO(.tmp rfl)wl)(Zf 8 [89]rfl(fun _=>QW.build(idx:=[2])Ba FA rfl(.cons(.tmp rfl) .nil)rfl rfl rfl rfl)(Zf 9 [90]rfl(fun _=>QW.buildSlice(idx:=[0])(xs:=StT.css [⟨false,[],(a.items.length:Int)⟩])NM Qat FA rfl(.cons(.tmp rfl) .nil)rfl rfl rfl rfl rfl rfl rfl rfl rfl)(Zf 10 []rfl(fun _=>QW.move(.tmp rfl))(Zf 11 [92]rfl(fun _=>Qi QO Qj rfl(.tmp rfl) .const rfl rfl)(Zf 12 [93]rfl(fun _=>Ql Qj(.tmp rfl)(QH vl rfl)vl)(Zf 13 [84,91,94]rfl(fun _=>QW.call Dv(.cons(.tmp rfl)(.cons(.tmp rfl)(.cons(.tmp rfl) .nil)))(T6(v:=a)(x:=b)(p:=[⟨false,[],a.items.length⟩])Vc.self Vc.self ha.wf hb.wf(NJ⟨by unfold Qu;simp,by show(-9223372036854775808:Int)≤(a.items.length:Int)∧(a.items.length:Int)≤9223372036854775807;omega⟩))) ?_))))))
    refine Zf 14 [95]rfl(fun _=>QW.move(.tmp rfl))(Zf 15 [81]rfl(fun _=>QW.extract(.tmp rfl)rfl)(Zf 16 [81]rfl(fun _=>QW.extract(.tmp rfl)rfl)(JX.a 17 rfl(AllocOp.mk WV rfl)rfl rfl rfl rfl rfl(JX.one 18 [true,false,true,true,true,true,true,true,true,true,true,true,true,true,true,true,true,true]rfl(by kernel_rfl)(by kernel_rfl)rfl rfl(by kernel_rfl)rfl fun bs18_ pe_ ex_=>?_))))
    refine JL.conv(by(try simp only[Ub,Uk,Q5,QS,Flt.val,Flt.bx,nx,nl,Qk,Qz,QA,Qy,QR,AV.cellsOf,Qd,Qe,Nat.reduceAdd]);rfl) ?_
    refine Qc 2 Qj(.tmp rfl)rfl(.tmp rfl)rfl vl rfl rfl(JL.nil ?_)
    refine thenQ.n⟨[],_,rfl,rfl,rfl,rfl,rfl,QJ 3 rfl,trivial,⟨trivial,trivial⟩,?_⟩
    refine JX.conv(S':=[18,17,15,14,13,12,11,10,9,8,7,6,5,4,3,2,1,0])rfl(by(try simp only[QS]);rfl)(by(try simp only[Ub,Uk,Q5,QS,Flt.val,Flt.bx,nx,nl,Qk,Qz,QA,Qy,QR,AV.cellsOf,Qd,Qe,Nat.reduceAdd]);rfl) ?_
    refine Zf 19 [97]rfl(fun _=>QW.assign(.tmp rfl))(JX.fin(by kernel_rfl)(by kernel_rfl)fun bs_=>?_)
    refine QX.conv(by(try simp only[Ub,Uk,Q5,QS,Flt.val,Flt.bx,nx,nl,Qk,Qz,QA,Qy,QR,AV.cellsOf,Qd,Qe,Nat.reduceAdd]);rfl) ?_
    refine thenQ.n(Zs(Zq rfl(QW.move(.tmp rfl))(Zq rfl(QW.eql(.tmp rfl) .const) ?_)))
    refine Qs []YB rfl Lent.nil(fun _=>(.cons(.tmp rfl)(.cons .const .nil)))(XI _ _)(.inl rfl)(fun k100 x100 o100 h100=>?_)(fun k100=>?_)
    rotate_left
    ·skip
      refine thenQ.p(blkQ.p(thenQ.p ?_))
      exact⟨_,QN [.k,.k,.k]_,_,rfl,rfl,Qn [.k,.k,.k]_,PlR.er(c:=84)(by rw[pe24,if_neg(by simpa[Uh]using k80)];exact Ej(by simpa using k100))(by decide)⟩
    obtain⟨rfl,rfl⟩:=h100
    exact Zn(Zs(Zq rfl(Qf 2 Qj(.tmp rfl)rfl(Qm vl rfl)vl)(Qc 0 Qj(.tmp rfl)rfl(.tmp rfl)rfl vl rfl rfl(Zn(J.ret(blkQ.r(thenQ.r(Zr [.k,.k,.k](RetEv.one rfl(REv.cell 0 Qj rfl rfl(Qm vl rfl)vl(Kh _)))rfl(PlR.ok(by rw[pe24,if_neg(by simpa[Uh]using k80)];exact Lb(by simpa using k100)))))))))))
  have n24:¬o=24:=by simpa using c5
  obtain rfl:o=25:=by omega
  obtain⟨a,b,rfl⟩:=Xu(l:=l)(by omega)
  have ha:=hl a(by simp)
  have hb:=hl b(by simp)
  refine J.skip(blkQ.n(thenQ.n(Zs(Zq rfl(QW.move(.tmp rfl))(Zq rfl(QW.buildSlice(idx:=[0])(xs:=WF [5])YJ C8 z3 rfl(.cons .const .nil)rfl rfl rfl rfl rfl rfl rfl rfl rfl) ?_)))))
  refine Qs []Yd rfl Lent.nil(fun _=>(.cons(.tmp rfl)(.cons(.tmp rfl) .nil)))(Wx _ [5](by simp)(by simp))(.inl rfl)(fun k104 x104 o104 h104=>?_)(fun k104=>?_)
  rotate_left
  ·skip
    refine thenQ.p ?_
    exact⟨_,QN [.k,.k]_,_,rfl,rfl,Qn [.k,.k]_,PlR.er(c:=81)((pe25 t a b).trans(if_pos(by simpa[Uh]using k104)))(by decide)⟩
  obtain⟨rfl,rfl⟩:=h104
  refine Zn(J.seq(QU Ud(Zf 0 []rfl(fun _=>QW.move(.tmp rfl))(Zf 1 [106]rfl(fun _=>Qi QO Qj rfl(.tmp rfl) .const rfl rfl)(Zf 2 [107]rfl(fun _=>Ql Qj(.tmp rfl)(QH vl rfl)vl)(Zf 3 []rfl(fun _=>Qa N9(.tmp rfl)rfl)(Zo 4 1 [109]rfl(fun _ ho_=>Qb 1 Wc(.tmp rfl)ho_ rfl)(Zf 5 [110]rfl(fun _=>QW.build(idx:=[0,1])Ba FA rfl(.cons .const(.cons(.tmp rfl) .nil))rfl rfl rfl rfl)(Zf 6 [111]rfl(fun _=>QW.buildSlice(idx:=[0])(xs:=StT.css [⟨true,t,0⟩])NM Qat FA rfl(.cons(.tmp rfl) .nil)rfl rfl rfl rfl rfl rfl rfl rfl rfl) ?_)))))))))
  refine Zf 7 []rfl(fun _=>QW.move(.tmp rfl))(Zf 8 [113]rfl(fun _=>Qi QO Qj rfl(.tmp rfl) .const rfl rfl)(Zf 9 [114]rfl(fun _=>Ql Qj(.tmp rfl)(QH vl rfl)vl)(Zf 10 [108,112,115]rfl(fun _=>QW.call Dv(.cons(.tmp rfl)(.cons(.tmp rfl)(.cons(.tmp rfl) .nil)))(T6(v:=a)(x:=b)(p:=[⟨true,t,0⟩])Vc.self Vc.self ha.wf hb.wf(NJ⟨ht,show(-9223372036854775808:Int)≤0∧(0:Int)≤9223372036854775807 by decide⟩))) ?_)))
  refine Zf 11 [116]rfl(fun _=>QW.move(.tmp rfl))(Zf 12 [105]rfl(fun _=>QW.extract(.tmp rfl)rfl)(Zf 13 [105]rfl(fun _=>QW.extract(.tmp rfl)rfl)(JX.a 14 rfl(AllocOp.mk WV rfl)rfl rfl rfl rfl rfl(JX.one 15 [true,false,true,true,true,true,true,true,true,true,true,true,true,true,true]rfl(by kernel_rfl)(by kernel_rfl)rfl rfl(by kernel_rfl)rfl fun bs15_ pe_ ex_=>?_))))
  refine JL.conv(by(try simp only[Ub,Uk,Q5,QS,Flt.val,Flt.bx,nx,nl,Qk,Qz,QA,Qy,QR,AV.cellsOf,Qd,Qe,Nat.reduceAdd]);rfl) ?_
  refine Qc 2 Qj(.tmp rfl)rfl(.tmp rfl)rfl vl rfl rfl(JL.nil ?_)
  refine thenQ.n⟨[],_,rfl,rfl,rfl,rfl,rfl,QJ 3 rfl,trivial,⟨trivial,trivial⟩,?_⟩
  refine JX.conv(S':=[15,14,12,11,10,9,8,7,6,5,4,3,2,1,0])rfl(by(try simp only[QS]);rfl)(by(try simp only[Ub,Uk,Q5,QS,Flt.val,Flt.bx,nx,nl,Qk,Qz,QA,Qy,QR,AV.cellsOf,Qd,Qe,Nat.reduceAdd]);rfl) ?_
  refine Zf 16 [118]rfl(fun _=>QW.assign(.tmp rfl))(JX.fin(by kernel_rfl)(by kernel_rfl)fun bs_=>?_)
  refine QX.conv(by(try simp only[Ub,Uk,Q5,QS,Flt.val,Flt.bx,nx,nl,Qk,Qz,QA,Qy,QR,AV.cellsOf,Qd,Qe,Nat.reduceAdd]);rfl) ?_
  refine thenQ.n(Zs(Zq rfl(QW.move(.tmp rfl))(Zq rfl(QW.eql(.tmp rfl) .const) ?_)))
  refine Qs []YB rfl Lent.nil(fun _=>(.cons(.tmp rfl)(.cons .const .nil)))(XI _ _)(.inl rfl)(fun k121 x121 o121 h121=>?_)(fun k121=>?_)
  rotate_left
  ·skip
    refine thenQ.p ?_
    exact⟨_,QN [.k,.k,.k]_,_,rfl,rfl,Qn [.k,.k,.k]_,PlR.er(c:=84)(by rw[pe25,if_neg(by simpa[Uh]using k104)];exact Ej(by simpa using k121))(by decide)⟩
  obtain⟨rfl,rfl⟩:=h121
  exact Zn(Zs(Zq rfl(Qf 2 Qj(.tmp rfl)rfl(Qm vl rfl)vl)(Qc 0 Qj(.tmp rfl)rfl(.tmp rfl)rfl vl rfl rfl(Zn(J.ret(Zr [.k,.k,.k](RetEv.one rfl(REv.cell 0 Qj rfl rfl(Qm vl rfl)vl(Kh _)))rfl(PlR.ok(by rw[pe25,if_neg(by simpa[Uh]using k104)];exact Lb(by simpa using k121)))))))))

end
section
/- Walks: orders of numbers, texts, lists. -/
set_option maxRecDepth 10000
set_option maxHeartbeats 4000000
theorem QaA(a b:Int):Fn Tryz.prog 137 [.c(.int .i64 a),.c(.int .i64 b)](.c(.int .i64(HD a b))):=Fe a b
theorem Np {a b:List Uj}{k:Nat}(ha:k<a.length)(hb:k<b.length):Gb(a.drop k)(b.drop k)=Eo(Mf a[k]b[k])(Gb(a.drop(k+1))(b.drop(k+1))):=by
  rw[List.drop_eq_getElem_cons ha,List.drop_eq_getElem_cons hb,Gb]
theorem Qay {a b:List Uj}{k:Nat}(ha:k<a.length)(hb:b.length≤k):Gb(a.drop k)(b.drop k)=1:=by
  rw[List.drop_eq_getElem_cons ha,List.drop_of_length_le hb,Gb]
theorem Qax {a b:List Uj}{k:Nat}(ha:a.length≤k)(hb:k<b.length):Gb(a.drop k)(b.drop k)= -1:=by
  rw[List.drop_eq_getElem_cons hb,List.drop_of_length_le ha,Gb]
theorem Qaz {a b:List Uj}{k:Nat}(ha:a.length≤k)(hb:b.length≤k):Gb(a.drop k)(b.drop k)=0:=by
  rw[List.drop_of_length_le hb,List.drop_of_length_le ha,Gb]
theorem M1 {a b:List V}{k:Nat}(ha:k<a.length)(hb:k<b.length):WI(a.drop k)(b.drop k)=Eo(a[k].ord b[k])(WI(a.drop(k+1))(b.drop(k+1))):=by
  rw[List.drop_eq_getElem_cons ha,List.drop_eq_getElem_cons hb,WI]
theorem Sv {a b:List V}{k:Nat}(ha:k<a.length)(hb:b.length≤k):WI(a.drop k)(b.drop k)=1:=by
  rw[List.drop_eq_getElem_cons ha,List.drop_of_length_le hb,WI]
theorem Su {a b:List V}{k:Nat}(ha:a.length≤k)(hb:k<b.length):WI(a.drop k)(b.drop k)= -1:=by
  rw[List.drop_eq_getElem_cons hb,List.drop_of_length_le ha,WI]
theorem Sw {a b:List V}{k:Nat}(ha:a.length≤k)(hb:b.length≤k):WI(a.drop k)(b.drop k)=0:=by
  rw[List.drop_of_length_le hb,List.drop_of_length_le ha,WI]
theorem En {a b:Int}(h:a≠0):Eo a b=a:=if_pos h
theorem Em {b:Int}:Eo 0 b=b:=if_neg(fun h=>h rfl)
def Fy:List Int→Int
  |[]=>0
  |x::r=>Eo x(Fy r)
theorem RW {l:List Int}{k:Nat}(h:k<l.length):Fy(l.drop k)=Eo l[k](Fy(l.drop(k+1))):=by
  rw[List.drop_eq_getElem_cons h,Fy]
theorem Sy {l:List Int}{k:Nat}(h:l.length≤k):Fy(l.drop k)=0:=by rw[List.drop_of_length_le h,Fy]
theorem Sx(a:Int):Fy [a]=a:=by simp only[Fy,Eo];split<;>omega
theorem Es(n:Int):Fn Tryz.prog 151 [.c(.int .u64 n)](.c(.bool false)):=by
  refine AC.of_J Tryz.func151 rfl Tryz.ntmps151 rfl fun w0 A0=>?_
  exact Zs(Zq rfl(QW.assign .const)(Zn(Zs(Zq rfl(QW.move(.tmp rfl))(Zq rfl(QW.move(.tmp rfl))(Zq rfl(QW.neq(.tmp rfl)(.tmp rfl))(Zq rfl(QW.assign(.tmp rfl))(Zn(J.ret(Zr [](RetEv.one rfl(REv.tmp rfl lr))rfl⟨WL(by simp),rfl⟩))))))))))
theorem Qaw(a b:Int):Fn Tryz.prog 140 [.c(.int .u64 a),.c(.int .u64 b)](.c(.int .i64(HD a b))):=by
  refine AC.of_J Tryz.func140 rfl Tryz.ntmps140 rfl fun w0 A0=>?_
  refine Zs(Zq rfl(QW.assign .const)(Zn(Zs(Zq rfl(QW.move(.tmp rfl))(Zq rfl(QW.call EG(.cons(.tmp rfl) .nil)(Es _))(Zq rfl(QW.assign(.tmp rfl))(Zn(Zs(Zq rfl(QW.move(.tmp rfl)) ?_)))))))))
  refine Zq rfl(QW.call EG(.cons(.tmp rfl) .nil)(Es _))(Zq rfl(QW.assign(.tmp rfl))(Zn(J.seq(Zs(Zq rfl(QW.move(.tmp rfl))(Zn ?_))))))
  refine J.cond(.tmp rfl)(fun c1=>absurd c1(by simp))(fun c1=>?_)
  refine Zk(J.seq(Zs(Zq rfl(QW.move(.tmp rfl))(Zn ?_))))
  refine J.cond(.tmp rfl)(fun c2=>absurd c2(by simp))(fun c2=>?_)
  refine Zk(J.seq(Zs(Zq rfl(QW.move(.tmp rfl))(Zq rfl(QW.move(.tmp rfl))(Zq rfl(QW.lss(.tmp rfl)(.tmp rfl))(Zn ?_))))))
  refine J.cond(.tmp rfl)(fun c3=>?_)(fun c3=>?_)
  ·skip
    simp at c3
    exact Zs(Zq rfl(QW.assign .const)(Zn(J.ret(thenQ.r(Zr [](RetEv.one rfl(REv.tmp rfl lr))rfl⟨by rw[show HD a b= -1 from if_pos c3],rfl⟩)))))
  simp at c3
  refine Zk(J.seq(Zs(Zq rfl(QW.move(.tmp rfl))(Zq rfl(QW.move(.tmp rfl))(Zq rfl(QW.gtr(.tmp rfl)(.tmp rfl))(Zn ?_))))))
  refine J.cond(.tmp rfl)(fun c4=>?_)(fun c4=>?_)
  ·skip
    simp at c4
    exact Zs(Zq rfl(QW.assign .const)(Zn(J.ret(thenQ.r(Zr [](RetEv.one rfl(REv.tmp rfl lr))rfl⟨by rw[show HD a b=1 by unfold HD;rw[if_neg(by omega),if_pos(by omega)]],rfl⟩)))))
  simp at c4
  exact Zk(Zs(Zq rfl(QW.assign .const)(Zn(J.ret(Zr [](RetEv.one rfl(REv.tmp rfl lr))rfl⟨by rw[show HD a b=0 by unfold HD;rw[if_neg(by omega),if_neg(by omega)]],rfl⟩)))))
theorem No(a b:Uj):Fn Tryz.prog 141 [.c(Un a),.c(Un b)](.c(.int .i64(Mf a b))):=by
  refine AC.of_J Tryz.func141 rfl Tryz.ntmps141 rfl fun w0 A0=>?_
  refine Zs(Zq rfl(QW.assign .const)(Zn(Zs(Zq rfl(QW.move(.tmp rfl))(Zq rfl(QW.call N2(.cons(.tmp rfl) .nil)(Kg _))(Zq rfl(QW.assign(.tmp rfl))(Zn(Zs(Zq rfl(QW.move(.tmp rfl)) ?_)))))))))
  refine Zq rfl(QW.call N2(.cons(.tmp rfl) .nil)(Kg _))(Zq rfl(QW.assign(.tmp rfl))(Zn(J.seq(Zs(Zq rfl(QW.move(.tmp rfl))(Zn ?_))))))
  refine J.cond(.tmp rfl)(fun c1=>absurd c1(by simp))(fun c1=>?_)
  refine Zk(J.seq(Zs(Zq rfl(QW.move(.tmp rfl))(Zn ?_))))
  refine J.cond(.tmp rfl)(fun c2=>absurd c2(by simp))(fun c2=>?_)
  refine Zk(J.seq(Zs(Zq rfl(QW.move(.tmp rfl))(Zq rfl(QW.move(.tmp rfl))(Zq rfl(TK(.tmp rfl)(.tmp rfl))(Zn ?_))))))
  refine J.cond(.tmp rfl)(fun c3=>?_)(fun c3=>?_)
  ·skip
    exact Zs(Zq rfl(QW.assign .const)(Zn(J.ret(thenQ.r(Zr [](RetEv.one rfl(REv.tmp rfl lr))rfl⟨by simp[Mf,c3],rfl⟩)))))
  refine Zk(J.seq(Zs(Zq rfl(QW.move(.tmp rfl))(Zq rfl(QW.move(.tmp rfl))(Zq rfl(TL(.tmp rfl)(.tmp rfl))(Zn ?_))))))
  refine J.cond(.tmp rfl)(fun c4=>?_)(fun c4=>?_)
  ·skip
    exact Zs(Zq rfl(QW.assign .const)(Zn(J.ret(thenQ.r(Zr [](RetEv.one rfl(REv.tmp rfl lr))rfl⟨by rw[L0]at c4;simp[Mf,c3,c4],rfl⟩)))))
  exact Zk(Zs(Zq rfl(QW.assign .const)(Zn(J.ret(Zr [](RetEv.one rfl(REv.tmp rfl lr))rfl⟨by rw[L0]at c4;simp[Mf,c3,c4],rfl⟩)))))
theorem or_ok {fr c:Bool}(l:List Int)(hl:l.length≤1000):Fn Tryz.prog 139 [.sl fr c eI64(WF l)](.c(.int .i64(Fy l))):=by
  refine AC.of_J Tryz.func139 rfl Tryz.ntmps139 rfl fun w0 A0=>?_
  refine Zs(Zq rfl(QW.assign .const)(Zn(Zs(Zq rfl(QW.assign .const)(Zn(J.seq(Zs(Zq rfl(QW.move(.tmp rfl))(Zq rfl(Qh YJ(.tmp rfl)(YE _)) ?_)))))))))
  refine Zq rfl(QW.move .const)(Zn(J.block(Q0(ι:=Nat) [3,6,7](fun k=>[(8,.c(.int .i64(k:Int)))])(fun _ oo=>oo)(fun k=>k≤l.length∧Fy l=Fy(l.drop k))(fun k=>l.length-k) 0(⟨Nat.zero_le _,rfl⟩)(QK(.cons rfl lr(.cons rfl lr(.cons rfl lr(.cons rfl lr .nil))))(Reown.refl _)(fun _ h=>by first|exact h|simp[h])) ?_)))
  intro k⟨hk,hs⟩
  refine J.conv(by(try simp only[nl,Qk,Qz,QA,Qy,QR,AV.cellsOf,Qd,Qe,Nat.reduceAdd]);rfl) ?_
  refine Zs(Zq rfl(QW.lss(.tmp rfl)(.tmp rfl))(Zn(J.seq ?_)))
  refine J.cond(.tmp rfl)(fun c1=>?_)(fun c1=>?_)
  ·skip
    have hlt:k<l.length:=by simpa using c1
    refine Zk(J.seq(J.block(Zs(Zq rfl(Qi YJ UR rfl(.tmp rfl)(.tmp rfl)rfl(by exact HZ hlt)) ?_))))
    refine Zq rfl(Qq UR(.tmp rfl)rfl)(Zq rfl(QW.assign(.tmp rfl))(Zn(Zs(Zq rfl(QW.move(.tmp rfl))(Zq rfl(QW.move(.tmp rfl))(Zq rfl(QW.neq(.tmp rfl)(.tmp rfl))(Zn ?_)))))))
    refine J.cond(.tmp rfl)(fun c2=>?_)(fun c2=>?_)
    ·skip
      have hz:l[k]'hlt≠0:=by simpa using c2
      exact Zs(Zq rfl(QW.move(.tmp rfl))(Zq rfl(QW.assign(.tmp rfl))(Zn(J.ret(blkQ.r(thenQ.r(thenQ.r(blkQ.r(thenQ.r(Zr [](RetEv.one rfl(REv.tmp rfl lr))rfl⟨by rw[hs,RW hlt,En hz],rfl⟩))))))))))
    have hz:l[k]'hlt=0:=by simpa using c2
    refine J.skip(blkQ.n(thenQ.n(Qg(Zq rfl(QW.add(.tmp rfl) .const(W0(by omega)))(Zq rfl(QW.move(.tmp rfl))(Zn ?_))))))
    exact⟨k+1,⟨hlt,by rw[hs,RW hlt,hz,Em]⟩,by omega,QK(.cons rfl lr(.cons rfl lr(.cons rfl lr(.cons rfl lr .nil))))(Reown.refl _)(fun _ h=>by first|exact h|simp[h])⟩
  have hge:l.length≤k:=by simpa using c1
  exact J.exit(Qv(Qv(QM(thenQ.n(Zs(Zq rfl(QW.move(.tmp rfl))(Zq rfl(QW.assign(.tmp rfl))(Zn(J.ret(Zr [](RetEv.one rfl(REv.tmp rfl lr))rfl⟨by rw[hs,Sy hge],rfl⟩))))))))))
theorem DT {fr fr2 cl cl2:Bool}(a b:List Uj)(ha:a.length≤8796093022208)(hb:b.length≤8796093022208):Fn Tryz.prog 142 [.sl fr cl W3(Q6 a),.sl fr2 cl2 W3(Q6 b)](.c(.int .i64(Gb a b))):=by
  refine AC.of_J Tryz.func142 rfl Tryz.ntmps142 rfl fun w0 A0=>?_
  refine Zs(Zq rfl(QW.assign .const)(Zn(J.seq(Zs(Zq rfl(QW.move(.tmp rfl))(Zq rfl(Qh UD(.tmp rfl)(Qo _))(Zq rfl(QW.move .const)(Zn(J.block ?_)))))))))
  refine Q0(ι:=Nat) [0,1,9,10](fun k=>[(11,.c(.int .i64(k:Int)))])(fun _ oo=>oo)(fun k=>k≤a.length∧k≤b.length∧Gb a b=Gb(a.drop k)(b.drop k))(fun k=>a.length-k) 0(⟨Nat.zero_le _,Nat.zero_le _,rfl⟩)(QK(.cons rfl lr(.cons rfl lr(.cons rfl lr(.cons rfl lr(.cons rfl lr .nil)))))(Reown.refl _)(fun _ h=>by first|exact h|simp[h])) ?_
  intro k⟨hk,hk2,hs⟩
  refine J.conv(by(try simp only[nl,Qk,Qz,QA,Qy,QR,AV.cellsOf,Qd,Qe,Nat.reduceAdd]);rfl) ?_
  refine Zs(Zq rfl(QW.lss(.tmp rfl)(.tmp rfl))(Zn(J.seq ?_)))
  refine J.cond(.tmp rfl)(fun c1=>?_)(fun c1=>?_)
  ·skip
    have hlt:k<a.length:=by simpa using c1
    refine Zk(J.seq(J.block(Zs(Zq rfl(QW.move(.tmp rfl))(Zq rfl(Qi UD Wc rfl(.tmp rfl)(.tmp rfl)rfl(YL hlt))(Zq rfl(Qq Wc(.tmp rfl)rfl)(Zq rfl(QW.assign(.tmp rfl))(Zq rfl(QW.assign(.tmp rfl))(Zn ?_)))))))))
    refine J.seq(Zs(Zq rfl(QW.move(.tmp rfl))(Zq rfl(QW.move(.tmp rfl))(Zq rfl(Qh UD(.tmp rfl)(Qo _))(Zq rfl(QW.geq(.tmp rfl)(.tmp rfl))(Zn ?_))))))
    refine J.cond(.tmp rfl)(fun c2=>?_)(fun c2=>?_)
    ·skip
      have hg2:b.length≤k:=by simpa using c2
      exact Zs(Zq rfl(QW.assign .const)(Zn(J.ret(thenQ.r(blkQ.r(thenQ.r(thenQ.r(blkQ.r(thenQ.r(Zr [](RetEv.one rfl(REv.tmp rfl lr))rfl⟨by rw[hs,Qay hlt hg2],rfl⟩))))))))))
    have hlt2:k<b.length:=by simpa using c2
    refine Zk(Zs(Zq rfl(QW.move(.tmp rfl))(Zq rfl(QW.move(.tmp rfl))(Zq rfl(Qi UD Wc rfl(.tmp rfl)(.tmp rfl)rfl(YL hlt2))(Zq rfl(Qq Wc(.tmp rfl)rfl)(Zq rfl(QW.assign(.tmp rfl))(Zn(Zs(Zq rfl(QW.move(.tmp rfl)) ?_)))))))))
    refine Zq rfl(QW.move(.tmp rfl))(Zq rfl(QW.call EI(.cons(.tmp rfl)(.cons(.tmp rfl) .nil))(No _ _))(Zq rfl(QW.assign(.tmp rfl))(Zn(Zs(Zq rfl(QW.move(.tmp rfl))(Zq rfl(QW.neq(.tmp rfl) .const)(Zn ?_)))))))
    refine J.cond(.tmp rfl)(fun c3=>?_)(fun c3=>?_)
    ·skip
      have hz:Mf(a[k]'hlt)(b[k]'hlt2)≠0:=by simpa using c3
      exact Zs(Zq rfl(QW.move(.tmp rfl))(Zq rfl(QW.assign(.tmp rfl))(Zn(J.ret(blkQ.r(thenQ.r(thenQ.r(blkQ.r(thenQ.r(Zr [](RetEv.one rfl(REv.tmp rfl lr))rfl⟨by rw[hs,Np hlt hlt2,En hz],rfl⟩))))))))))
    have hz:Mf(a[k]'hlt)(b[k]'hlt2)=0:=by simpa using c3
    refine J.skip(blkQ.n(thenQ.n(Qg(Zq rfl(QW.add(.tmp rfl) .const(W0(by omega)))(Zq rfl(QW.move(.tmp rfl))(Zn ?_))))))
    exact⟨k+1,⟨hlt,hlt2,by rw[hs,Np hlt hlt2,hz,Em]⟩,by omega,QK(.cons rfl lr(.cons rfl lr(.cons rfl lr(.cons rfl lr(.cons rfl lr .nil)))))(Reown.refl _)(fun _ h=>by first|exact h|simp[h])⟩
  have hge:a.length≤k:=by simpa using c1
  refine J.exit(Qv(Qv(QM(thenQ.n(J.seq(Zs(Zq rfl(QW.move(.tmp rfl))(Zq rfl(Qh UD(.tmp rfl)(Qo _))(Zq rfl(QW.move(.tmp rfl)) ?_)))))))))
  refine Zq rfl(Qh UD(.tmp rfl)(Qo _))(Zq rfl(QW.lss(.tmp rfl)(.tmp rfl))(Zn ?_))
  refine J.cond(.tmp rfl)(fun c2=>?_)(fun c2=>?_)
  ·skip
    have hx:a.length<b.length:=by simpa using c2
    exact Zs(Zq rfl(QW.assign .const)(Zn(J.ret(thenQ.r(Zr [](RetEv.one rfl(REv.tmp rfl lr))rfl⟨by rw[hs,Qax hge(by omega)],rfl⟩)))))
  have hx:b.length≤a.length:=by simpa using c2
  exact Zk(Zs(Zq rfl(QW.assign .const)(Zn(J.ret(Zr [](RetEv.one rfl(REv.tmp rfl lr))rfl⟨by rw[hs,Qaz hge(by omega)],rfl⟩)))))
theorem DS {fr fr2 cl cl2:Bool}(a b:List V)(ha:a.length≤8796093022208)(hb:b.length≤8796093022208)(ih:∀x∈a,∀y∈b,Fn Tryz.prog 124 [.agg(x.cs fr),.agg(y.cs fr2)](.c(.int .i64(x.ord y)))):Fn Tryz.prog 143 [.sl fr cl eV(V.css fr a),.sl fr2 cl2 eV(V.css fr2 b),.c(.func(.func 124) #[] #[])](.c(.int .i64(WI a b))):=by
  refine AC.of_J Tryz.func143 rfl Tryz.ntmps143 rfl fun w0 A0=>?_
  refine Zs(Zq rfl(QW.assign .const)(Zn(J.seq(Zs(Zq rfl(QW.move(.tmp rfl))(Zq rfl(Qh QO(.tmp rfl)wl)(Zq rfl(QW.move .const)(Zn(J.block ?_)))))))))
  refine Q0(ι:=Nat) [0,1,2,11,12](fun k=>[(13,.c(.int .i64(k:Int)))])(fun _ oo=>oo)(fun k=>k≤a.length∧k≤b.length∧WI a b=WI(a.drop k)(b.drop k))(fun k=>a.length-k) 0(⟨Nat.zero_le _,Nat.zero_le _,rfl⟩)(QK(.cons rfl lr(.cons rfl lr(.cons rfl lr(.cons rfl lr(.cons rfl lr(.cons rfl lr .nil))))))(Reown.refl _)(fun _ h=>by first|exact h|simp[h])) ?_
  intro k⟨hk,hk2,hs⟩
  refine J.conv(by(try simp only[nl,Qk,Qz,QA,Qy,QR,AV.cellsOf,Qd,Qe,Nat.reduceAdd]);rfl) ?_
  refine Zs(Zq rfl(QW.lss(.tmp rfl)(.tmp rfl))(Zn(J.seq ?_)))
  refine J.cond(.tmp rfl)(fun c1=>?_)(fun c1=>?_)
  ·skip
    have hlt:k<a.length:=by simpa using c1
    refine Zk(J.seq(J.block(Zs(Zq rfl(QW.move(.tmp rfl))(Zq rfl(Qi QO Qj rfl(.tmp rfl)(.tmp rfl)rfl(V.css_getE _ hlt))(Zq rfl(Ql Qj(.tmp rfl)(QH vl rfl)vl)(JL.alloc WV rfl rfl fun b8=>Zq rfl(QW.assign(.tmp rfl))(Qc 0 Qj(.tmp rfl)rfl(.tmp rfl)rfl vl rfl rfl ?_))))))))
    refine Zn(J.seq(Zs(Zq rfl(QW.move(.tmp rfl))(Zq rfl(QW.move(.tmp rfl))(Zq rfl(Qh QO(.tmp rfl)wl)(Zq rfl(QW.geq(.tmp rfl)(.tmp rfl))(Zn ?_)))))))
    refine J.cond(.tmp rfl)(fun c2=>?_)(fun c2=>?_)
    ·skip
      have hg2:b.length≤k:=by simpa using c2
      exact Zs(Zq rfl(QW.assign .const)(Zn(J.ret(thenQ.r(blkQ.r(thenQ.r(thenQ.r(blkQ.r(thenQ.r(Zr [.k](RetEv.one rfl(REv.tmp rfl lr))rfl⟨by rw[hs,Sv hlt hg2],rfl⟩))))))))))
    have hlt2:k<b.length:=by simpa using c2
    refine Zk(Zs(Zq rfl(QW.move(.tmp rfl))(Zq rfl(QW.move(.tmp rfl))(Zq rfl(Qi QO Qj rfl(.tmp rfl)(.tmp rfl)rfl(V.css_getE _ hlt2))(Zq rfl(Ql Qj(.tmp rfl)(QH vl rfl)vl)(JL.alloc WV rfl rfl fun b9=>Qc 0 Qj(.tmp rfl)rfl(.tmp rfl)rfl vl rfl rfl(Zn(Zs ?_))))))))
    refine Zq rfl(QW.move(.tmp rfl))(Zq rfl(Qf 1 Qj(.tmp rfl)rfl(Qm vl rfl)vl)(Zq rfl(Qf 0 Qj(.tmp rfl)rfl(Qm vl rfl)vl)(Zq rfl(QW.callV EM(.tmp rfl)(.cons(.tmp rfl)(.cons(.tmp rfl) .nil))rfl(ih _(List.getElem_mem hlt)_(List.getElem_mem hlt2)))(Zq rfl(QW.assign(.tmp rfl))(Zn(Zs(Zq rfl(QW.move(.tmp rfl))(Zq rfl(QW.neq(.tmp rfl) .const)(Zn ?_)))))))))
    refine J.cond(.tmp rfl)(fun c3=>?_)(fun c3=>?_)
    ·skip
      have hz:(a[k]'hlt).ord(b[k]'hlt2)≠0:=by simpa using c3
      exact Zs(Zq rfl(QW.move(.tmp rfl))(Zq rfl(QW.assign(.tmp rfl))(Zn(J.ret(blkQ.r(thenQ.r(thenQ.r(blkQ.r(thenQ.r(Zr [.k,.k](RetEv.one rfl(REv.tmp rfl lr))rfl⟨by rw[hs,M1 hlt hlt2,En hz],rfl⟩))))))))))
    have hz:(a[k]'hlt).ord(b[k]'hlt2)=0:=by simpa using c3
    refine J.skip(blkQ.n(thenQ.n(Qg(Zq rfl(QW.add(.tmp rfl) .const(W0(by omega)))(Zq rfl(QW.move(.tmp rfl))(Zn ?_))))))
    exact⟨k+1,⟨hlt,hlt2,by rw[hs,M1 hlt hlt2,hz,Em]⟩,by omega,QK(.cons rfl lr(.cons rfl lr(.cons rfl lr(.cons rfl lr(.cons rfl lr(.cons rfl lr .nil))))))(Q9 2 _ rfl)(fun _ h=>by first|exact h|simp[h])⟩
  have hge:a.length≤k:=by simpa using c1
  refine J.exit(Qv(Qv(QM(thenQ.n(J.seq(Zs(Zq rfl(QW.move(.tmp rfl))(Zq rfl(Qh QO(.tmp rfl)wl)(Zq rfl(QW.move(.tmp rfl)) ?_)))))))))
  refine Zq rfl(Qh QO(.tmp rfl)wl)(Zq rfl(QW.lss(.tmp rfl)(.tmp rfl))(Zn ?_))
  refine J.cond(.tmp rfl)(fun c2=>?_)(fun c2=>?_)
  ·skip
    have hx:a.length<b.length:=by simpa using c2
    exact Zs(Zq rfl(QW.assign .const)(Zn(J.ret(thenQ.r(Zr [](RetEv.one rfl(REv.tmp rfl lr))rfl⟨by rw[hs,Su hge(by omega)],rfl⟩)))))
  have hx:b.length≤a.length:=by simpa using c2
  exact Zk(Zs(Zq rfl(QW.assign .const)(Zn(J.ret(Zr [](RetEv.one rfl(REv.tmp rfl lr))rfl⟨by rw[hs,Sw hge(by omega)],rfl⟩)))))

end
section
/- Walks: the order of values. -/
set_option maxRecDepth 10000
set_option maxHeartbeats 4000000
theorem FB:∀(n:Nat){v u:V}{ys zs:List AV}{fr fr2:Bool},Vc fr v ys→Vc fr2 u zs→v.wf→u.wf→v.sz≤n→
    Fn Tryz.prog 124 [.agg ys,.agg zs](.c(.int .i64(v.ord u))):=by
  intro n
  induction n with
  |zero=>intro v u ys zs fr fr2 hv hu hw hw2 h;exact absurd h(by have:=V.sz_pos v;omega)
  |succ n ih=>
    intro v u ys zs fr fr2 hv hu hw hw2 hn
    obtain⟨k,b,t,ks,is⟩:=v
    obtain⟨k',b',t',ks',is'⟩:=u
    subst hv hu
    obtain⟨-,hb,-,hk16,hi80,-,hwi⟩:=hw.inv
    obtain⟨-,hb2,-,hk16',hi80',-,hwi'⟩:=hw2.inv
    have h1:is.length≤8796093022208:=by unfold Qu at hi80;omega
    have h2:is'.length≤8796093022208:=by unfold Qu at hi80';omega
    have h3:ks.length≤8796093022208:=by unfold Qu at hk16;omega
    have h4:ks'.length≤8796093022208:=by unfold Qu at hk16';omega
    refine AC.of_J Tryz.func124 rfl Tryz.ntmps124 rfl fun w0 A0=>?_
    refine Zs(Qp(.tmp rfl)rfl fun b2=>Qp(.tmp rfl)rfl fun b3=>Zq rfl(QW.assign .const)(Zn(J.seq(Zs(Zq rfl(Qa UK(.tmp rfl)rfl)(Zq rfl(Qb 1 UR(.tmp rfl)rfl rfl)(Zq rfl(Qa UK(.tmp rfl)rfl) ?_)))))))
    refine Zq rfl(Qb 0 UR(.tmp rfl)rfl rfl)(Zq rfl(QW.call SS(.cons(.tmp rfl)(.cons(.tmp rfl) .nil))(QaA _ _))(Zq rfl(QW.assign(.tmp rfl))(Zn(Zs(Zq rfl(QW.move(.tmp rfl))(Zq rfl(QW.neq(.tmp rfl) .const)(Zn ?_)))))))
    refine J.cond(.tmp rfl)(fun c1=>?_)(fun c1=>?_)
    ·skip
      have hz:HD k k'≠0:=by simpa using c1
      exact Zs(Zq rfl(QW.move(.tmp rfl))(Zq rfl(QW.assign(.tmp rfl))(Zn(J.ret(thenQ.r(Zr [.k,.k](RetEv.one rfl(REv.tmp rfl lr))rfl⟨by simp only[V.ord];rw[En hz],rfl⟩))))))
    have hz:HD k k'=0:=by simpa using c1
    refine Zk(J.seq(QU Ud(Zf 0 []rfl(fun _=>Qa Uv(.tmp rfl)rfl)(Zo 1 1 [16]rfl(fun _ ho_=>Qb 1 Wn(.tmp rfl)ho_ rfl)(Zf 2 []rfl(fun _=>Qa Uv(.tmp rfl)rfl)(Zo 3 0 [18]rfl(fun _ ho_=>Qb 0 Wn(.tmp rfl)ho_ rfl)(Zf 4 [17]rfl(fun _=>QW.assign(.tmp rfl))(Zf 5 [19]rfl(fun _=>QW.assign(.tmp rfl))(JX.fin(by kernel_rfl)(by kernel_rfl)fun bs_=>?_)))))))))
    refine QX.conv(by(try simp only[Ub,Uk,Q5,QS,Flt.val,Flt.bx,nx,nl,Qk,Qz,QA,Qy,QR,AV.cellsOf,Qd,Qe,Nat.reduceAdd]);rfl) ?_
    refine thenQ.n(Rw(ι:=Nat×Nat) [2,3,4](fun⟨n1,n2⟩=>[(6,.c(.int .u64(n1:Int))),(7,.c(.int .u64(n2:Int)))])(fun⟨n1,n2⟩oo=>oo)(fun⟨n1,n2⟩=>n1=Rp k b∧n2=Rp k b') ?_ ?_)
    ·skip
      refine Zs(Zq rfl(Qa UK(.tmp rfl)rfl)(Zq rfl(Qb 1 UR(.tmp rfl)rfl rfl)(Zq rfl(QW.eql(.tmp rfl) .const)(Zn ?_))))
      refine J.cond(.tmp rfl)(fun c2=>?_)(fun c2=>?_)
      ·skip
        have hk2:k=2:=by simpa using c2
        refine Qg(Zq rfl(QW.move(.tmp rfl))(Zq rfl(QW.call EJ(.cons(.tmp rfl) .nil)(RV _(by assumption))) ?_))
        refine Zq rfl(QW.move(.tmp rfl))(Zq rfl(QW.call EJ(.cons(.tmp rfl) .nil)(RV _(by assumption))) ?_)
        refine Zq rfl(QW.assign(.tmp rfl))(Zq rfl(QW.assign(.tmp rfl))(Zn ?_))
        exact⟨⟨Gn b,Gn b'⟩,⟨(if_pos hk2).symm,(if_pos hk2).symm⟩,QK(.cons rfl lr(.cons rfl lr(.cons rfl lr(.cons rfl lr(.cons rfl lr .nil)))))(Reown.refl _)(fun _ h=>by first|exact h|simp[h])⟩
      have hk2:k≠2:=by simpa using c2
      refine Zk ?_
      exact⟨⟨b,b'⟩,⟨(if_neg hk2).symm,(if_neg hk2).symm⟩,QK(.cons rfl lr(.cons rfl lr(.cons rfl lr(.cons rfl lr(.cons rfl lr .nil)))))(Reown.refl _)(fun _ h=>by first|exact h|simp[h])⟩
    ·intro⟨n1,n2⟩⟨hn1,hn2⟩
      refine J.conv(by(try simp only[nl,Qk,Qz,QA,Qy,QR,AV.cellsOf,Qd,Qe,Nat.reduceAdd]);rfl) ?_
      refine J.seq(QU Ud(Zf 0 []rfl(fun _=>QW.move(.tmp rfl))(Zf 1 []rfl(fun _=>QW.move(.tmp rfl))(Zf 2 [27,28]rfl(fun _=>QW.call SQ(.cons(.tmp rfl)(.cons(.tmp rfl) .nil))(Qaw _ _))(Zf 3 []rfl(fun _=>Qa Yp(.tmp rfl)rfl)(Zo 4 1 [30]rfl(fun _ ho_=>Qb 1 Wc(.tmp rfl)ho_ rfl)(Zf 5 []rfl(fun _=>Qa Yp(.tmp rfl)rfl)(Zo 6 0 [32]rfl(fun _ ho_=>Qb 0 Wc(.tmp rfl)ho_ rfl)(Zf 7 [31,33]rfl(fun _=>QW.call EI(.cons(.tmp rfl)(.cons(.tmp rfl) .nil))(No _ _)) ?_)))))))))
      refine Zf 8 []rfl(fun _=>Qa U9(.tmp rfl)rfl)(Zo 9 1 [35]rfl(fun _ ho_=>Qb 1 YS(.tmp rfl)ho_ rfl)(Zf 10 []rfl(fun _=>Qa U9(.tmp rfl)rfl)(Zo 11 0 [37]rfl(fun _ ho_=>Qb 0 YS(.tmp rfl)ho_ rfl)(Zf 12 [36,38]rfl(fun _=>QW.call SP(.cons(.tmp rfl)(.cons(.tmp rfl) .nil))(DT ks ks' h3 h4))(Zf 13 []rfl(fun _=>Qa Ue(.tmp rfl)rfl)(Zo 14 1 [40]rfl(fun _ ho_=>Qb 1 U6(.tmp rfl)ho_ rfl)(Zf 15 []rfl(fun _=>Qa Ue(.tmp rfl)rfl)(Zo 16 0 [42]rfl(fun _ ho_=>Qb 0 U6(.tmp rfl)ho_ rfl)(Zf 17 [41,43]rfl(fun _=>QW.call SO(.cons(.tmp rfl)(.cons(.tmp rfl)(.cons .func .nil)))(DS is is' h1 h2(fun x hx y hy=>(by obtain⟨i,hi,rfl⟩:=List.getElem_of_mem hx;exact ih Vc.self Vc.self(hwi _ hx)(hwi' _ hy)(V.sz_get hn hi))))) ?_)))))))))
      refine Zf 18 [29,34,39,44]rfl(fun _=>QW.buildSlice(idx:=[0,1,2,3])(xs:=[[.c(.int .i64(HD(n1:Int)(n2:Int)))],[.c(.int .i64(Mf t t'))],[.c(.int .i64(Gb ks ks'))],[.c(.int .i64(WI is is'))]])YJ C8 z3 rfl(.cons(.tmp rfl)(.cons(.tmp rfl)(.cons(.tmp rfl)(.cons(.tmp rfl) .nil))))rfl rfl rfl rfl rfl rfl rfl rfl rfl)(Zf 19 [45]rfl(fun _=>QW.call SR(.cons(.tmp rfl) .nil)(or_ok [(HD(n1:Int)(n2:Int)),(Mf t t'),(Gb ks ks'),(WI is is')](by simp))) ?_)
      refine Zf 20 [46]rfl(fun _=>QW.assign(.tmp rfl))(JX.fin(by kernel_rfl)(by kernel_rfl)fun bs_=>?_)
      refine QX.conv(by(try simp only[Ub,Uk,Q5,QS,Flt.val,Flt.bx,nx,nl,Qk,Qz,QA,Qy,QR,AV.cellsOf,Qd,Qe,Nat.reduceAdd]);rfl) ?_
      exact thenQ.n(J.ret(Zr [.k,.k](RetEv.one rfl(REv.tmp rfl lr))rfl⟨by simp only[V.ord];rw[hz,Em,← hn1,← hn2];simp only[Fy];rw[show Eo(WI is is') 0=WI is is' from Sx _],rfl⟩))
theorem Ci {v u:V}{ys zs:List AV}{fr fr2:Bool}(hv:Vc fr v ys)(hu:Vc fr2 u zs)(hw:v.wf)(hw2:u.wf):Fn Tryz.prog 124 [.agg ys,.agg zs](.c(.int .i64(v.ord u))):=FB _ hv hu hw hw2(Nat.le_refl _)

end
section
/- Walks: values compared; ValueOrders, ValueOrder. -/
set_option maxRecDepth 10000
set_option maxHeartbeats 4000000
def PF(v u:V):AV:=.tup [.c(.int .i64(v.cmp u).1),.c(.int .i64(v.cmp u).2)]
theorem Mg {v u:V}{c e:Int}(h:v.cmp u=(c,e)):PF v u=.tup [.c(.int .i64 c),.c(.int .i64 e)]:=by rw[PF,h]
theorem Ef {fr fr2:Bool}{v u:V}{ys zs:List AV}(hv:Vc fr v ys)(hu:Vc fr2 u zs)(hw:v.wf)(hw2:u.wf):Fn Tryz.prog 114 [.agg ys,.agg zs](PF v u):=by
  subst hv hu
  refine AC.of_J Tryz.func114 rfl Tryz.ntmps114 rfl fun w0 A0=>?_
  refine Zs(Qp(.tmp rfl)rfl fun b2=>Qp(.tmp rfl)rfl fun b3=>Zq rfl(QW.assign .const)(Zq rfl(QW.assign .const)(Zn(J.seq(Zs(Zq rfl(Qf 1 Qj(.tmp rfl)rfl(Qm vl rfl)vl)(Zq rfl(QW.call XA(.cons(.tmp rfl) .nil)(W9 Vc.self hw)) ?_)))))))
  refine Zq rfl(QW.assign(.tmp rfl))(Zn(Zs(Zq rfl(QW.move(.tmp rfl))(Zq rfl(QW.neq(.tmp rfl) .const)(Zn ?_)))))
  refine J.cond(.tmp rfl)(fun c1=>?_)(fun c1=>?_)
  ·skip
    simp at c1
    exact Zs(Zq rfl(QW.move(.tmp rfl))(Zq rfl(QW.assign .const)(Zq rfl(QW.assign(.tmp rfl))(Zn(J.ret(thenQ.r(Zr [.k,.k](QB rfl(REv.tmp rfl lr)(REv.tmp rfl lr))rfl⟨congrArg W5.ret(Mg(c:=0)(e:=v.err)(by rw[V.cmp,if_pos c1])).symm,rfl⟩)))))))
  simp at c1
  have hf:=V.fine_of c1
  refine Zk(J.seq(Zs(Zq rfl(Qf 0 Qj(.tmp rfl)rfl(Qm vl rfl)vl)(Zq rfl(QW.call XA(.cons(.tmp rfl) .nil)(W9 Vc.self hw2))(Zq rfl(QW.assign(.tmp rfl))(Zn(Zs(Zq rfl(QW.move(.tmp rfl))(Zq rfl(QW.neq(.tmp rfl) .const) ?_)))))))))
  refine Zn ?_
  refine J.cond(.tmp rfl)(fun c2=>?_)(fun c2=>?_)
  ·skip
    simp at c2
    exact Zs(Zq rfl(QW.move(.tmp rfl))(Zq rfl(QW.assign .const)(Zq rfl(QW.assign(.tmp rfl))(Zn(J.ret(thenQ.r(Zr [.k,.k](QB rfl(REv.tmp rfl lr)(REv.tmp rfl lr))rfl⟨congrArg W5.ret(Mg(c:=0)(e:=u.err)(by rw[V.cmp,if_neg(by simp[c1]),if_pos c2])).symm,rfl⟩)))))))
  simp at c2
  have hg:=V.fine_of c2
  exact Zk(Zs(Zq rfl(Qf 1 Qj(.tmp rfl)rfl(Qm vl rfl)vl)(Zq rfl(Qf 0 Qj(.tmp rfl)rfl(Qm vl rfl)vl)(Zq rfl(QW.call EM(.cons(.tmp rfl)(.cons(.tmp rfl) .nil))(Ci Vc.self Vc.self hw hw2))(Zq rfl(QW.assign(.tmp rfl))(Zq rfl(QW.assign .const)(Zn(J.ret(Zr [.k,.k](QB rfl(REv.tmp rfl lr)(REv.tmp rfl lr))rfl⟨congrArg W5.ret(Mg(c:=v.ord u)(e:=0)(by rw[V.cmp,if_neg(by simp[c1]),if_neg(by simp[c2])])).symm,rfl⟩)))))))))
theorem P6 {fr fr2:Bool}{v u:V}{ys zs:List AV}(hv:Vc fr v ys)(hu:Vc fr2 u zs)(hw:v.wf)(hw2:u.wf):Fn Tryz.prog 113 [.agg ys,.agg zs](.c(.bool(v.one u))):=by
  subst hv hu
  refine AC.of_J Tryz.func113 rfl Tryz.ntmps113 rfl fun w0 A0=>?_
  refine Zs(Qp(.tmp rfl)rfl fun b2=>Qp(.tmp rfl)rfl fun b3=>Zq rfl(QW.assign .const)(Zn(Zs(Zq rfl(Qf 1 Qj(.tmp rfl)rfl(Qm vl rfl)vl)(Zq rfl(Qf 0 Qj(.tmp rfl)rfl(Qm vl rfl)vl)(Zq rfl(QW.call EN(.cons(.tmp rfl)(.cons(.tmp rfl) .nil))(Ef Vc.self Vc.self hw hw2))(Zq rfl(QW.move(.tmp rfl)) ?_)))))))
  refine Zq rfl(QW.extract(.tmp rfl)rfl)(Zq rfl(QW.extract(.tmp rfl)rfl)(Zq rfl(QW.assign(.tmp rfl))(Zq rfl(QW.assign(.tmp rfl))(Zn(Zs(Zq rfl(QW.move(.tmp rfl))(Zq rfl(QW.eql(.tmp rfl) .const)(Zq rfl(QW.move(.tmp rfl))(Zg rfl(fun hg=>(QW.move(.tmp rfl))) ?_)))))))))
  exact Zg rfl(fun hg=>(QW.eql(.when rfl hg) .const))(Zq rfl(QW.pick_and(.tmp rfl)(.tmp rfl))(Zq rfl(QW.assign(.tmp rfl))(Zn(J.ret(Zr [.k,.k](RetEv.one rfl(REv.tmp rfl lr))rfl⟨by unfold V.one;rfl,rfl⟩)))))

end
section
/- Walks: operations whose parts are all reckoned. -/
set_option maxRecDepth 10000
set_option maxHeartbeats 4000000
theorem RS {o:Int}(ho:o=11∨o=12∨o=13∨o=14)(t:Uj)(a b:V):US o t [a,b]=if a.kind≠2∨b.kind≠2 then .error 81 else .ok(.nu(DX o a.bits b.bits)):=by
  rcases ho with rfl|rfl|rfl|rfl<;>rfl
theorem pe15(t:Uj)(a:V):US 15 t [a]=if a.kind=2 then .ok(.nu(Kc a.bits))else .error 81:=rfl
theorem pe16(t:Uj)(a b:V):US 16 t [a,b]=.ok(.tr(a.ord b==0)):=rfl
theorem pe17(t:Uj)(a b:V):US 17 t [a,b]=if b.kind=a.kind then .ok(.tr(decide(a.ord b<0)))else .error 81:=rfl
theorem pe20(t:Uj)(a:V):US 20 t [a]=if a.kind=1 then .ok(.tr(a.bits==0))else .error 81:=rfl
theorem pe22(t:Uj)(a b:V):US 22 t [a,b]=if a.kind≠3∨b.kind≠3 then .error 81 else if 128<a.text.length+b.text.length then .error 84 else .ok(.tx(a.text++b.text)):=rfl
theorem pe26(t:Uj)(a:V):US 26 t [a]=if a.kind≠2 then .error 81 else if XK a.bits≠0 then .error 7 else .ok(.tx(Dp(Xz a.bits))):=rfl
theorem F8 {fr:Bool}{o:Int}{bb:Nat}{t:Uj}{args:List EX}{l:List V}{ys:List AV}(he:Xc fr(.mk o bb t args)ys)(ht:t.length≤Qu)(hl:∀x∈l,x.good)(hn:l.length≤8∧(o=23∨((o=8∨o=10∨o=15∨o=20∨o=26)∧l.length=1)∨((o=9∨o=11∨o=12∨o=13∨o=14∨o=16∨o=17∨o=22∨o=24∨o=25)∧l.length=2))):
    AC Tryz.prog 100 [] [.agg ys,.sl false false eV(V.css false l)](PlR(US o t l)):=by
  subst he
  obtain⟨hn8,hn⟩:=hn
  refine AC.of_J Tryz.func100 rfl Tryz.ntmps100 rfl fun w0 A0=>?_
  refine Zs(Qp(.tmp rfl)rfl fun b2=>JL.alloc WV rfl rfl fun b4=>Zn(J.seq(Zs(Zq rfl(Qa YU(.tmp rfl)rfl)(Zq rfl(Qb 1 UR(.tmp rfl)rfl rfl)(Zn(J.block ?_)))))))
  refine J.seq(Zs(Zq rfl(QW.eql(.tmp rfl) .const)(Zq rfl(QW.assign(.tmp rfl))(Zn ?_))))
  refine J.cond(.tmp rfl)(fun c1=>?_)(fun c1=>?_)
  ·skip
    have ho:o=11∨o=12∨o=13∨o=14:=by(simp at c1;omega)
    obtain⟨a,b,rfl⟩:=Xu(l:=l)(by omega)
    have ha:=hl a(by simp)
    have hb:=hl b(by simp)
    refine Zk ?_
    refine J.cond(.tmp rfl)(fun c2=>?_)(fun c2=>absurd c2(by rw[c1];decide))
    refine Zs(Zq rfl(QW.move(.tmp rfl))(Zq rfl(QW.buildSlice(idx:=[0,1])(xs:=WF [2,2])YJ C8 z3 rfl(.cons .const(.cons .const .nil))rfl rfl rfl rfl rfl rfl rfl rfl rfl) ?_))
    refine Qs []Yd rfl Lent.nil(fun _=>(.cons(.tmp rfl)(.cons(.tmp rfl) .nil)))(Wx _ [2,2](by simp)(by simp))(.inl rfl)(fun k18 x18 o18 h18=>?_)(fun k18=>?_)
    rotate_left
    ·skip
      refine thenQ.p(blkQ.p(thenQ.p ?_))
      exact⟨_,QN [.k,.k]_,_,rfl,rfl,Qn [.k,.k]_,PlR.er(c:=81)((RS ho t a b).trans(if_pos(by simp[Uh]at k18;omega)))(by decide)⟩
    obtain⟨rfl,rfl⟩:=h18
    refine Zn(J.seq(QU Ud(Zf 0 []rfl(fun _=>Qa YU(.tmp rfl)rfl)(Zo 1 1 [19]rfl(fun _ ho_=>Qb 1 UR(.tmp rfl)ho_ rfl)(Zf 2 []rfl(fun _=>QW.move(.tmp rfl))(Zf 3 [21]rfl(fun _=>Qi QO Qj rfl(.tmp rfl) .const rfl rfl)(Zf 4 [22]rfl(fun _=>Qt Uv(.tmp rfl)rfl)(Zf 5 [23]rfl(fun _=>Qq Wn(.tmp rfl)(YW _ _))(Zf 6 []rfl(fun _=>QW.move(.tmp rfl)) ?_)))))))))
    refine Zf 7 [25]rfl(fun _=>Qi QO Qj rfl(.tmp rfl) .const rfl rfl)(Zf 8 [26]rfl(fun _=>Qt Uv(.tmp rfl)rfl)(Zf 9 [27]rfl(fun _=>Qq Wn(.tmp rfl)(YW _ _))(Zf 10 [20,24,28]rfl(fun _=>QW.call Li(.cons(.tmp rfl)(.cons(.tmp rfl)(.cons(.tmp rfl) .nil)))(Ha _ _ _))(JX.one 11 [true,true,true,true,true,true,true,true,true,true,true]rfl(by kernel_rfl)(by kernel_rfl)rfl rfl(by kernel_rfl)rfl fun bs11_ pe_ ex_=>?_))))
    refine JL.conv(by(try simp only[Ub,Uk,Q5,QS,Flt.val,Flt.bx,nx,nl,Qk,Qz,QA,Qy,QR,AV.cellsOf,Qd,Qe,Nat.reduceAdd]);rfl) ?_
    refine Qc 0 Qj(.tmp rfl)rfl(.tmp rfl)rfl rfl rfl rfl(JL.nil ?_)
    refine thenQ.n⟨[],_,rfl,rfl,rfl,rfl,rfl,QJ 2 rfl,trivial,trivial,?_⟩
    refine JX.conv(S':=[11,10,9,8,7,6,5,4,3,2,1,0])rfl(by(try simp only[QS]);rfl)(by(try simp only[Ub,Uk,Q5,QS,Flt.val,Flt.bx,nx,nl,Qk,Qz,QA,Qy,QR,AV.cellsOf,Qd,Qe,Nat.reduceAdd]);rfl) ?_
    refine JX.fin(by kernel_rfl)(by kernel_rfl)fun bs_=>?_
    refine QX.conv(by(try simp only[Ub,Uk,Q5,QS,Flt.val,Flt.bx,nx,nl,Qk,Qz,QA,Qy,QR,AV.cellsOf,Qd,Qe,Nat.reduceAdd]);rfl) ?_
    exact thenQ.n(J.ret(blkQ.r(thenQ.r(Zr [.k,.k](RetEv.one rfl(REv.cell 0 Qj rfl rfl rfl rfl lr))rfl(PlR.ok((RS ho t a b).trans(if_neg(by simp[Uh]at k18;omega))))))))
  have n11:¬o=11:=by simpa using c1
  refine Zs(Zq rfl(QW.eql(.tmp rfl) .const)(Zq rfl(QW.assign(.tmp rfl))(Zn ?_)))
  refine J.cond(.tmp rfl)(fun c2=>?_)(fun c2=>?_)
  ·skip
    have ho:o=11∨o=12∨o=13∨o=14:=by(simp at c2;omega)
    obtain⟨a,b,rfl⟩:=Xu(l:=l)(by omega)
    have ha:=hl a(by simp)
    have hb:=hl b(by simp)
    refine Zk ?_
    refine J.cond(.tmp rfl)(fun c3=>?_)(fun c3=>absurd c3(by rw[c2];decide))
    refine Zs(Zq rfl(QW.move(.tmp rfl))(Zq rfl(QW.buildSlice(idx:=[0,1])(xs:=WF [2,2])YJ C8 z3 rfl(.cons .const(.cons .const .nil))rfl rfl rfl rfl rfl rfl rfl rfl rfl) ?_))
    refine Qs []Yd rfl Lent.nil(fun _=>(.cons(.tmp rfl)(.cons(.tmp rfl) .nil)))(Wx _ [2,2](by simp)(by simp))(.inl rfl)(fun k18 x18 o18 h18=>?_)(fun k18=>?_)
    rotate_left
    ·skip
      refine thenQ.p(blkQ.p(thenQ.p ?_))
      exact⟨_,QN [.k,.k]_,_,rfl,rfl,Qn [.k,.k]_,PlR.er(c:=81)((RS ho t a b).trans(if_pos(by simp[Uh]at k18;omega)))(by decide)⟩
    obtain⟨rfl,rfl⟩:=h18
    refine Zn(J.seq(QU Ud(Zf 0 []rfl(fun _=>Qa YU(.tmp rfl)rfl)(Zo 1 1 [19]rfl(fun _ ho_=>Qb 1 UR(.tmp rfl)ho_ rfl)(Zf 2 []rfl(fun _=>QW.move(.tmp rfl))(Zf 3 [21]rfl(fun _=>Qi QO Qj rfl(.tmp rfl) .const rfl rfl)(Zf 4 [22]rfl(fun _=>Qt Uv(.tmp rfl)rfl)(Zf 5 [23]rfl(fun _=>Qq Wn(.tmp rfl)(YW _ _))(Zf 6 []rfl(fun _=>QW.move(.tmp rfl)) ?_)))))))))
    refine Zf 7 [25]rfl(fun _=>Qi QO Qj rfl(.tmp rfl) .const rfl rfl)(Zf 8 [26]rfl(fun _=>Qt Uv(.tmp rfl)rfl)(Zf 9 [27]rfl(fun _=>Qq Wn(.tmp rfl)(YW _ _))(Zf 10 [20,24,28]rfl(fun _=>QW.call Li(.cons(.tmp rfl)(.cons(.tmp rfl)(.cons(.tmp rfl) .nil)))(Ha _ _ _))(JX.one 11 [true,true,true,true,true,true,true,true,true,true,true]rfl(by kernel_rfl)(by kernel_rfl)rfl rfl(by kernel_rfl)rfl fun bs11_ pe_ ex_=>?_))))
    refine JL.conv(by(try simp only[Ub,Uk,Q5,QS,Flt.val,Flt.bx,nx,nl,Qk,Qz,QA,Qy,QR,AV.cellsOf,Qd,Qe,Nat.reduceAdd]);rfl) ?_
    refine Qc 0 Qj(.tmp rfl)rfl(.tmp rfl)rfl rfl rfl rfl(JL.nil ?_)
    refine thenQ.n⟨[],_,rfl,rfl,rfl,rfl,rfl,QJ 2 rfl,trivial,trivial,?_⟩
    refine JX.conv(S':=[11,10,9,8,7,6,5,4,3,2,1,0])rfl(by(try simp only[QS]);rfl)(by(try simp only[Ub,Uk,Q5,QS,Flt.val,Flt.bx,nx,nl,Qk,Qz,QA,Qy,QR,AV.cellsOf,Qd,Qe,Nat.reduceAdd]);rfl) ?_
    refine JX.fin(by kernel_rfl)(by kernel_rfl)fun bs_=>?_
    refine QX.conv(by(try simp only[Ub,Uk,Q5,QS,Flt.val,Flt.bx,nx,nl,Qk,Qz,QA,Qy,QR,AV.cellsOf,Qd,Qe,Nat.reduceAdd]);rfl) ?_
    exact thenQ.n(J.ret(blkQ.r(thenQ.r(Zr [.k,.k](RetEv.one rfl(REv.cell 0 Qj rfl rfl rfl rfl lr))rfl(PlR.ok((RS ho t a b).trans(if_neg(by simp[Uh]at k18;omega))))))))
  have n12:¬o=12:=by simpa using c2
  refine Zs(Zq rfl(QW.eql(.tmp rfl) .const)(Zq rfl(QW.assign(.tmp rfl))(Zn ?_)))
  refine J.cond(.tmp rfl)(fun c3=>?_)(fun c3=>?_)
  ·skip
    have ho:o=11∨o=12∨o=13∨o=14:=by(simp at c3;omega)
    obtain⟨a,b,rfl⟩:=Xu(l:=l)(by omega)
    have ha:=hl a(by simp)
    have hb:=hl b(by simp)
    refine Zk ?_
    refine J.cond(.tmp rfl)(fun c4=>?_)(fun c4=>absurd c4(by rw[c3];decide))
    refine Zs(Zq rfl(QW.move(.tmp rfl))(Zq rfl(QW.buildSlice(idx:=[0,1])(xs:=WF [2,2])YJ C8 z3 rfl(.cons .const(.cons .const .nil))rfl rfl rfl rfl rfl rfl rfl rfl rfl) ?_))
    refine Qs []Yd rfl Lent.nil(fun _=>(.cons(.tmp rfl)(.cons(.tmp rfl) .nil)))(Wx _ [2,2](by simp)(by simp))(.inl rfl)(fun k18 x18 o18 h18=>?_)(fun k18=>?_)
    rotate_left
    ·skip
      refine thenQ.p(blkQ.p(thenQ.p ?_))
      exact⟨_,QN [.k,.k]_,_,rfl,rfl,Qn [.k,.k]_,PlR.er(c:=81)((RS ho t a b).trans(if_pos(by simp[Uh]at k18;omega)))(by decide)⟩
    obtain⟨rfl,rfl⟩:=h18
    refine Zn(J.seq(QU Ud(Zf 0 []rfl(fun _=>Qa YU(.tmp rfl)rfl)(Zo 1 1 [19]rfl(fun _ ho_=>Qb 1 UR(.tmp rfl)ho_ rfl)(Zf 2 []rfl(fun _=>QW.move(.tmp rfl))(Zf 3 [21]rfl(fun _=>Qi QO Qj rfl(.tmp rfl) .const rfl rfl)(Zf 4 [22]rfl(fun _=>Qt Uv(.tmp rfl)rfl)(Zf 5 [23]rfl(fun _=>Qq Wn(.tmp rfl)(YW _ _))(Zf 6 []rfl(fun _=>QW.move(.tmp rfl)) ?_)))))))))
    refine Zf 7 [25]rfl(fun _=>Qi QO Qj rfl(.tmp rfl) .const rfl rfl)(Zf 8 [26]rfl(fun _=>Qt Uv(.tmp rfl)rfl)(Zf 9 [27]rfl(fun _=>Qq Wn(.tmp rfl)(YW _ _))(Zf 10 [20,24,28]rfl(fun _=>QW.call Li(.cons(.tmp rfl)(.cons(.tmp rfl)(.cons(.tmp rfl) .nil)))(Ha _ _ _))(JX.one 11 [true,true,true,true,true,true,true,true,true,true,true]rfl(by kernel_rfl)(by kernel_rfl)rfl rfl(by kernel_rfl)rfl fun bs11_ pe_ ex_=>?_))))
    refine JL.conv(by(try simp only[Ub,Uk,Q5,QS,Flt.val,Flt.bx,nx,nl,Qk,Qz,QA,Qy,QR,AV.cellsOf,Qd,Qe,Nat.reduceAdd]);rfl) ?_
    refine Qc 0 Qj(.tmp rfl)rfl(.tmp rfl)rfl rfl rfl rfl(JL.nil ?_)
    refine thenQ.n⟨[],_,rfl,rfl,rfl,rfl,rfl,QJ 2 rfl,trivial,trivial,?_⟩
    refine JX.conv(S':=[11,10,9,8,7,6,5,4,3,2,1,0])rfl(by(try simp only[QS]);rfl)(by(try simp only[Ub,Uk,Q5,QS,Flt.val,Flt.bx,nx,nl,Qk,Qz,QA,Qy,QR,AV.cellsOf,Qd,Qe,Nat.reduceAdd]);rfl) ?_
    refine JX.fin(by kernel_rfl)(by kernel_rfl)fun bs_=>?_
    refine QX.conv(by(try simp only[Ub,Uk,Q5,QS,Flt.val,Flt.bx,nx,nl,Qk,Qz,QA,Qy,QR,AV.cellsOf,Qd,Qe,Nat.reduceAdd]);rfl) ?_
    exact thenQ.n(J.ret(blkQ.r(thenQ.r(Zr [.k,.k](RetEv.one rfl(REv.cell 0 Qj rfl rfl rfl rfl lr))rfl(PlR.ok((RS ho t a b).trans(if_neg(by simp[Uh]at k18;omega))))))))
  have n13:¬o=13:=by simpa using c3
  refine Qg(Zq rfl(QW.eql(.tmp rfl) .const)(Zq rfl(QW.assign(.tmp rfl))(Zn ?_)))
  refine J.cond(.tmp rfl)(fun c4=>?_)(fun c4=>?_)
  ·skip
    have ho:o=11∨o=12∨o=13∨o=14:=by(simp at c4;omega)
    obtain⟨a,b,rfl⟩:=Xu(l:=l)(by omega)
    have ha:=hl a(by simp)
    have hb:=hl b(by simp)
    refine Zs(Zq rfl(QW.move(.tmp rfl))(Zq rfl(QW.buildSlice(idx:=[0,1])(xs:=WF [2,2])YJ C8 z3 rfl(.cons .const(.cons .const .nil))rfl rfl rfl rfl rfl rfl rfl rfl rfl) ?_))
    refine Qs []Yd rfl Lent.nil(fun _=>(.cons(.tmp rfl)(.cons(.tmp rfl) .nil)))(Wx _ [2,2](by simp)(by simp))(.inl rfl)(fun k18 x18 o18 h18=>?_)(fun k18=>?_)
    rotate_left
    ·skip
      refine thenQ.p(blkQ.p(thenQ.p ?_))
      exact⟨_,QN [.k,.k]_,_,rfl,rfl,Qn [.k,.k]_,PlR.er(c:=81)((RS ho t a b).trans(if_pos(by simp[Uh]at k18;omega)))(by decide)⟩
    obtain⟨rfl,rfl⟩:=h18
    refine Zn(J.seq(QU Ud(Zf 0 []rfl(fun _=>Qa YU(.tmp rfl)rfl)(Zo 1 1 [19]rfl(fun _ ho_=>Qb 1 UR(.tmp rfl)ho_ rfl)(Zf 2 []rfl(fun _=>QW.move(.tmp rfl))(Zf 3 [21]rfl(fun _=>Qi QO Qj rfl(.tmp rfl) .const rfl rfl)(Zf 4 [22]rfl(fun _=>Qt Uv(.tmp rfl)rfl)(Zf 5 [23]rfl(fun _=>Qq Wn(.tmp rfl)(YW _ _))(Zf 6 []rfl(fun _=>QW.move(.tmp rfl)) ?_)))))))))
    refine Zf 7 [25]rfl(fun _=>Qi QO Qj rfl(.tmp rfl) .const rfl rfl)(Zf 8 [26]rfl(fun _=>Qt Uv(.tmp rfl)rfl)(Zf 9 [27]rfl(fun _=>Qq Wn(.tmp rfl)(YW _ _))(Zf 10 [20,24,28]rfl(fun _=>QW.call Li(.cons(.tmp rfl)(.cons(.tmp rfl)(.cons(.tmp rfl) .nil)))(Ha _ _ _))(JX.one 11 [true,true,true,true,true,true,true,true,true,true,true]rfl(by kernel_rfl)(by kernel_rfl)rfl rfl(by kernel_rfl)rfl fun bs11_ pe_ ex_=>?_))))
    refine JL.conv(by(try simp only[Ub,Uk,Q5,QS,Flt.val,Flt.bx,nx,nl,Qk,Qz,QA,Qy,QR,AV.cellsOf,Qd,Qe,Nat.reduceAdd]);rfl) ?_
    refine Qc 0 Qj(.tmp rfl)rfl(.tmp rfl)rfl rfl rfl rfl(JL.nil ?_)
    refine thenQ.n⟨[],_,rfl,rfl,rfl,rfl,rfl,QJ 2 rfl,trivial,trivial,?_⟩
    refine JX.conv(S':=[11,10,9,8,7,6,5,4,3,2,1,0])rfl(by(try simp only[QS]);rfl)(by(try simp only[Ub,Uk,Q5,QS,Flt.val,Flt.bx,nx,nl,Qk,Qz,QA,Qy,QR,AV.cellsOf,Qd,Qe,Nat.reduceAdd]);rfl) ?_
    refine JX.fin(by kernel_rfl)(by kernel_rfl)fun bs_=>?_
    refine QX.conv(by(try simp only[Ub,Uk,Q5,QS,Flt.val,Flt.bx,nx,nl,Qk,Qz,QA,Qy,QR,AV.cellsOf,Qd,Qe,Nat.reduceAdd]);rfl) ?_
    exact thenQ.n(J.ret(blkQ.r(thenQ.r(Zr [.k,.k](RetEv.one rfl(REv.cell 0 Qj rfl rfl rfl rfl lr))rfl(PlR.ok((RS ho t a b).trans(if_neg(by simp[Uh]at k18;omega))))))))
  have n14:¬o=14:=by simpa using c4
  refine Zs(Zq rfl(QW.eql(.tmp rfl) .const)(Zq rfl(QW.assign(.tmp rfl))(Zn ?_)))
  refine J.cond(.tmp rfl)(fun c5=>?_)(fun c5=>?_)
  ·skip
    obtain rfl:o=15:=by simpa using c5
    obtain⟨a,rfl⟩:=LO(l:=l)(by omega)
    have ha:=hl a(by simp)
    refine Zs(Zq rfl(QW.move(.tmp rfl))(Zq rfl(QW.buildSlice(idx:=[0])(xs:=WF [2])YJ C8 z3 rfl(.cons .const .nil)rfl rfl rfl rfl rfl rfl rfl rfl rfl) ?_))
    refine Qs []Yd rfl Lent.nil(fun _=>(.cons(.tmp rfl)(.cons(.tmp rfl) .nil)))(Wx _ [2](by simp)(by simp))(.inl rfl)(fun k34 x34 o34 h34=>?_)(fun k34=>?_)
    rotate_left
    ·skip
      refine thenQ.p(blkQ.p(thenQ.p ?_))
      exact⟨_,QN [.k,.k]_,_,rfl,rfl,Qn [.k,.k]_,PlR.er(c:=81)((pe15 t a).trans(if_neg(by simpa[Uh]using k34)))(by decide)⟩
    obtain⟨rfl,rfl⟩:=h34
    refine Zn(Zs(Zq rfl(QW.move(.tmp rfl))(Zq rfl(Qi QO Qj rfl(.tmp rfl) .const rfl rfl)(Zq rfl(Qt Uv(.tmp rfl)rfl)(Zq rfl(Qq Wn(.tmp rfl)(YW _ _))(Zq rfl(QW.call S6(.cons(.tmp rfl) .nil)(Pj _))(Zq rfl(QW.call Gw(.cons(.tmp rfl) .nil)(Gp _))(Qc 0 Qj(.tmp rfl)rfl(.tmp rfl)rfl rfl rfl rfl(Zn ?_)))))))))
    exact J.ret(blkQ.r(thenQ.r(Zr [.k,.k](RetEv.one rfl(REv.cell 0 Qj rfl rfl rfl rfl lr))rfl(PlR.ok((pe15 t a).trans(if_pos(by simpa[Uh]using k34)))))))
  have n15:¬o=15:=by simpa using c5
  refine Zs(Zq rfl(QW.eql(.tmp rfl) .const)(Zq rfl(QW.assign(.tmp rfl))(Zn ?_)))
  refine J.cond(.tmp rfl)(fun c6=>?_)(fun c6=>?_)
  ·skip
    obtain rfl:o=16:=by simpa using c6
    obtain⟨a,b,rfl⟩:=Xu(l:=l)(by omega)
    have ha:=hl a(by simp)
    have hb:=hl b(by simp)
    refine J.seq(QU Ud(Zf 0 []rfl(fun _=>QW.move(.tmp rfl))(Zf 1 [43]rfl(fun _=>Qi QO Qj rfl(.tmp rfl) .const rfl rfl)(Zf 2 [44]rfl(fun _=>Ql Qj(.tmp rfl)(QH vl rfl)vl)(Zf 3 []rfl(fun _=>QW.move(.tmp rfl))(Zf 4 [46]rfl(fun _=>Qi QO Qj rfl(.tmp rfl) .const rfl rfl)(Zf 5 [47]rfl(fun _=>Ql Qj(.tmp rfl)(QH vl rfl)vl)(Zf 6 [45,48]rfl(fun _=>QW.call S5(.cons(.tmp rfl)(.cons(.tmp rfl) .nil))(P6 Vc.self Vc.self ha.wf hb.wf))(Zf 7 [49]rfl(fun _=>QW.call X7(.cons(.tmp rfl) .nil)(Wq _)) ?_)))))))))
    refine JX.one 8 [true,true,true,true,true,true,true,true]rfl(by kernel_rfl)(by kernel_rfl)rfl rfl(by kernel_rfl)rfl fun bs8_ pe_ ex_=>?_
    refine JL.conv(by(try simp only[Ub,Uk,Q5,QS,Flt.val,Flt.bx,nx,nl,Qk,Qz,QA,Qy,QR,AV.cellsOf,Qd,Qe,Nat.reduceAdd]);rfl) ?_
    refine Qc 0 Qj(.tmp rfl)rfl(.tmp rfl)rfl rfl rfl rfl(JL.nil ?_)
    refine thenQ.n⟨[],_,rfl,rfl,rfl,rfl,rfl,QJ 2 rfl,trivial,trivial,?_⟩
    refine JX.conv(S':=[8,7,6,5,4,3,2,1,0])rfl(by(try simp only[QS]);rfl)(by(try simp only[Ub,Uk,Q5,QS,Flt.val,Flt.bx,nx,nl,Qk,Qz,QA,Qy,QR,AV.cellsOf,Qd,Qe,Nat.reduceAdd]);rfl) ?_
    refine JX.fin(by kernel_rfl)(by kernel_rfl)fun bs_=>?_
    refine QX.conv(by(try simp only[Ub,Uk,Q5,QS,Flt.val,Flt.bx,nx,nl,Qk,Qz,QA,Qy,QR,AV.cellsOf,Qd,Qe,Nat.reduceAdd]);rfl) ?_
    exact thenQ.n(J.ret(blkQ.r(thenQ.r(Zr [.k,.k](RetEv.one rfl(REv.cell 0 Qj rfl rfl(Qm vl rfl)vl lr))rfl(PlR.ok((pe16 t a b).trans(by rw[V.one,V.cmp,if_neg(by simp[ha.err]),if_neg(by simp[hb.err])];simp)))))))
  have n16:¬o=16:=by simpa using c6
  refine Zs(Zq rfl(QW.eql(.tmp rfl) .const)(Zq rfl(QW.assign(.tmp rfl))(Zn ?_)))
  refine J.cond(.tmp rfl)(fun c7=>?_)(fun c7=>?_)
  ·skip
    obtain rfl:o=17:=by simpa using c7
    obtain⟨a,b,rfl⟩:=Xu(l:=l)(by omega)
    have ha:=hl a(by simp)
    have hb:=hl b(by simp)
    refine J.seq(QU Ud(Zf 0 []rfl(fun _=>QW.move(.tmp rfl))(Zf 1 [53]rfl(fun _=>Mu(l:=1)QO Qj rfl(.tmp rfl) .const rfl(by rw[V.css_length];simp)) ?_)))
    refine Zf 2 []rfl(fun _=>QW.move(.tmp rfl))(Zf 3 [55]rfl(fun _=>Qi QO Qj rfl(.tmp rfl) .const rfl rfl)(Zf 4 [56]rfl(fun _=>Qt UK(.tmp rfl)rfl)(Zf 5 [57]rfl(fun _=>Qq UR(.tmp rfl)(D2 _ _))(Zf 6 [58]rfl(fun _=>QW.buildSlice(idx:=[0])(xs:=WF [a.kind])YJ C8 z3 rfl(.cons(.tmp rfl) .nil)rfl rfl rfl rfl rfl rfl rfl rfl rfl)(JX.one 7 [true,true,true,true,true,true,true]rfl(by kernel_rfl)(by kernel_rfl)rfl rfl(by kernel_rfl)rfl fun bs7_ pe_ ex_=>?_)))))
    refine JL.conv(by(try simp only[Ub,Uk,Q5,QS,Flt.val,Flt.bx,nx,nl,Qk,Qz,QA,Qy,QR,AV.cellsOf,Qd,Qe,Nat.reduceAdd]);rfl) ?_
    refine Qs []Yd rfl Lent.nil(fun _=>(.cons(.tmp rfl)(.cons(.tmp rfl) .nil)))(Wx [b] [a.kind](by simp)(by simp))(.inl rfl)(fun k60 x60 o60 h60=>?_)(fun k60=>?_)
    rotate_left
    ·skip
      refine thenQ.p(thenQ.p(blkQ.p(thenQ.p ?_)))
      exact⟨_,QN [.k,.k]_,_,rfl,rfl,Qn [.k,.k]_,PlR.er(c:=81)((pe17 t a b).trans(if_neg(by simpa[Uh]using k60)))(by decide)⟩
    obtain⟨rfl,rfl⟩:=h60
    refine JL.nil ?_
    refine thenQ.n⟨[_],_,rfl,rfl,rfl,rfl,rfl,Wt 2 rfl rfl,⟨rfl,rfl⟩,trivial,?_⟩
    refine JX.conv(S':=[7,6,5,4,3,2,1,0])rfl(by(try simp only[QS]);rfl)(by(try simp only[Ub,Uk,Q5,QS,Flt.val,Flt.bx,nx,nl,Qk,Qz,QA,Qy,QR,AV.cellsOf,Qd,Qe,Nat.reduceAdd]);rfl) ?_
    refine JX.fin(by kernel_rfl)(by kernel_rfl)fun bs_=>?_
    refine QX.conv(by(try simp only[Ub,Uk,Q5,QS,Flt.val,Flt.bx,nx,nl,Qk,Qz,QA,Qy,QR,AV.cellsOf,Qd,Qe,Nat.reduceAdd]);rfl) ?_
    refine thenQ.n(J.seq(QU Ud(Zf 0 []rfl(fun _=>QW.move(.tmp rfl))(Zf 1 [62]rfl(fun _=>Qi QO Qj rfl(.tmp rfl) .const rfl rfl)(Zf 2 [63]rfl(fun _=>Ql Qj(.tmp rfl)(QH vl rfl)vl)(Zf 3 []rfl(fun _=>QW.move(.tmp rfl))(Zf 4 [65]rfl(fun _=>Qi QO Qj rfl(.tmp rfl) .const rfl rfl)(Zf 5 [66]rfl(fun _=>Ql Qj(.tmp rfl)(QH vl rfl)vl)(Zf 6 [64,67]rfl(fun _=>QW.call EN(.cons(.tmp rfl)(.cons(.tmp rfl) .nil))(Ef Vc.self Vc.self ha.wf hb.wf)) ?_)))))))))
    refine Zf 7 [68]rfl(fun _=>QW.move(.tmp rfl))(Zf 8 [61]rfl(fun _=>QW.extract(.tmp rfl)rfl)(Zf 9 [61]rfl(fun _=>QW.extract(.tmp rfl)rfl)(Zf 10 [69]rfl(fun _=>QW.assign(.tmp rfl))(Zf 11 [70]rfl(fun _=>QW.assign(.tmp rfl))(JX.fin(by kernel_rfl)(by kernel_rfl)fun bs_=>?_)))))
    refine QX.conv(by(try simp only[Ub,Uk,Q5,QS,Flt.val,Flt.bx,nx,nl,Qk,Qz,QA,Qy,QR,AV.cellsOf,Qd,Qe,Nat.reduceAdd]);rfl) ?_
    exact thenQ.n(Zs(Zq rfl(QW.move(.tmp rfl))(Zq rfl(QW.lss(.tmp rfl) .const)(Zq rfl(QW.call X7(.cons(.tmp rfl) .nil)(Wq _))(Qc 0 Qj(.tmp rfl)rfl(.tmp rfl)rfl rfl rfl rfl(Zn(J.ret(blkQ.r(thenQ.r(Zr [.k,.k](RetEv.one rfl(REv.cell 0 Qj rfl rfl(Qm vl rfl)vl lr))rfl(PlR.ok((pe17 t a b).trans(by rw[if_pos(by simpa[Uh]using k60),V.cmp,if_neg(by simp[ha.err]),if_neg(by simp[hb.err])])))))))))))))
  have n17:¬o=17:=by simpa using c7
  refine Zs(Zq rfl(QW.eql(.tmp rfl) .const)(Zq rfl(QW.assign(.tmp rfl))(Zn ?_)))
  refine J.cond(.tmp rfl)(fun c8=>?_)(fun c8=>?_)
  ·skip
    obtain rfl:o=20:=by simpa using c8
    obtain⟨a,rfl⟩:=LO(l:=l)(by omega)
    have ha:=hl a(by simp)
    refine Zs(Zq rfl(QW.move(.tmp rfl))(Zq rfl(QW.buildSlice(idx:=[0])(xs:=WF [1])YJ C8 z3 rfl(.cons .const .nil)rfl rfl rfl rfl rfl rfl rfl rfl rfl) ?_))
    refine Qs []Yd rfl Lent.nil(fun _=>(.cons(.tmp rfl)(.cons(.tmp rfl) .nil)))(Wx _ [1](by simp)(by simp))(.inl rfl)(fun k78 x78 o78 h78=>?_)(fun k78=>?_)
    rotate_left
    ·skip
      refine thenQ.p(blkQ.p(thenQ.p ?_))
      exact⟨_,QN [.k,.k]_,_,rfl,rfl,Qn [.k,.k]_,PlR.er(c:=81)((pe20 t a).trans(if_neg(by simpa[Uh]using k78)))(by decide)⟩
    obtain⟨rfl,rfl⟩:=h78
    refine Zn(Zs(Zq rfl(QW.move(.tmp rfl))(Zq rfl(Qi QO Qj rfl(.tmp rfl) .const rfl rfl)(Zq rfl(Qt Uv(.tmp rfl)rfl)(Zq rfl(Qq Wn(.tmp rfl)(YW _ _))(Zq rfl((QW.eql(.tmp rfl) .const).conv(show _=AV.c(.bool(a.bits==0))by rw[show((a.bits:Int)==0)=(a.bits==0)by rw[Bool.eq_iff_iff];simp])) ?_))))))
    exact Zq rfl(QW.call X7(.cons(.tmp rfl) .nil)(Wq _))(Qc 0 Qj(.tmp rfl)rfl(.tmp rfl)rfl rfl rfl rfl(Zn(J.ret(blkQ.r(thenQ.r(Zr [.k,.k](RetEv.one rfl(REv.cell 0 Qj rfl rfl rfl rfl lr))rfl(PlR.ok((pe20 t a).trans(if_pos(by simpa[Uh]using k78))))))))))
  have n20:¬o=20:=by simpa using c8
  refine Zs(Zq rfl(QW.eql(.tmp rfl) .const)(Zq rfl(QW.assign(.tmp rfl))(Zn ?_)))
  refine J.cond(.tmp rfl)(fun c9=>?_)(fun c9=>?_)
  ·skip
    obtain rfl:o=22:=by simpa using c9
    obtain⟨a,b,rfl⟩:=Xu(l:=l)(by omega)
    have ha:=hl a(by simp)
    have hb:=hl b(by simp)
    have h1:=Gm ha.fine.part
    have h2:=Gm hb.fine.part
    refine Zs(Zq rfl(QW.move(.tmp rfl))(Zq rfl(QW.buildSlice(idx:=[0,1])(xs:=WF [3,3])YJ C8 z3 rfl(.cons .const(.cons .const .nil))rfl rfl rfl rfl rfl rfl rfl rfl rfl) ?_))
    refine Qs []Yd rfl Lent.nil(fun _=>(.cons(.tmp rfl)(.cons(.tmp rfl) .nil)))(Wx _ [3,3](by simp)(by simp))(.inl rfl)(fun k89 x89 o89 h89=>?_)(fun k89=>?_)
    rotate_left
    ·skip
      refine thenQ.p(blkQ.p(thenQ.p ?_))
      exact⟨_,QN [.k,.k]_,_,rfl,rfl,Qn [.k,.k]_,PlR.er(c:=81)((pe22 t a b).trans(if_pos(by simp[Uh]at k89;omega)))(by decide)⟩
    obtain⟨rfl,rfl⟩:=h89
    refine Zn(J.seq(QU Ud(Zf 0 []rfl(fun _=>QW.move(.tmp rfl))(Zf 1 [90]rfl(fun _=>Qi QO Qj rfl(.tmp rfl) .const rfl rfl)(Zf 2 [91]rfl(fun _=>Qt Yp(.tmp rfl)rfl)(Zf 3 [92]rfl(fun _=>Qq Wc(.tmp rfl)(Mo _ _))(Zf 4 [93]rfl(fun _=>U3 T2(.tmp rfl))(Zf 5 []rfl(fun _=>QW.move(.tmp rfl))(Zf 6 [95]rfl(fun _=>Qi QO Qj rfl(.tmp rfl) .const rfl rfl) ?_)))))))))
    refine Zf 7 [96]rfl(fun _=>Qt Yp(.tmp rfl)rfl)(Zf 8 [97]rfl(fun _=>Qq Wc(.tmp rfl)(Mo _ _))(Zf 9 [98]rfl(fun _=>U3 T2(.tmp rfl))(Zf 10 [94,99]rfl(fun _=>QW.add(.tmp rfl)(.tmp rfl)(W0(by omega)))(Zf 11 [100]rfl(fun _=>QW.leq(.tmp rfl) .const)(JX.one 12 [true,true,true,true,true,true,true,true,true,true,true,true]rfl(by kernel_rfl)(by kernel_rfl)rfl rfl(by kernel_rfl)rfl fun bs12_ pe_ ex_=>?_)))))
    refine JL.conv(by(try simp only[Ub,Uk,Q5,QS,Flt.val,Flt.bx,nx,nl,Qk,Qz,QA,Qy,QR,AV.cellsOf,Qd,Qe,Nat.reduceAdd]);rfl) ?_
    refine Qs []YB rfl Lent.nil(fun _=>(.cons(.tmp rfl)(.cons .const .nil)))(XI _ _)(.inl rfl)(fun k102 x102 o102 h102=>?_)(fun k102=>?_)
    rotate_left
    ·skip
      refine thenQ.p(thenQ.p(blkQ.p(thenQ.p ?_)))
      exact⟨_,QN [.k,.k]_,_,rfl,rfl,Qn [.k,.k]_,PlR.er(c:=84)(by rw[pe22,if_neg(by simp[Uh]at k89;omega),if_pos(by simp at k102;omega)])(by decide)⟩
    obtain⟨rfl,rfl⟩:=h102
    refine JL.nil ?_
    refine thenQ.n⟨[_],_,rfl,rfl,rfl,rfl,rfl,Wt 2 rfl rfl,⟨rfl,rfl⟩,trivial,?_⟩
    refine JX.conv(S':=[12,11,10,9,8,7,6,5,4,3,2,1,0])rfl(by(try simp only[QS]);rfl)(by(try simp only[Ub,Uk,Q5,QS,Flt.val,Flt.bx,nx,nl,Qk,Qz,QA,Qy,QR,AV.cellsOf,Qd,Qe,Nat.reduceAdd]);rfl) ?_
    refine JX.fin(by kernel_rfl)(by kernel_rfl)fun bs_=>?_
    refine QX.conv(by(try simp only[Ub,Uk,Q5,QS,Flt.val,Flt.bx,nx,nl,Qk,Qz,QA,Qy,QR,AV.cellsOf,Qd,Qe,Nat.reduceAdd]);rfl) ?_
    refine thenQ.n(J.seq(QU Ud(Zf 0 []rfl(fun _=>QW.move(.tmp rfl))(Zf 1 [103]rfl(fun _=>Qi QO Qj rfl(.tmp rfl) .const rfl rfl)(Zf 2 [104]rfl(fun _=>Qt Yp(.tmp rfl)rfl)(Zf 3 [105]rfl(fun _=>Qq Wc(.tmp rfl)(Mo _ _))(Zf 4 []rfl(fun _=>QW.move(.tmp rfl))(Zf 5 [107]rfl(fun _=>Qi QO Qj rfl(.tmp rfl) .const rfl rfl)(Zf 6 [108]rfl(fun _=>Qt Yp(.tmp rfl)rfl) ?_)))))))))
    refine Zf 7 [109]rfl(fun _=>Qq Wc(.tmp rfl)(Mo _ _))(Zf 8 [106,110]rfl(fun _=>PU(.tmp rfl)(.tmp rfl)(by omega))(Zf 9 [111]rfl(fun _=>QW.build(idx:=[0,2])Xx WV rfl(.cons .const(.cons(.tmp rfl) .nil))rfl rfl rfl rfl)(JX.one 10 [true,true,true,true,true,true,true,true,true,true]rfl(by kernel_rfl)(by kernel_rfl)rfl rfl(by kernel_rfl)rfl fun bs10_ pe_ ex_=>?_)))
    refine JL.conv(by(try simp only[Ub,Uk,Q5,QS,Flt.val,Flt.bx,nx,nl,Qk,Qz,QA,Qy,QR,AV.cellsOf,Qd,Qe,Nat.reduceAdd]);rfl) ?_
    refine Qc 0 Qj(.tmp rfl)rfl(.tmp rfl)rfl rfl rfl rfl(JL.nil ?_)
    refine thenQ.n⟨[],_,rfl,rfl,rfl,rfl,rfl,QJ 2 rfl,trivial,trivial,?_⟩
    refine JX.conv(S':=[10,9,8,7,6,5,4,3,2,1,0])rfl(by(try simp only[QS]);rfl)(by(try simp only[Ub,Uk,Q5,QS,Flt.val,Flt.bx,nx,nl,Qk,Qz,QA,Qy,QR,AV.cellsOf,Qd,Qe,Nat.reduceAdd]);rfl) ?_
    refine JX.fin(by kernel_rfl)(by kernel_rfl)fun bs_=>?_
    refine QX.conv(by(try simp only[Ub,Uk,Q5,QS,Flt.val,Flt.bx,nx,nl,Qk,Qz,QA,Qy,QR,AV.cellsOf,Qd,Qe,Nat.reduceAdd]);rfl) ?_
    exact thenQ.n(J.ret(blkQ.r(thenQ.r(Zr [.k,.k](RetEv.one rfl(REv.cell 0 Qj rfl rfl rfl rfl(.aggL(.cons lr(.cons lr(.cons lr(.cons(.nil false false _)(.cons(.nil false false _) .nil))))))))rfl(PlR.ok(v:=.tx(a.text++b.text))(by rw[pe22,if_neg(by simp[Uh]at k89;omega),if_neg(by simp at k102;omega)]))))))
  have n22:¬o=22:=by simpa using c9
  refine Zs(Zq rfl(QW.eql(.tmp rfl) .const)(Zq rfl(QW.assign(.tmp rfl))(Zn ?_)))
  refine J.cond(.tmp rfl)(fun c10=>?_)(fun c10=>?_)
  ·skip
    obtain rfl:o=26:=by simpa using c10
    obtain⟨a,rfl⟩:=LO(l:=l)(by omega)
    have ha:=hl a(by simp)
    refine Zs(Zq rfl(QW.move(.tmp rfl))(Zq rfl(QW.buildSlice(idx:=[0])(xs:=WF [2])YJ C8 z3 rfl(.cons .const .nil)rfl rfl rfl rfl rfl rfl rfl rfl rfl) ?_))
    refine Qs []Yd rfl Lent.nil(fun _=>(.cons(.tmp rfl)(.cons(.tmp rfl) .nil)))(Wx _ [2](by simp)(by simp))(.inl rfl)(fun k117 x117 o117 h117=>?_)(fun k117=>?_)
    rotate_left
    ·skip
      refine thenQ.p(blkQ.p(thenQ.p ?_))
      exact⟨_,QN [.k,.k]_,_,rfl,rfl,Qn [.k,.k]_,PlR.er(c:=81)((pe26 t a).trans(if_pos(by simpa[Uh]using k117)))(by decide)⟩
    obtain⟨rfl,rfl⟩:=h117
    refine Zn(Zs(Zq rfl(QW.move(.tmp rfl))(Zq rfl(Qi QO Qj rfl(.tmp rfl) .const rfl rfl)(Zq rfl(Qt Uv(.tmp rfl)rfl)(Zq rfl(Qq Wn(.tmp rfl)(YW _ _))(Zq rfl(QW.call S4(.cons(.tmp rfl) .nil)(Fa _ ha.bits))(Zq rfl(QW.move(.tmp rfl))(Zq rfl(QW.extract(.tmp rfl)rfl)(Zq rfl(QW.extract(.tmp rfl)rfl) ?_)))))))))
    refine Zq rfl(QW.assign(.tmp rfl))(Zq rfl(QW.assign(.tmp rfl))(Zn(Zs(Zq rfl(QW.move(.tmp rfl))(Zq rfl(QW.eql(.tmp rfl) .const)(Zq rfl(QW.move(.tmp rfl)) ?_))))))
    refine Qs []YB rfl Lent.nil(fun _=>(.cons(.tmp rfl)(.cons(.tmp rfl) .nil)))(XI _ _)(.inl rfl)(fun k129 x129 o129 h129=>?_)(fun k129=>?_)
    rotate_left
    ·skip
      refine thenQ.p(blkQ.p(thenQ.p ?_))
      have h7:¬XK a.bits=0:=fun h=>k129(by simp[h])
      exact⟨_,QN [.k,.k]_,_,rfl,rfl,Qn [.k,.k]_,PlR.er(c:=if XK a.bits=0 then 0 else 7)(by rw[pe26,if_neg(by simpa[Uh]using k117),if_pos h7,if_neg h7])(by rw[if_neg h7];decide)⟩
    obtain⟨rfl,rfl⟩:=h129
    refine Zn(Zs(Zq rfl(QW.move(.tmp rfl))(Zq rfl(QW.build(idx:=[0,2])Xx WV rfl(.cons .const(.cons(.tmp rfl) .nil))rfl rfl rfl rfl)(Qc 0 Qj(.tmp rfl)rfl(.tmp rfl)rfl rfl rfl rfl(Zn(J.ret(blkQ.r(thenQ.r ?_))))))))
    have h7:XK a.bits=0:=Decidable.byContradiction fun h=>by simp[h]at k129
    exact Zr [.k,.k](RetEv.one rfl(REv.cell 0 Qj rfl rfl rfl rfl(.aggL(.cons lr(.cons lr(.cons lr(.cons(.nil false false _)(.cons(.nil false false _) .nil))))))))rfl(PlR.ok(v:=.tx(if XK a.bits=0 then Dp(Xz a.bits)else []))(by rw[pe26,if_neg(by simpa[Uh]using k117),if_neg(by simp[h7]),if_pos h7]))
  have n26:¬o=26:=by simpa using c10
  refine J.skip(blkQ.n(thenQ.n(Zs(Zq rfl(Qf 1 UA(.tmp rfl)rfl rfl rfl)(Zq rfl(QW.move(.tmp rfl)) ?_)))))
  refine Qs []S3 rfl Lent.nil(fun _=>(.cons(.tmp rfl)(.cons(.tmp rfl) .nil)))(By Xc.mk ht hl⟨hn8,by omega⟩)(.inl rfl)(fun k134 x134 o134 h134=>?_)(fun k134=>?_)
  rotate_left
  ·skip
    refine thenQ.p ?_
    exact⟨_,QN [.k,.k]_,_,rfl,rfl,Qn [.k,.k]_,PanR.pan k134⟩
  obtain⟨v134,hv134,rfl,rfl⟩:=h134
  exact Qc 0 Qj(.tmp rfl)rfl(.tmp rfl)rfl vl rfl rfl(Zn(J.ret(Zr [.k,.k](RetEv.one rfl(REv.cell 0 Qj rfl rfl(Qm vl rfl)vl lr))rfl(PlR.ok hv134))))

end
section
/- Two loud operations that no order binds. -/
def blk2B(l:List Oper)(S Φ:List Nat)(i1 i2:Nat):Bool:=(List.range l.length).all fun j=>U8 j S||U8 j Φ||(Nat.beq j i1||Nat.beq j i2)||(match l[j]? with
  |some o=>o.after.toList.any fun e=>Region.binds .any e&&!memB e.on S&&!memB e.on Φ
  |none=>true)
section
variable {P:Program}{E:WZ}{Q:Exit→St→Prop}{n:Nat}{env:List(Nat×AV)}{own:List Own}{F:List(Value×AV)}{D:List Deferred}{ops:Array Oper}
theorem Ev.constA {st:St}{vs:List Value}(h:vs.all(·.oneCell')=true):Ev E st(.const(.agg vs.toArray))(.agg(vs.map .c)):=fun A a w _=>
  .agg _ _(fun k=>vs.getD k undef)(by simp)(fun k y hk=>by
    rw[List.getElem?_map]at hk
    obtain⟨z,hz,rfl⟩:=Option.map_eq_some_iff.1 hk
    have:=(List.all_eq_true.1 h)z(List.mem_of_getElem? hz)
    exact⟨by simp[hz,List.getD],by simpa[hz,List.getD]using this⟩)(fun k y hk=>by
    rw[List.getElem?_map]at hk
    obtain⟨z,hz,rfl⟩:=Option.map_eq_some_iff.1 hk
    rw[show vs.getD k undef=z by simp[hz,List.getD]];exact .c z)
def CandX(P:Program)(E:WZ)(Q:Exit→St→Prop)(n:Nat)(env:List(Nat×AV))(own:List Own)(F:List(Value×AV))(D:List Deferred)(ops:Array Oper)(S:List Nat)(Φ:List Flt)(i:Nat):Prop:=
  ∃(ms:List Bool)(o:Oper),ops[i]? =some o∧U8 i S=false∧U8 i(Φ.map(·.i))=false∧R4 ops.toList o []((Q5 ms Φ).map(·.i))=true∧(QS ms Φ).all(·.fre)=true∧
    ∀bs pe ex,JL P E ops [o]⟨n,Ub bs(Q5 ms Φ)++(env++pe),own++(Uk bs(Q5 ms Φ)++ex),F,D⟩(thenQ(fun s=>∃ev env' own',s.n=n∧s.env=env'++pe∧s.facts=F∧s.dfs=D∧env'=ev++(Ub bs(Q5 ms Φ)++env)∧ev.all(fun p=>o.dst==some p.1)=true∧Reown s.own(own'++ex)∧
      (match o.dst with|some d=>(Φ.all fun φ=>!Nat.beq φ.d d)=true∧lk env d=none|none=>True)∧okO own'(QS ms Φ)∧JX P E ops(i::((Q5 ms Φ).map(·.i)++S))(QS ms Φ)⟨n,env',own',F,D⟩Q)Q)
theorem CandX.mk {S:List Nat}{Φ:List Flt}(i:Nat)(ms:List Bool){o:Oper}(ho:ops[i]? =some o)(hS:U8 i S=false)(hΦ:U8 i(Φ.map(·.i))=false)
    (hlnd:R4 ops.toList o []((Q5 ms Φ).map(·.i))=true)(hfre:(QS ms Φ).all(·.fre)=true)
    (h:∀bs pe ex,JL P E ops [o]⟨n,Ub bs(Q5 ms Φ)++(env++pe),own++(Uk bs(Q5 ms Φ)++ex),F,D⟩(thenQ(fun s=>∃ev own',s.n=n∧s.env=ev++(Ub bs(Q5 ms Φ)++(env++pe))∧s.facts=F∧s.dfs=D∧ev.all(fun p=>o.dst==some p.1)=true∧Reown s.own(own'++ex)∧
      (match o.dst with|some d=>(Φ.all fun φ=>!Nat.beq φ.d d)=true∧lk env d=none|none=>True)∧okO own'(QS ms Φ)∧JX P E ops(i::((Q5 ms Φ).map(·.i)++S))(QS ms Φ)⟨n,ev++(Ub bs(Q5 ms Φ)++env),own',F,D⟩Q)Q)):CandX P E Q n env own F D ops S Φ i:=
  ⟨ms,o,ho,hS,hΦ,hlnd,hfre,fun bs pe ex a w hs=>by
    have:=h bs pe ex a w hs
    refine Ks this fun a' w'⟨s,⟨ev,own',h1,h2,h3,h4,h5,h6,h7,h8,h9⟩,hs'⟩=>⟨s,⟨ev,_,own',h1,by rw[h2];simp,h3,h4,rfl,h5,h6,h7,h8,h9⟩,hs'⟩⟩
theorem BB {S:List Nat}{Φ:List Flt}(i1 i2:Nat)(hbk:Xk 0 ops.toList=true)(hblk:blk2B ops.toList S(Φ.map(·.i))i1 i2=true)(h1:CandX P E Q n env own F D ops S Φ i1)(h2:CandX P E Q n env own F D ops S Φ i2):
    JX P E ops S Φ⟨n,env,own,F,D⟩Q:=fun hw hF=>by
  have hall:∀i,i=i1∨i=i2→CandX P E Q n env own F D ops S Φ i:=fun i h=>h.elim(fun e=>e▸h1)(fun e=>e▸h2)
  obtain⟨ms0,o0,ho0,hS0,hΦ0,-,-,-⟩:=h1
  have hlt0:i1<ops.size:=(Array.getElem?_eq_some_iff.1 ho0).1
  intro fuel
  induction fuel with
  |zero=>
    intro L bs A a w hc hcf
    exfalso
    have hi:L.getD i1 true=false:=by
      rw[Uf(by rw[hcf.size];exact hlt0)]
      exact hcf.no i1(fun h=>by rw[Q3.2 h]at hS0;cases hS0)fun φ hφ he=>by rw[Q3.2(List.mem_map.2⟨φ,hφ,he⟩)]at hΦ0;cases hΦ0
    have:=List.countP_eq_zero.1(Nat.le_zero.1 hc)i1(by simpa using hlt0)
    simp[hi]at this
  |succ fuel ih=>
    intro L bs A a w hc hcf
    have hundone:L.getD i1 false=false:=hcf.no i1(fun h=>by rw[Q3.2 h]at hS0;cases hS0)fun φ hφ he=>by rw[Q3.2(List.mem_map.2⟨φ,hφ,he⟩)]at hΦ0;cases hΦ0
    refine⟨fun hr=>?_,fun j hj=>?_⟩
    ·exfalso
      have key:∀j,j<ops.size→L.getD j false=true:=by
        intro j
        induction j using Nat.strongRecOn with
        |_ j ihj=>
          intro hjl
          cases hL:L.getD j false with
          |true=>rfl
          |false=>
            exfalso
            obtain⟨oj,hoj⟩:∃oj,ops[j]? =some oj:=⟨_,Array.getElem?_eq_getElem hjl⟩
            have:j∈Region.ready .any ops L:=Yy hcf.size hoj(by rw[Uf(by rw[hcf.size];exact hjl)];exact hL)fun e he hb=>by
              have hon:=Yr hbk(i:=j)(o:=oj)(by simpa using hoj)e he hb
              exact ihj e.on(by omega)(by omega)
            rw[hr]at this
            cases this
      rw[key i1 hlt0]at hundone;cases hundone
    ·obtain⟨hjl,oj,hoj,hunj,hdeps⟩:=Wl hj
      have hunj':L.getD j false=false:=by rw[← Uf(by rw[hcf.size];exact hjl)];exact hunj
      by_cases hjΦ:∃φ∈Φ,φ.i=j
      ·obtain⟨φ,hφ,rfl⟩:=hjΦ
        exact hcf.run hw hF hφ hunj' hjl(fun o' ho'=>by rw[hoj]at ho';cases ho';exact hdeps)fun bs' A' a' w' hcf'=>ih _ bs' A' a' w'(K3 hcf.size hjl hunj hc)hcf'
      ·have hji:j=i1∨j=i2:=by
          by_cases he:j=i1∨j=i2
          ·exact he
          ·exfalso
            have h1:=List.all_eq_true.1 hblk j(by simpa using hjl)
            have h2:U8 j S=false:=by
              cases hb:U8 j S with
              |false=>rfl
              |true=>rw[hcf.yes j(Q3.1 hb)]at hunj';cases hunj'
            have h3:U8 j(Φ.map(·.i))=false:=by
              cases hb:U8 j(Φ.map(·.i))with
              |false=>rfl
              |true=>
                obtain⟨φ,hφ,hφi⟩:=List.mem_map.1(Q3.1 hb)
                exact absurd⟨φ,hφ,hφi⟩hjΦ
            have h4:(Nat.beq j i1||Nat.beq j i2)=false:=by
              cases hb:(Nat.beq j i1||Nat.beq j i2)with
              |false=>rfl
              |true=>exact absurd((Bool.or_eq_true _ _▸hb).imp Nat.eq_of_beq_eq_true Nat.eq_of_beq_eq_true)he
            have h5:ops.toList[j]? =some oj:=by simpa using hoj
            rw[h2,h3,h4,h5]at h1
            simp only[Bool.false_or]at h1
            obtain⟨e,he,hb⟩:=List.any_eq_true.1 h1
            simp only[Bool.and_eq_true,Bool.not_eq_true']at hb
            have h6:=hdeps e(by simpa using he)hb.1.1
            rw[hcf.no e.on(fun h=>by rw[Q3.2 h]at hb;simp at hb)fun φ hφ hφi=>by
              have:=hb.2
              rw[Q3.2(List.mem_map.2⟨φ,hφ,hφi⟩)]at this;cases this]at h6
            cases h6
        obtain⟨ms,o,ho,hS,hΦ,hlnd,hfre,h⟩:=hall j hji
        have hp:=La ms Φ
        have hlt:=hjl
        have hoo:o=oj:=by rw[ho]at hoj;cases hoj;rfl
        rw[← hoo]at hdeps
        clear hoj
        -- what it waits for has been done
        have hland:∀φ∈Q5 ms Φ,L.getD φ.i false=true:=fun φ hφ=>KV hcf.clo hdeps _ _(fun o' h=>by cases h)hlnd φ.i(List.mem_map.2⟨φ,hφ,rfl⟩)
        have hmem:∀φ,φ∈Φ↔φ∈Q5 ms Φ∨φ∈QS ms Φ:=fun φ=>by rw[hp.mem_iff,List.mem_append]
        obtain⟨pe,hpe⟩:∃pe,pe=Ub bs((QS ms Φ).filter fun φ=>L.getD φ.i false):=⟨_,rfl⟩
        have hndd:((Q5 ms Φ++QS ms Φ).map(·.d)).Nodup:=(hp.map _).nodup_iff.1 hw.ndd
        rw[List.map_append,List.nodup_append]at hndd
        have hnd:((Q5 ms Φ++QS ms Φ).map(·.i)).Nodup:=(hp.map _).nodup_iff.1 hw.nd
        rw[List.map_append,List.nodup_append]at hnd
        have hsat0:SatA E A⟨n,Ub bs(Q5 ms Φ)++(env++pe),own++(Uk bs(Q5 ms Φ)++XR L bs(QS ms Φ)),F,D⟩a w:=by
          have h1:=hcf.sat.perm(List.Perm.append_left own((Td(L:=L)(bs:=bs)hp).trans(by rw[Mc,KJ hland])))
          refine⟨h1.size,h1.defers,h1.keep,h1.hp,fun s x hl=>?_,h1.facts⟩
          rcases Gr hl with⟨φ,hφ,rfl,rfl⟩|hl
          ·exact hcf.val φ((hmem φ).2(.inl hφ))(hland φ hφ)
          ·rw[Uy]at hl
            rcases hl with hl|⟨_,hl⟩
            ·exact hcf.sat.env s x hl
            ·rw[hpe]at hl
              rcases Gr(env:=[])(by rw[List.append_nil];exact hl)with⟨φ,hφ,rfl,rfl⟩|hl
              ·rw[List.mem_filter]at hφ
                exact hcf.val φ((hmem φ).2(.inr hφ.1))hφ.2
              ·simp[lk]at hl
        have hl:=h bs pe(XR L bs(QS ms Φ))a w⟨A,hsat0⟩
        have hK:∀a' w',wpListIn(XC E.rd) 0 P ops(Ww E(thenQ(fun s=>∃ev env' own',s.n=n∧s.env=env'++pe∧s.facts=F∧s.dfs=D∧env'=ev++(Ub bs(Q5 ms Φ)++env)∧ev.all(fun p=>o.dst==some p.1)=true∧Reown s.own(own'++XR L bs(QS ms Φ))∧
            (match o.dst with|some d=>(Φ.all fun φ=>!Nat.beq φ.d d)=true∧lk env d=none|none=>True)∧okO own'(QS ms Φ)∧JX P E ops(j::((Q5 ms Φ).map(·.i)++S))(QS ms Φ)⟨n,env',own',F,D⟩Q)Q)) []a' w'→wpAnyIn(XC E.rd) 0 P .any ops(Ww E Q)fuel(L.setIfInBounds j true)a' w':=by
          rintro a' w'⟨⟨n',env2,own2,F',D'⟩,⟨ev,env',own',rfl,rfl,rfl,rfl,rfl,hev,hre,hdd,hoO,hX⟩,A',hsA⟩
          have hevd:∀s x,lk ev s=some x→o.dst=some s:=fun s x hl'=>by
            have:=List.all_eq_true.1 hev _(X4 _ _ _ hl')
            simpa using this
          have hlts:j<L.size:=by rw[hcf.size];exact hlt
          have hset:∀z,(L.setIfInBounds j true).getD z false=if z=j then true else L.getD z false:=fun z=>Ui _ _ _ hlts _
          have hnot:∀φ∈Φ,φ.i≠j:=fun φ hφ he=>by rw[Q3.2(List.mem_map.2⟨φ,hφ,he⟩)]at hΦ;cases hΦ
          have hevΦ:∀φ∈Φ,lk ev φ.d=none:=fun φ hφ=>by
            cases hle:lk ev φ.d with
            |none=>rfl
            |some x=>
              have hd':=hevd _ _ hle
              rw[hd']at hdd
              have:=List.all_eq_true.1 hdd.1 φ hφ
              simp at this
          have hold:∀s y,lk env s=some y→lk(ev++(Ub bs(Q5 ms Φ)++env))s=some y:=fun s y hl'=>by
            rw[Uy]
            have h1:lk ev s=none:=by
              cases hle:lk ev s with
              |none=>rfl
              |some x=>
                have hd':=hevd _ _ hle
                rw[hd']at hdd
                simp only at hdd
                rw[hdd.2]at hl';cases hl'
            refine .inr⟨h1,?_⟩
            rw[WN fun φ hφ he=>?_]
            ·exact hl'
            ·rw[← he,hw.ne φ((hmem φ).2(.inl hφ))]at hl';cases hl'
          have hexs:XR(L.setIfInBounds j true)bs(QS ms Φ)=XR L bs(QS ms Φ):=XM fun φ hφ=>⟨by rw[hset,if_neg(hnot φ((hmem φ).2(.inr hφ)))],rfl⟩
          refine hX⟨hnd.2.1,hndd.2.1,fun φ hφ hm=>?_,fun φ hφ=>?_⟩(fun φ hφ=>?_)fuel _ bs A' a' w'(K3 hcf.size hlt hunj hc)⟨by simpa using hcf.size,fun z hz=>?_,fun z hz1 hz2=>?_,fun z oz hoz hLz e he hb=>?_,?_,fun φ hφ hLφ=>?_⟩
          ·rcases List.mem_cons.1 hm with hm|hm
            ·exact hnot φ((hmem φ).2(.inr hφ))hm
            ·rcases List.mem_append.1 hm with hm|hm
              ·exact hnd.2.2 _ hm _(List.mem_map.2⟨φ,hφ,rfl⟩)rfl
              ·exact hw.ns φ((hmem φ).2(.inr hφ))hm
          ·have hφΦ:=(hmem φ).2(.inr hφ)
            show lk(ev++(Ub bs(Q5 ms Φ)++env))φ.d=none
            cases hle:lk(ev++(Ub bs(Q5 ms Φ)++env))φ.d with
            |none=>rfl
            |some y=>
              rw[Uy]at hle
              rcases hle with hle|⟨_,hle⟩
              ·rw[hevΦ φ hφΦ]at hle;cases hle
              ·rw[WN fun ψ hψ he=>hndd.2.2 _(List.mem_map.2⟨ψ,hψ,rfl⟩)_(List.mem_map.2⟨φ,hφ,rfl⟩)he]at hle
                rw[hw.ne φ hφΦ]at hle;cases hle
          ·obtain⟨o',ho',hd',hdn',hm'⟩:=hF φ((hmem φ).2(.inr hφ))
            refine⟨o',ho',hd',hdn',?_⟩
            split at hm'
            ·exact hm'
            ·obtain⟨e,he,_,hs⟩:=hm'
              refine⟨e,fun s y hl'=>?_,NV hoO φ hφ,fun own2 _ hO2=>hs own2(fun hf=>?_)hO2⟩
              ·rcases he s y hl' with h1|⟨ψ,hψ,rfl,hψv,hψd⟩
                ·exact .inl(hold s y h1)
                ·rcases(hmem ψ).1 hψ with hψ'|hψ'
                  ·left
                    rw[Uy]
                    refine .inr⟨hevΦ ψ hψ,?_⟩
                    rw[Xi hndd.1 hψ']
                    unfold Flt.val
                    rw[hψv]
                  ·exact .inr⟨ψ,hψ',rfl,hψv,hψd⟩
              ·have:=List.all_eq_true.1 hfre φ hφ
                rw[hf]at this;cases this
          ·rw[hset]
            split
            ·rfl
            ·rename_i hne
              rcases List.mem_cons.1 hz with hz|hz
              ·exact absurd hz hne
              ·rcases List.mem_append.1 hz with hz|hz
                ·obtain⟨φ,hφ,rfl⟩:=List.mem_map.1 hz
                  exact hland φ hφ
                ·exact hcf.yes z hz
          ·rw[hset,if_neg(fun h=>hz1(by simp[h]))]
            refine hcf.no z(fun h=>hz1(by simp[h]))fun φ hφ he=>?_
            rcases(hmem φ).1 hφ with h'|h'
            ·exact hz1(by rw[← he];exact List.mem_cons_of_mem _(List.mem_append_left _(List.mem_map.2⟨φ,h',rfl⟩)))
            ·exact hz2 φ h' he
          ·rw[hset]at hLz⊢
            split
            ·rfl
            ·by_cases hzj:z=j
              ·subst hzj;rw[ho]at hoz;cases hoz;exact hdeps e he hb
              ·rw[if_neg hzj]at hLz;exact hcf.clo z oz hoz hLz e he hb
          ·rw[hexs]
            exact⟨hsA.size,hsA.defers,hsA.keep,hsA.hp.reown hre,fun s y hl'=>hsA.env s y(by rw[Uy];exact .inl hl'),hsA.facts⟩
          ·rw[hset,if_neg(hnot φ((hmem φ).2(.inr hφ)))]at hLφ
            refine hsA.env φ.d(φ.val bs) ?_
            have hφΦ:=(hmem φ).2(.inr hφ)
            rw[Uy]
            refine .inr⟨?_,?_⟩
            ·show lk(ev++(Ub bs(Q5 ms Φ)++env))φ.d=none
              cases hle:lk(ev++(Ub bs(Q5 ms Φ)++env))φ.d with
              |none=>rfl
              |some y=>
                rw[Uy]at hle
                rcases hle with hle|⟨_,hle⟩
                ·rw[hevΦ φ hφΦ]at hle;cases hle
                ·rw[WN fun ψ hψ he=>hndd.2.2 _(List.mem_map.2⟨ψ,hψ,rfl⟩)_(List.mem_map.2⟨φ,hφ,rfl⟩)he]at hle
                  rw[hw.ne φ hφΦ]at hle;cases hle
            ·rw[hpe]
              have:=Xi(bs:=bs)(env:=[])(Φ:=(QS ms Φ).filter fun φ=>L.getD φ.i false)(φ:=φ)((List.filter_sublist.map _).nodup hndd.2.1)(List.mem_filter.2⟨hφ,hLφ⟩)
              rwa [List.append_nil]at this
        unfold wpOpIn
        simp only[ho]
        unfold wpListIn at hl
        split
        ·rename_i hw'
          rw[if_pos hw']at hl
          exact Ye(fun ch a w h=>Hu(by intro h;cases h)h)(fun h=>by first|exact fun a w=>Hu(by intro h;cases h)(h a w)|exact h)(Oper.wpIn_mono hK hl)
        ·rename_i hw'
          rw[if_neg hw']at hl
          exact⟨hl.1,hK _ _ hl.2⟩
end

end
section
/- Walks: the machine: what an expression tells, items of a list. -/
set_option maxRecDepth 10000
set_option maxHeartbeats 4000000
def mb(b:Nat)(s:ScT)(f:Int):Own:=.box b(s.st.cs false++s.ev.cs false++s.it.cs false++[.c(.int .i64 f)])
theorem M5 {s:ScT}{f:Int}(k:Nat)(h:k≤2:=by decide):((s.st.cs false++s.ev.cs false++s.it.cs false++[AV.c(.int .i64 f)]).drop(5*k)).take 5=(match k with|0=>s.st|1=>s.ev|_=>s.it).cs false:=by
  obtain⟨⟨k1,b1,t1,ks1,is1⟩,⟨k2,b2,t2,ks2,is2⟩,⟨k3,b3,t3,ks3,is3⟩⟩:=s
  match k,h with
  |0,_=>rfl
  |1,_=>rfl
  |2,_=>rfl
theorem NY {s:ScT}{f:Int}:(s.st.cs false++s.ev.cs false++s.it.cs false++[AV.c(.int .i64 f)])[15]? =some(.c(.int .i64 f)):=by
  obtain⟨⟨k1,b1,t1,ks1,is1⟩,⟨k2,b2,t2,ks2,is2⟩,⟨k3,b3,t3,ks3,is3⟩⟩:=s;rfl
theorem Hr {s:ScT}{f:Int}:(s.st.cs false++s.ev.cs false++s.it.cs false++[AV.c(.int .i64 f)]).length=16:=by
  simp[V.cs_length]
theorem Et {s:ScT}{f g:Int}:QT(s.st.cs false++s.ev.cs false++s.it.cs false++[AV.c(.int .i64 f)]) 15 [.c(.int .i64 g)]=s.st.cs false++s.ev.cs false++s.it.cs false++[AV.c(.int .i64 g)]:=by
  obtain⟨⟨k1,b1,t1,ks1,is1⟩,⟨k2,b2,t2,ks2,is2⟩,⟨k3,b3,t3,ks3,is3⟩⟩:=s;rfl
theorem LS {s:ScT}{f:Int}{x:V}:QT(s.st.cs false++s.ev.cs false++s.it.cs false++[AV.c(.int .i64 f)]) 10(x.cs false)=s.st.cs false++s.ev.cs false++x.cs false++[AV.c(.int .i64 f)]:=by
  obtain⟨⟨k1,b1,t1,ks1,is1⟩,⟨k2,b2,t2,ks2,is2⟩,⟨k3,b3,t3,ks3,is3⟩⟩:=s
  obtain⟨k4,b4,t4,ks4,is4⟩:=x;rfl
def pb(b:Nat):AV:=.c(.pointer(some⟨b,0,none⟩))
def KU(f:Int):Prop:=0≤f∧f≤4611686018427387904
def EvR(r:ER V)(b:Nat)(s:ScT):W5→List Own→Prop:=PanR(XN r=0)(YV(XN r))fun x o=>∃v f',r=.ok(v,f')∧x=.agg(v.cs false)∧o=[mb b s f']
def TrR(r:ER Bool)(b:Nat)(s:ScT):W5→List Own→Prop:=PanR(XN r=0)(YV(XN r))fun x o=>∃t f',r=.ok(t,f')∧x=.c(.bool t)∧o=[mb b s f']
theorem EvR.ok {r:ER V}{b:Nat}{s:ScT}{v:V}{f':Int}(h:r=.ok(v,f')):EvR r b s(.ret(.agg(v.cs false))) [mb b s f']:=.inl⟨by rw[h];rfl,_,rfl,v,f',h,rfl,rfl⟩
theorem EvR.er {r:ER V}{b:Nat}{s:ScT}{c:Int}(h:r=.error c)(hc:¬c=0):EvR r b s(.pan(.iface 33(.int .i64 c))) []:=.inr⟨by rw[h];exact hc,by rw[h];rfl,rfl⟩
theorem TrR.ok {r:ER Bool}{b:Nat}{s:ScT}{t:Bool}{f':Int}(h:r=.ok(t,f')):TrR r b s(.ret(.c(.bool t))) [mb b s f']:=.inl⟨by rw[h];rfl,_,rfl,t,f',h,rfl,rfl⟩
theorem TrR.er {r:ER Bool}{b:Nat}{s:ScT}{c:Int}(h:r=.error c)(hc:¬c=0):TrR r b s(.pan(.iface 33(.int .i64 c))) []:=.inr⟨by rw[h];exact hc,by rw[h];rfl,rfl⟩
theorem Wm {α:Type}{r:Except Int α}(h:¬XN r=0):r=.error(XN r):=by
  cases r with
  |ok _=>exact absurd rfl h
  |error c=>rfl
def Eb(n:Nat):Prop:=∀(e:EX)(s:ScT)(f:Int)(b:Nat)(fr:Bool),e.wf→e.Fine→s.good→KU f→e.sz≤n→AC Tryz.prog 87 [mb b s f] [pb b,.agg(e.cs fr)](EvR(e.ev s f)b s)
theorem Ei {r:ER V}{c:Int}(h:r=.error c):UY r=.error c:=by rw[h];rfl
theorem Eh {r:ER V}{v:V}{f:Int}(h:r=.ok(v,f))(hk:¬v.kind=1):UY r=.error 81:=by rw[h];exact if_neg hk
theorem GK {r:ER V}{v:V}{f:Int}(h:r=.ok(v,f))(hk:v.kind=1):UY r=.ok(v.bits==1,f):=by rw[h];exact if_pos hk
def ML {β:Type}(stp:β→V→Int→Except Int(Bool×β×Int)):List V→β→Int→Except Int(β×Int)
  |[],σ,f=>.ok(σ,f)
  |x::r,σ,f=>match stp σ x f with
    |.error e=>.error e
    |.ok(k,σ',f')=>if k then ML stp r σ' f' else .ok(σ',f')
def Xj {β:Type}(stp:β→V→Int→Except Int(Bool×β×Int))(σ:β)(r:ER V):Except Int(β×Int):=match r with
  |.error e=>.error e
  |.ok(v,f)=>if v.kind≠4 then .error 81 else ML stp v.items σ f
theorem R6 {β:Type}{stp:β→V→Int→Except Int(Bool×β×Int)}{l:List V}{j:Nat}(h:j<l.length)(σ:β)(f:Int):ML stp(l.drop j)σ f=match stp σ l[j]f with
    |.error e=>.error e
    |.ok(k,σ',f')=>if k then ML stp(l.drop(j+1))σ' f' else .ok(σ',f'):=by
  rw[List.drop_eq_getElem_cons h,ML]
theorem SF {β:Type}{stp:β→V→Int→Except Int(Bool×β×Int)}{l:List V}{j:Nat}{σ:β}{f c:Int}(h:j<l.length)(hc:stp σ l[j]f=.error c):ML stp(l.drop j)σ f=.error c:=by rw[R6 h,hc]
theorem itE_ok {β:Type}{stp:β→V→Int→Except Int(Bool×β×Int)}{l:List V}{j:Nat}{σ σ':β}{f f':Int}{k:Bool}(h:j<l.length)(hc:stp σ l[j]f=.ok(k,σ',f')):ML stp(l.drop j)σ f=if k then ML stp(l.drop(j+1))σ' f' else .ok(σ',f'):=by rw[R6 h,hc]
theorem YA {n:Nat}(ih:Eb n){e:EX}{s:ScT}{f:Int}{b:Nat}{fr:Bool}{ys:List AV}(he:Xc fr e ys)(hw:e.wf)(hf:e.Fine)(hs:s.good)(h0:KU f)(hn:e.sz≤n):
    AC Tryz.prog 98 [mb b s f] [pb b,.agg ys](TrR(UY(e.ev s f))b s):=by
  subst he
  refine AC.of_J Tryz.func98 rfl Tryz.ntmps98 rfl fun w0 A0=>?_
  refine Zs(Qp(.tmp rfl)rfl fun b3=>Zq rfl(QW.assign .const)(Zn(Zs(Zq rfl(QW.move(.tmp rfl))(Zq rfl(Qf 0 UA(.tmp rfl)rfl(Qm xl rfl)xl) ?_)))))
  refine Qs [.k,.p]Gx rfl Lent.nil(fun _=>(.cons(.tmp rfl)(.cons(.tmp rfl) .nil)))(ih e s f b fr hw hf hs h0 hn)(.inl rfl)(fun k8 x8 o8 h8=>?_)(fun k8=>?_)
  rotate_left
  ·skip
    refine thenQ.p ?_
    exact⟨_,QN [.k]_,_,rfl,rfl,Qn [.k]_,TrR.er(Ei(Wm k8))k8⟩
  obtain⟨v8,f8,hv8,rfl,rfl⟩:=h8
  refine JL.alloc WV rfl rfl fun b5=>Qc 0 Qj(.tmp rfl)rfl(.tmp rfl)rfl vl rfl rfl(Zn(Zs ?_))
  obtain⟨vk,vb,vt,vks,vis⟩:=v8
  refine Zq rfl(Qa UK(.tmp rfl)rfl)(Zq rfl(Qb 0 UR(.tmp rfl)rfl rfl)(Zq rfl(QW.eql(.tmp rfl) .const) ?_))
  refine Qs []YB rfl Lent.nil(fun _=>(.cons(.tmp rfl)(.cons .const .nil)))(XI _ _)(.inl rfl)(fun k12 x12 o12 h12=>?_)(fun k12=>?_)
  rotate_left
  ·skip
    refine thenQ.p ?_
    exact⟨_,QN [.k,.k,.k]_,_,rfl,rfl,Qn [.k,.k,.k]_,TrR.er(c:=81)(Eh hv8(by show ¬vk=1;simpa using k12))(by decide)⟩
  obtain⟨rfl,rfl⟩:=h12
  exact Zn(Zs(Zq rfl(Qa Uv(.tmp rfl)rfl)(Zq rfl(Qb 0 Wn(.tmp rfl)rfl rfl)(Zq rfl(QW.eql(.tmp rfl) .const)(Zq rfl(QW.assign(.tmp rfl))(Zn(J.ret(Zr [.k,.k,.p](RetEv.one rfl(REv.tmp rfl lr))rfl(TrR.ok((GK hv8(by show vk=1;simpa using k12)).trans(by rw[V.bits,show(((vb:Nat):Int)==1)=(vb==1)by rw[Bool.eq_iff_iff];simp;omega])))))))))))
def BodyC {β:Type}(n:Nat)(g:FuncId)(ca:List Value)(W:Nat→β→Own→Prop)(stp:β→V→Int→Except Int(Bool×β×Int))(b:Nat)(s:ScT):Prop:=
  ∀(j:Nat)(σ:β)(x:V)(f:Int)(o0:Own),j<32→W j σ o0→x.good→KU f→AC Tryz.prog g [mb b {s with it:=x}f,o0](.agg(x.cs false)::ca.map AV.c)
    (PanR(XN(stp σ x f)=0)(YV(XN(stp σ x f)))fun y o=>∃k σ' f' o1,stp σ x f=.ok(k,σ',f')∧KU f'∧W(j+1)σ' o1∧y=.c(.bool k)∧o=[mb b {s with it:=x}f',o1])
def ItR {β:Type}(W:Nat→β→Own→Prop)(r:Except Int(β×Int))(b:Nat)(s:ScT):W5→List Own→Prop:=PanR(XN r=0)(YV(XN r))fun x o=>∃σ f' j o1,r=.ok(σ,f')∧j≤32∧W j σ o1∧KU f'∧x=.tup []∧o=[mb b s f',o1]
theorem ItR.er {β:Type}{W:Nat→β→Own→Prop}{r:Except Int(β×Int)}{b:Nat}{s:ScT}{c:Int}(h:r=.error c)(hc:¬c=0):ItR W r b s(.pan(.iface 33(.int .i64 c))) []:=.inr⟨by rw[h];exact hc,by rw[h];rfl,rfl⟩
theorem ItR.ok {β:Type}{W:Nat→β→Own→Prop}{r:Except Int(β×Int)}{b:Nat}{s:ScT}{σ:β}{f':Int}{j:Nat}{o1:Own}(h:r=.ok(σ,f'))(hj:j≤32)(hI:W j σ o1)(hf:KU f'):ItR W r b s(.ret(.tup [])) [mb b s f',o1]:=.inl⟨by rw[h];rfl,_,rfl,σ,f',j,o1,h,hj,hI,hf,rfl,rfl⟩
theorem CP {β:Type}{stp:β→V→Int→Except Int(Bool×β×Int)}{σ:β}{r:ER V}{c:Int}(h:r=.error c):Xj stp σ r=.error c:=by rw[h];rfl
theorem CO {β:Type}{stp:β→V→Int→Except Int(Bool×β×Int)}{σ:β}{r:ER V}{v:V}{f:Int}(h:r=.ok(v,f))(hk:¬v.kind=4):Xj stp σ r=.error 81:=by rw[h];exact if_pos hk
theorem Gt {β:Type}{stp:β→V→Int→Except Int(Bool×β×Int)}{σ:β}{r:ER V}{v:V}{f:Int}(h:r=.ok(v,f))(hk:v.kind=4):Xj stp σ r=ML stp v.items σ f:=by rw[h];exact if_neg(fun h=>h hk)
theorem Kf {e:EX}{s:ScT}{f f':Int}{v:V}(hw:e.wf)(hf:e.Fine)(hs:s.good)(h0:KU f)(h:e.ev s f=.ok(v,f')):v.good∧KU f':=by
  obtain⟨a1,a2,a3⟩:=Wu e s f hf hw hs v f' h
  exact⟨a1,a3,by have:=h0.2;omega⟩
theorem Hq {β:Type}{n:Nat}{g:FuncId}{ca:List Value}{W:Nat→β→Own→Prop}{stp:β→V→Int→Except Int(Bool×β×Int)}(ih:Eb n)(hgo:QE Tryz.prog g=true){e:EX}{s:ScT}{f:Int}{b:Nat}{fr:Bool}{ys:List AV}(hg:BodyC n g ca W stp b s)(he:Xc fr e ys)(hw:e.wf)(hf:e.Fine)(hs:s.good)(h0:KU f)(hn:e.sz≤n){σ0:β}{o0:Own}(hI:W 0 σ0 o0):
    AC Tryz.prog 105 [mb b s f,o0] [pb b,.agg ys,.c(.func(.func g) #[]ca.toArray)](ItR W(Xj stp σ0(e.ev s f))b s):=by
  subst he
  refine AC.of_J Tryz.func105 rfl Tryz.ntmps105 rfl fun w0 A0=>?_
  refine Zs(Qp(.tmp rfl)rfl fun b4=>Zn(Zs(Zq rfl(QW.move(.tmp rfl))(Zq rfl(Qf 0 UA(.tmp rfl)rfl(Qm xl rfl)xl) ?_))))
  refine Qs [.k,.p]Gx rfl Lent.nil(fun _=>(.cons(.tmp rfl)(.cons(.tmp rfl) .nil)))(ih e s f b fr hw hf hs h0 hn)(.inl rfl)(fun k12 x12 o12 h12=>?_)(fun k12=>?_)
  rotate_left
  ·skip
    refine thenQ.p ?_
    exact⟨_,QN [.k,.k]_,_,rfl,rfl,Qn [.k,.k]_,ItR.er(CP(Wm k12))k12⟩
  obtain⟨v12,f12,hv12,rfl,rfl⟩:=h12
  obtain⟨hgv,hfv⟩:=Kf hw hf hs h0 hv12
  obtain⟨vk,vb,vt,vks,vis⟩:=v12
  have hlen:vis.length≤32:=hgv.len
  refine JL.alloc WV rfl rfl fun b6=>Qc 0 Qj(.tmp rfl)rfl(.tmp rfl)rfl rfl rfl rfl(Zn(Zs(Zq rfl(Qa UK(.tmp rfl)rfl)(Zq rfl(Qb 0 UR(.tmp rfl)rfl rfl)(Zq rfl(QW.eql(.tmp rfl) .const) ?_)))))
  refine Qs []YB rfl Lent.nil(fun _=>(.cons(.tmp rfl)(.cons .const .nil)))(XI _ _)(.inl rfl)(fun k16 x16 o16 h16=>?_)(fun k16=>?_)
  rotate_left
  ·skip
    refine thenQ.p ?_
    exact⟨_,QN [.k,.k,.k,.k]_,_,rfl,rfl,Qn [.k,.k,.k,.k]_,ItR.er(c:=81)(CO hv12(by show ¬vk=4;simpa using k16))(by decide)⟩
  obtain⟨rfl,rfl⟩:=h16
  refine Zn(Zs(Zq rfl(QW.move(.tmp rfl))(Zq rfl(QG(.tmp rfl))(Zq rfl(Qa Kb(.tmp rfl)rfl)(Zq rfl(Qa G0(.tmp rfl)rfl)(Zq rfl(Qf 2 Qj(.tmp rfl)rfl(M5 2)vl)(JL.alloc WV rfl rfl fun b7=>Qc 0 Qj(.tmp rfl)rfl(.tmp rfl)rfl vl rfl rfl(Zn ?_))))))))
  refine J.seq(Zs(Zq rfl(Qa Ue(.tmp rfl)rfl)(Zq rfl(Qb 1 U6(.tmp rfl)rfl rfl)(Zq rfl(Qh QO(.tmp rfl)wl)(Zq rfl(QW.move .const)(Zn(J.block(Q0(ι:=Nat×β×Int×V×Own) [0,2,7,23,24](fun⟨j,σ,g1,it,o⟩=>[(25,.c(.int .i64(j:Int)))])(fun⟨j,σ,g1,it,o⟩oo=>List.set(List.set oo 3(mb b {s with it:=it}g1)) 4(o))(fun⟨j,σ,g1,it,o⟩=>j≤vis.length∧ML stp vis σ0 f12=ML stp(vis.drop j)σ g1∧W j σ o∧KU g1)(fun⟨j,σ,g1,it,o⟩=>vis.length-j)⟨0,σ0,f12,s.it,o0⟩(⟨Nat.zero_le _,rfl,hI,hfv⟩)(QK(.cons rfl lr(.cons rfl lr(.cons rfl lr(.cons rfl lr(.cons rfl lr(.cons rfl lr .nil))))))(Reown.refl _)(fun _ h=>by first|exact h|simp[h])) ?_))))))))
  intro⟨j,σ,f,it,o⟩⟨hj,hit,hIj,hfj⟩
  refine J.conv(by(try simp only[nl,Qk,Qz,QA,Qy,QR,AV.cellsOf,Qd,Qe,Nat.reduceAdd]);rfl) ?_
  refine Zs(Zq rfl(QW.lss(.tmp rfl)(.tmp rfl))(Zn(J.seq ?_)))
  refine J.cond(.tmp rfl)(fun c1=>?_)(fun c1=>?_)
  ·skip
    have hlt:j<vis.length:=by simpa[V.css_length]using c1
    have hj32:j<32:=by omega
    have hgx:vis[j].good:=hgv.kid(List.getElem_mem hlt)
    refine Zk(J.seq(J.block(Zs(Zq rfl(Qi QO Qj rfl(.tmp rfl)(.tmp rfl)rfl(by exact V.css_getE _ hlt)) ?_))))
    refine Zq rfl(Ql Qj(.tmp rfl)(QH vl rfl)vl)(JL.alloc WV rfl rfl fun b9=>Qc 0 Qj(.tmp rfl)rfl(.tmp rfl)rfl vl rfl rfl(Zn(Zs(Zq rfl(QW.move(.tmp rfl))(Zq rfl(Qf 0 Qj(.tmp rfl)rfl(Qm vl rfl)vl)(Zq rfl(QG(.tmp rfl))(Zq rfl(Qa Kb(.tmp rfl)rfl)(Zq rfl(Qa G0(.tmp rfl)rfl) ?_))))))))
    refine JL.store_box 4 Qj(.tmp rfl)rfl(.tmp rfl)rfl vl(by rw[Hr];rfl)LS rfl ?_
    refine Zn(Zs(Zq rfl(QW.move(.tmp rfl))(Zq rfl(Qf 0 Qj(.tmp rfl)rfl(Qm vl rfl)vl) ?_)))
    refine Fv [.k,.k,.k,.k,.p,.p]hgo rfl(.tmp rfl)Lent.nil(fun _=>(.cons(.tmp rfl) .nil))rfl(hg j σ vis[j]f o hj32 hIj hgx hfj)(.inl rfl)(fun k36 x36 o36 h36=>?_)(fun k36=>?_)
    rotate_left
    ·skip
      refine thenQ.p(blkQ.p(thenQ.p(thenQ.p(blkQ.p(thenQ.p ?_)))))
      exact⟨_,QN [.k,.k,.k,.k]_,_,rfl,rfl,Qn [.k,.k,.k,.k]_,ItR.er((Gt hv12(by show vk=4;simpa using k16)).trans(hit.trans(SF hlt(Wm k36))))k36⟩
    obtain⟨q36,σ36,f36,o1_,hs36,hf36,hI36,rfl,rfl⟩:=h36
    rw[itE_ok hlt hs36]at hit
    refine Zq rfl(QW.not(.tmp rfl))(Zn ?_)
    refine J.cond(.tmp rfl)(fun c2=>?_)(fun c2=>?_)
    ·skip
      obtain rfl:q36=false:=by simpa using c2
      rw[if_neg(by decide)]at hit
      refine J.exit(Fh rfl(Qv(Qv(QM(thenQ.n(Qg(Zq rfl(QW.move(.tmp rfl))(Zq rfl(Qf 1 Qj(.tmp rfl)rfl(Qm vl rfl)vl)(Zq rfl(QG(.tmp rfl)) ?_)))))))))
      refine Zq rfl(Qa Kb(.tmp rfl)rfl)(Zq rfl(Qa G0(.tmp rfl)rfl)(JL.store_box 4 Qj(.tmp rfl)rfl(.tmp rfl)rfl vl(by rw[Hr];rfl)LS rfl ?_))
      exact JL.nil(Zr [.k,.k,.k,.k,.p,.p](Uq rfl)rfl(ItR.ok((Gt hv12(by show vk=4;simpa using k16)).trans hit)(Nat.le_trans hlt hlen)hI36 hf36))
    obtain rfl:q36=true:=by simpa using c2
    rw[if_pos rfl]at hit
    refine J.skip(blkQ.n(thenQ.n(Qg(Zq rfl(QW.add(.tmp rfl) .const(W0(by omega)))(Zq rfl(QW.move(.tmp rfl))(Zn ?_))))))
    exact⟨⟨j+1,σ36,f36,vis[j],o1_⟩,⟨hlt,hit,hI36,hf36⟩,by show vis.length-(j+1)<vis.length-j;omega,QK(.cons rfl lr(.cons rfl lr(.cons rfl lr(.cons rfl lr(.cons rfl lr(.cons rfl lr .nil))))))(Q9 1 _ rfl)(fun _ h=>by first|exact h|simp[h])⟩
  have hge:vis.length≤j:=by simpa[V.css_length]using c1
  rw[List.drop_of_length_le hge,ML]at hit
  refine J.exit(Qv(Qv(QM(thenQ.n(Qg(Zq rfl(QW.move(.tmp rfl))(Zq rfl(Qf 0 Qj(.tmp rfl)rfl(Qm vl rfl)vl)(Zq rfl(QG(.tmp rfl))(Zq rfl(Qa Kb(.tmp rfl)rfl) ?_)))))))))
  refine Zq rfl(Qa G0(.tmp rfl)rfl)(JL.store_box 3 Qj(.tmp rfl)rfl(.tmp rfl)rfl vl(by rw[Hr];rfl)LS rfl ?_)
  exact JL.nil(Zr [.k,.k,.k,.p,.p](Uq rfl)rfl(ItR.ok((Gt hv12(by show vk=4;simpa using k16)).trans hit)(Nat.le_trans hj hlen)hIj hfj))

end
section
/- Walks: what the machine does with each item. -/
set_option maxRecDepth 10000
set_option maxHeartbeats 4000000
def outC(v:Value):List AV:=[.c(.int .i64 4),.c(.int .u64 0),.c(Un []),.c(.slice none 0 0),.c v]
def MH(b:Nat):Value:=.pointer(some⟨b,0,none⟩)
def Ch(b5 b2 b6 b:Nat)(ye:List AV)(j:Nat)(ys:List V)(o:Own):Prop:=∃v,o=.grp [.box b5(outC v),.arr v eV(V.css false ys),.box b2 [pb b],.box b6 ye]∧ys.length≤j∧∀x∈ys,x.good
def GL(y:EX)(s:ScT)(ys:List V)(x:V)(f:Int):Except Int(Bool×List V×Int):=match y.ev {s with it:=x}f with
  |.error e=>.error e
  |.ok(v,f')=>.ok(true,ys++[v],f')
def GM(y:EX)(s:ScT)(ys:List V)(x:V)(f:Int):Except Int(Bool×List V×Int):=match UY(y.ev {s with it:=x}f)with
  |.error e=>.error e
  |.ok(t,f')=>.ok(true,if t then ys++[x]else ys,f')
theorem FJ {y:EX}{s:ScT}{ys:List V}{x:V}{f c:Int}(h:y.ev {s with it:=x}f=.error c):GL y s ys x f=.error c:=by unfold GL;rw[h]
theorem RH {y:EX}{s:ScT}{ys:List V}{x v:V}{f f':Int}(h:y.ev {s with it:=x}f=.ok(v,f')):GL y s ys x f=.ok(true,ys++[v],f'):=by unfold GL;rw[h]
theorem FL {y:EX}{s:ScT}{ys:List V}{x:V}{f c:Int}(h:UY(y.ev {s with it:=x}f)=.error c):GM y s ys x f=.error c:=by unfold GM;rw[h]
theorem Lz {y:EX}{s:ScT}{ys:List V}{x:V}{f f':Int}{t:Bool}(h:UY(y.ev {s with it:=x}f)=.ok(t,f')):GM y s ys x f=.ok(true,if t then ys++[x]else ys,f'):=by unfold GM;rw[h]
theorem Lr(ys:List V)(v:V)(z:List AV):(V.css false ys++[z]).set ys.length(v.cs false)=V.css false(ys++[v]):=by
  have h:∀(l:List V),V.css false(l++[v])=V.css false l++[v.cs false]:=fun l=>by
    induction l with
    |nil=>rfl
    |cons x r ih=>rw[List.cons_append,V.css,V.css,ih];rfl
  rw[h,← V.css_length false ys,List.set_append_right _ _(Nat.le_refl _),Nat.sub_self];rfl
theorem G5(ys:List V)(z:List AV):(V.css false ys++[z])[ys.length]? =some z:=by
  rw[← V.css_length false ys,List.getElem?_append_right(Nat.le_refl _),Nat.sub_self];rfl
def BodR {β:Type}(W:Nat→β→Own→Prop)(r:Except Int(Bool×β×Int))(j b:Nat)(s:ScT):W5→List Own→Prop:=PanR(XN r=0)(YV(XN r))fun y o=>∃k σ' f' o1,r=.ok(k,σ',f')∧KU f'∧W(j+1)σ' o1∧y=.c(.bool k)∧o=[mb b s f',o1]
theorem BodR.er {β:Type}{W:Nat→β→Own→Prop}{r:Except Int(Bool×β×Int)}{j b:Nat}{s:ScT}{c:Int}(h:r=.error c)(hc:¬c=0):BodR W r j b s(.pan(.iface 33(.int .i64 c))) []:=.inr⟨by rw[h];exact hc,by rw[h];rfl,rfl⟩
theorem BodR.ok {β:Type}{W:Nat→β→Own→Prop}{r:Except Int(Bool×β×Int)}{j b:Nat}{s:ScT}{k:Bool}{σ:β}{f':Int}{o1:Own}(h:r=.ok(k,σ,f'))(hf:KU f')(hW:W(j+1)σ o1):BodR W r j b s(.ret(.c(.bool k))) [mb b s f',o1]:=.inl⟨by rw[h];rfl,_,rfl,k,σ,f',o1,h,hf,hW,rfl,rfl⟩
theorem Bf {n:Nat}(ih:Eb n){y:EX}{s:ScT}{fr:Bool}(hw:y.wf)(hf:y.Fine)(hs:s.good)(hn:y.sz≤n)(b b5 b2 b6:Nat){j:Nat}{ys:List V}{x:V}{f:Int}{o0:Own}(hj:j<32)(hW:Ch b5 b2 b6 b(y.cs fr)j ys o0)(hx:x.good)(h0:KU f):
    AC Tryz.prog 106 [mb b {s with it:=x}f,o0] [.agg(x.cs false),.c(MH b5),.c(MH b2),.c(MH b6)](BodR(Ch b5 b2 b6 b(y.cs fr))(GL y s ys x f)j b {s with it:=x}):=by
  obtain⟨v,rfl,hl,hgd⟩:=hW
  refine AC.of_J Tryz.func106 rfl Tryz.ntmps106 rfl fun w0 A0=>?_
  refine J.seq(J.reown(Reown.cons(U2 _ _))(Qg(Qp(.tmp rfl)rfl fun b4=>Zq rfl(QW.assign .const)(Zn(J.seq(QU Ud(Zf 0 []rfl(fun _=>Qa Ue(.tmp rfl)rfl)(Zo 1 2 [6]rfl(fun _ ho_=>Qb 2 U6(.tmp rfl)ho_ rfl) ?_))))))))
  refine Zo 2 4 []rfl(fun _ ho_=>Qb 4 MT(.tmp rfl)ho_ rfl)(Zo 3 5 []rfl(fun _ ho_=>Qf 5 UA(.tmp rfl)ho_(Qm xl rfl)xl)(Zo 5 3 [7]rfl(fun _ ho_=>Yg 3 QO(.tmp rfl)ho_)(Zf 6 []rfl(fun _=>QW.buildSlice(idx:=[0])(xs:=[[.c(.int .i64 0),.c(.int .u64 0),.c(Un []),.c(.slice none 0 0),.c(.slice none 0 0)]])QO Ga WV rfl(.cons(.constA rfl) .nil)rfl rfl rfl rfl rfl rfl rfl rfl rfl)(JX.one 4 [false,false,true,true,false,false]rfl(by kernel_rfl)(by kernel_rfl)rfl rfl(by kernel_rfl)rfl fun bs4_ pe_ ex_=>?_))))
  refine JL.conv(by(try simp only[Ub,Uk,Q5,QS,Flt.val,Flt.bx,nx,nl,Qk,Qz,QA,Qy,QR,AV.cellsOf,Qd,Qe,Nat.reduceAdd]);rfl) ?_
  refine Qs [.k,.p]Gx rfl Lent.nil(fun _=>(.cons(.tmp rfl)(.cons(.tmp rfl) .nil)))(ih y {s with it:=x}f b fr hw hf⟨hs.st,hs.ev,hx⟩h0 hn)(.inl rfl)(fun k10 x10 o10 h10=>?_)(fun k10=>?_)
  rotate_left
  ·skip
    refine thenQ.p(thenQ.p ?_)
    exact⟨_,QN [.k,.k,.k,.k,.k]_,_,rfl,rfl,Qn [.k,.k,.k,.k,.k]_,BodR.er(FJ(Wm k10))k10⟩
  obtain⟨v10,f10,hv10,rfl,rfl⟩:=h10
  refine JL.nil ?_
  refine thenQ.n⟨[_],_,rfl,rfl,rfl,rfl,rfl,Wt 6 rfl rfl,⟨rfl,rfl⟩,⟨trivial,⟨rfl,⟨rfl,⟨trivial,trivial⟩⟩⟩⟩,?_⟩
  refine JX.conv(S':=[4,3,2])rfl(by(try simp only[QS]);rfl)(by(try simp only[Ub,Uk,Q5,QS,Flt.val,Flt.bx,nx,nl,Qk,Qz,QA,Qy,QR,AV.cellsOf,Qd,Qe,Nat.reduceAdd]);rfl) ?_
  refine JX.one 7 [true,true,true,true]rfl(by kernel_rfl)(by kernel_rfl)rfl rfl(by kernel_rfl)rfl fun bs7_ pe_ ex_=>?_
  refine JL.conv(by(try simp only[Ub,Uk,Q5,QS,Flt.val,Flt.bx,nx,nl,Qk,Qz,QA,Qy,QR,AV.cellsOf,Qd,Qe,Nat.reduceAdd]);rfl) ?_
  obtain⟨hgv,hfv⟩:=Kf(s:={s with it:=x})hw hf⟨hs.st,hs.ev,hx⟩h0 hv10
  refine JL.append 3 QO Ga rfl(.tmp rfl)rfl(UM QO(.tmp rfl))(by rw[V.css_length];show(_+1)*80≤_;unfold Qu;omega)rfl fun v13=>?_
  refine JL.nil ?_
  refine thenQ.n⟨[_],_,rfl,rfl,rfl,rfl,rfl,QJ 6 rfl,⟨rfl,rfl⟩,trivial,?_⟩
  refine JX.conv(S':=[7,6,5,1,0,4,3,2])rfl(by(try simp only[QS]);rfl)(by(try simp only[Ub,Uk,Q5,QS,Flt.val,Flt.bx,nx,nl,Qk,Qz,QA,Qy,QR,AV.cellsOf,Qd,Qe,Nat.reduceAdd]);rfl) ?_
  refine Zo 8 3 [13,11]rfl(fun _ ho_=>Y4 3 QO Qj rfl(.tmp rfl)ho_(.tmp rfl)rfl(by rw[List.length_append,V.css_length];simp)rfl) ?_
  refine Zf 10 []rfl(fun _=>Qa Ue(.tmp rfl)rfl) ?_
  refine BB 9 11(by kernel_rfl)(by kernel_rfl) ?_ ?_
  ·skip
    refine CandX.mk 9 [false,true]rfl rfl rfl(by kernel_rfl)rfl fun bs9_ pe_ ex_=>?_
    refine JL.conv(by(try simp only[Ub,Uk,Q5,QS,Flt.val,Flt.bx,nx,nl,Qk,Qz,QA,Qy,QR,AV.cellsOf,Qd,Qe,Nat.reduceAdd]);rfl) ?_
    refine YP(o:=0) 3 Qj(.tmp rfl)rfl(G5 _ _)(by rw[V.css_length];rfl)(.tmp rfl)rfl vl rfl((congrArg(List.set _ _)(U0(by exact vl))).trans(Lr _ _ _))rfl ?_
    refine JL.nil ?_
    refine thenQ.n⟨[],_,rfl,rfl,rfl,rfl,rfl,QJ 6 rfl,trivial,⟨trivial,trivial⟩,?_⟩
    refine JX.conv(S':=[9,8,7,6,5,1,0,4,3,2])rfl(by(try simp only[QS]);rfl)(by(try simp only[Ub,Uk,Q5,QS,Flt.val,Flt.bx,nx,nl,Qk,Qz,QA,Qy,QR,AV.cellsOf,Qd,Qe,Nat.reduceAdd]);rfl) ?_
    refine JX.one 11 [true]rfl(by kernel_rfl)(by kernel_rfl)rfl rfl(by kernel_rfl)rfl fun bs11_ pe_ ex_=>?_
    refine JL.conv(by(try simp only[Ub,Uk,Q5,QS,Flt.val,Flt.bx,nx,nl,Qk,Qz,QA,Qy,QR,AV.cellsOf,Qd,Qe,Nat.reduceAdd]);rfl) ?_
    refine JL.isSlice 3 rfl fun hs1=>JL.store_box 2 U6(.tmp rfl)rfl(.tmp rfl)(by assumption)rfl rfl rfl rfl ?_
    refine JL.nil ?_
    refine thenQ.n⟨[],_,rfl,rfl,rfl,rfl,rfl,QJ 6 rfl,trivial,trivial,?_⟩
    refine JX.conv(S':=[11,10,9,8,7,6,5,1,0,4,3,2])rfl(by(try simp only[QS]);rfl)(by(try simp only[Ub,Uk,Q5,QS,Flt.val,Flt.bx,nx,nl,Qk,Qz,QA,Qy,QR,AV.cellsOf,Qd,Qe,Nat.reduceAdd]);rfl) ?_
    refine JX.fin(by kernel_rfl)(by kernel_rfl)fun bs_=>?_
    refine QX.conv(by(try simp only[Ub,Uk,Q5,QS,Flt.val,Flt.bx,nx,nl,Qk,Qz,QA,Qy,QR,AV.cellsOf,Qd,Qe,Nat.reduceAdd]);rfl) ?_
    exact thenQ.n(J.seq(J.reown(Reown.cons(Reown.cons(Wg [_,_,_,_] [])))(Qg(Zq rfl(QW.assign .const)(Zn(J.ret(Zr [.k,.p,.p](RetEv.one rfl(REv.tmp rfl lr))rfl(BodR.ok(RH hv10)hfv⟨_,rfl,by simp;omega,fun z hz=>(List.mem_append.1 hz).elim(hgd z)(fun h=>by rw[List.mem_singleton.1 h];exact hgv)⟩))))))))
  ·skip
    refine CandX.mk 11 [true,false]rfl rfl rfl(by kernel_rfl)rfl fun bs11_ pe_ ex_=>?_
    refine JL.conv(by(try simp only[Ub,Uk,Q5,QS,Flt.val,Flt.bx,nx,nl,Qk,Qz,QA,Qy,QR,AV.cellsOf,Qd,Qe,Nat.reduceAdd]);rfl) ?_
    refine JL.isSlice 3 rfl fun hs1=>JL.store_box 2 U6(.tmp rfl)rfl(.tmp rfl)(by assumption)rfl rfl rfl rfl ?_
    refine JL.nil ?_
    refine thenQ.n⟨[],_,rfl,rfl,rfl,rfl,rfl,QJ 6 rfl,trivial,⟨rfl,trivial⟩,?_⟩
    refine JX.conv(S':=[11,10,7,6,5,1,0,4,3,2])rfl(by(try simp only[QS]);rfl)(by(try simp only[Ub,Uk,Q5,QS,Flt.val,Flt.bx,nx,nl,Qk,Qz,QA,Qy,QR,AV.cellsOf,Qd,Qe,Nat.reduceAdd]);rfl) ?_
    refine JX.one 9 [true]rfl(by kernel_rfl)(by kernel_rfl)rfl rfl(by kernel_rfl)rfl fun bs9_ pe_ ex_=>?_
    refine JL.conv(by(try simp only[Ub,Uk,Q5,QS,Flt.val,Flt.bx,nx,nl,Qk,Qz,QA,Qy,QR,AV.cellsOf,Qd,Qe,Nat.reduceAdd]);rfl) ?_
    refine YP(o:=0) 3 Qj(.tmp rfl)rfl(G5 _ _)(by rw[V.css_length];rfl)(.tmp rfl)rfl vl rfl((congrArg(List.set _ _)(U0(by exact vl))).trans(Lr _ _ _))rfl ?_
    refine JL.nil ?_
    refine thenQ.n⟨[],_,rfl,rfl,rfl,rfl,rfl,QJ 6 rfl,trivial,trivial,?_⟩
    refine JX.conv(S':=[9,8,11,10,7,6,5,1,0,4,3,2])rfl(by(try simp only[QS]);rfl)(by(try simp only[Ub,Uk,Q5,QS,Flt.val,Flt.bx,nx,nl,Qk,Qz,QA,Qy,QR,AV.cellsOf,Qd,Qe,Nat.reduceAdd]);rfl) ?_
    refine JX.fin(by kernel_rfl)(by kernel_rfl)fun bs_=>?_
    refine QX.conv(by(try simp only[Ub,Uk,Q5,QS,Flt.val,Flt.bx,nx,nl,Qk,Qz,QA,Qy,QR,AV.cellsOf,Qd,Qe,Nat.reduceAdd]);rfl) ?_
    exact thenQ.n(J.seq(J.reown(Reown.cons(Reown.cons(Wg [_,_,_,_] [])))(Qg(Zq rfl(QW.assign .const)(Zn(J.ret(Zr [.k,.p,.p](RetEv.one rfl(REv.tmp rfl lr))rfl(BodR.ok(RH hv10)hfv⟨_,rfl,by simp;omega,fun z hz=>(List.mem_append.1 hz).elim(hgd z)(fun h=>by rw[List.mem_singleton.1 h];exact hgv)⟩))))))))
theorem XW {e:EX}{s:ScT}{f f':Int}{t:Bool}(hw:e.wf)(hf:e.Fine)(hs:s.good)(h0:KU f)(h:UY(e.ev s f)=.ok(t,f')):KU f':=by
  obtain⟨v,h1,_,_⟩:=KR h
  exact(Kf hw hf hs h0 h1).2
def wFnd(b7 b5 b2 b6 b:Nat)(ye:List AV)(j:Nat)(p:Bool×V)(o:Own):Prop:=∃zs,o=.grp [.box b7 [.c(.bool p.1)],.box b5 zs,.box b2 [pb b],.box b6 ye]∧zs.length=5∧(p.1=true→zs=p.2.cs false∧p.2.good)
def Kj(y:EX)(s:ScT)(p:Bool×V)(x:V)(f:Int):Except Int(Bool×(Bool×V)×Int):=match UY(y.ev {s with it:=x}f)with
  |.error e=>.error e
  |.ok(t,f')=>.ok(!t,(t,if t then x else p.2),f')
theorem FK {y:EX}{s:ScT}{p:Bool×V}{x:V}{f c:Int}(h:UY(y.ev {s with it:=x}f)=.error c):Kj y s p x f=.error c:=by unfold Kj;rw[h]
theorem RI {y:EX}{s:ScT}{p:Bool×V}{x:V}{f f':Int}{t:Bool}(h:UY(y.ev {s with it:=x}f)=.ok(t,f')):Kj y s p x f=.ok(!t,(t,if t then x else p.2),f'):=by unfold Kj;rw[h]
theorem Be {n:Nat}(ih:Eb n){y:EX}{s:ScT}{fr:Bool}(hw:y.wf)(hf:y.Fine)(hs:s.good)(hn:y.sz≤n)(b b5 b2 b6:Nat){j:Nat}{ys:List V}{x:V}{f:Int}{o0:Own}(hj:j<32)(hW:Ch b5 b2 b6 b(y.cs fr)j ys o0)(hx:x.good)(h0:KU f):
    AC Tryz.prog 107 [mb b {s with it:=x}f,o0] [.agg(x.cs false),.c(MH b2),.c(MH b6),.c(MH b5)](BodR(Ch b5 b2 b6 b(y.cs fr))(GM y s ys x f)j b {s with it:=x}):=by
  obtain⟨v,rfl,hl,hgd⟩:=hW
  refine AC.of_J Tryz.func107 rfl Tryz.ntmps107 rfl fun w0 A0=>?_
  refine J.seq(J.reown(Reown.cons(U2 _ _))(Qg(Qp(.tmp rfl)rfl fun b4=>Zq rfl(QW.assign .const)(Zn(J.seq(Zs(Zq rfl(Qb 4 MT(.tmp rfl)rfl rfl)(Zq rfl(Qf 5 UA(.tmp rfl)rfl(Qm xl rfl)xl) ?_))))))))
  refine Qs [.k,.p]Gv rfl Lent.nil(fun _=>(.cons(.tmp rfl)(.cons(.tmp rfl) .nil)))(YA(s:={s with it:=x})ih Xc.self hw hf⟨hs.st,hs.ev,hx⟩h0 hn)(.inl rfl)(fun k8 x8 o8 h8=>?_)(fun k8=>?_)
  rotate_left
  ·skip
    refine thenQ.p(thenQ.p ?_)
    exact⟨_,QN [.k,.k,.k,.k,.k]_,_,rfl,rfl,Qn [.k,.k,.k,.k,.k]_,BodR.er(FL(Wm k8))k8⟩
  obtain⟨q8,f8,hq8,rfl,rfl⟩:=h8
  refine Zn ?_
  refine J.cond(.tmp rfl)(fun c1=>?_)(fun c1=>?_)
  ·skip
    obtain rfl:q8=true:=c1
    have hfv:=XW(s:={s with it:=x})hw hf⟨hs.st,hs.ev,hx⟩h0 hq8
    refine QU Ud(Zf 0 []rfl(fun _=>Qa Ue(.tmp rfl)rfl)(Zo 1 2 [9]rfl(fun _ ho_=>Qb 2 U6(.tmp rfl)ho_ rfl)(Zo 2 0 []rfl(fun _ ho_=>Qf 0 Qj(.tmp rfl)ho_(Qm vl rfl)vl)(Zo 3 3 [10]rfl(fun _ ho_=>Yg 3 QO(.tmp rfl)ho_)(Zf 4 []rfl(fun _=>QW.buildSlice(idx:=[0])(xs:=[[.c(.int .i64 0),.c(.int .u64 0),.c(Un []),.c(.slice none 0 0),.c(.slice none 0 0)]])QO Ga WV rfl(.cons(.constA rfl) .nil)rfl rfl rfl rfl rfl rfl rfl rfl rfl)(JX.one 5 [true,true,true,true,true]rfl(by kernel_rfl)(by kernel_rfl)rfl rfl(by kernel_rfl)rfl fun bs5_ pe_ ex_=>?_))))))
    refine JL.conv(by(try simp only[Ub,Uk,Q5,QS,Flt.val,Flt.bx,nx,nl,Qk,Qz,QA,Qy,QR,AV.cellsOf,Qd,Qe,Nat.reduceAdd]);rfl) ?_
    refine JL.append 3 QO Ga rfl(.tmp rfl)rfl(UM QO(.tmp rfl))(by rw[V.css_length];show(_+1)*80≤_;unfold Qu;omega)rfl fun v14=>?_
    refine JL.nil ?_
    refine thenQ.n⟨[_],_,rfl,rfl,rfl,rfl,rfl,QJ 6 rfl,⟨rfl,rfl⟩,trivial,?_⟩
    refine JX.conv(S':=[5,4,3,2,1,0])rfl(by(try simp only[QS]);rfl)(by(try simp only[Ub,Uk,Q5,QS,Flt.val,Flt.bx,nx,nl,Qk,Qz,QA,Qy,QR,AV.cellsOf,Qd,Qe,Nat.reduceAdd]);rfl) ?_
    refine Zo 6 3 [14,12]rfl(fun _ ho_=>Y4 3 QO Qj rfl(.tmp rfl)ho_(.tmp rfl)rfl(by rw[List.length_append,V.css_length];simp)rfl) ?_
    refine Zf 8 []rfl(fun _=>Qa Ue(.tmp rfl)rfl) ?_
    refine BB 7 9(by kernel_rfl)(by kernel_rfl) ?_ ?_
    ·skip
      refine CandX.mk 7 [false,true]rfl rfl rfl(by kernel_rfl)rfl fun bs7_ pe_ ex_=>?_
      refine JL.conv(by(try simp only[Ub,Uk,Q5,QS,Flt.val,Flt.bx,nx,nl,Qk,Qz,QA,Qy,QR,AV.cellsOf,Qd,Qe,Nat.reduceAdd]);rfl) ?_
      refine YP(o:=0) 3 Qj(.tmp rfl)rfl(G5 _ _)(by rw[V.css_length];rfl)(.tmp rfl)rfl vl rfl((congrArg(List.set _ _)(U0(by exact vl))).trans(Lr _ _ _))rfl ?_
      refine JL.nil ?_
      refine thenQ.n⟨[],_,rfl,rfl,rfl,rfl,rfl,QJ 6 rfl,trivial,⟨trivial,trivial⟩,?_⟩
      refine JX.conv(S':=[7,6,5,4,3,2,1,0])rfl(by(try simp only[QS]);rfl)(by(try simp only[Ub,Uk,Q5,QS,Flt.val,Flt.bx,nx,nl,Qk,Qz,QA,Qy,QR,AV.cellsOf,Qd,Qe,Nat.reduceAdd]);rfl) ?_
      refine JX.one 9 [true]rfl(by kernel_rfl)(by kernel_rfl)rfl rfl(by kernel_rfl)rfl fun bs9_ pe_ ex_=>?_
      refine JL.conv(by(try simp only[Ub,Uk,Q5,QS,Flt.val,Flt.bx,nx,nl,Qk,Qz,QA,Qy,QR,AV.cellsOf,Qd,Qe,Nat.reduceAdd]);rfl) ?_
      refine JL.isSlice 3 rfl fun hs1=>JL.store_box 2 U6(.tmp rfl)rfl(.tmp rfl)(by assumption)rfl rfl rfl rfl ?_
      refine JL.nil ?_
      refine thenQ.n⟨[],_,rfl,rfl,rfl,rfl,rfl,QJ 6 rfl,trivial,trivial,?_⟩
      refine JX.conv(S':=[9,8,7,6,5,4,3,2,1,0])rfl(by(try simp only[QS]);rfl)(by(try simp only[Ub,Uk,Q5,QS,Flt.val,Flt.bx,nx,nl,Qk,Qz,QA,Qy,QR,AV.cellsOf,Qd,Qe,Nat.reduceAdd]);rfl) ?_
      refine JX.fin(by kernel_rfl)(by kernel_rfl)fun bs_=>?_
      refine QX.conv(by(try simp only[Ub,Uk,Q5,QS,Flt.val,Flt.bx,nx,nl,Qk,Qz,QA,Qy,QR,AV.cellsOf,Qd,Qe,Nat.reduceAdd]);rfl) ?_
      exact thenQ.n(J.seq(J.reown(Reown.cons(Reown.cons(Wg [_,_,_,_] [])))(Qg(Zq rfl(QW.assign .const)(Zn(J.ret(Zr [.k,.p,.p](RetEv.one rfl(REv.tmp rfl lr))rfl(BodR.ok(σ:=ys++[x])(Lz hq8)hfv⟨_,rfl,by simp;omega,fun z hz=>(List.mem_append.1 hz).elim(hgd z)(fun h=>by rw[List.mem_singleton.1 h];exact hx)⟩))))))))
    ·skip
      refine CandX.mk 9 [true,false]rfl rfl rfl(by kernel_rfl)rfl fun bs9_ pe_ ex_=>?_
      refine JL.conv(by(try simp only[Ub,Uk,Q5,QS,Flt.val,Flt.bx,nx,nl,Qk,Qz,QA,Qy,QR,AV.cellsOf,Qd,Qe,Nat.reduceAdd]);rfl) ?_
      refine JL.isSlice 3 rfl fun hs1=>JL.store_box 2 U6(.tmp rfl)rfl(.tmp rfl)(by assumption)rfl rfl rfl rfl ?_
      refine JL.nil ?_
      refine thenQ.n⟨[],_,rfl,rfl,rfl,rfl,rfl,QJ 6 rfl,trivial,⟨rfl,trivial⟩,?_⟩
      refine JX.conv(S':=[9,8,5,4,3,2,1,0])rfl(by(try simp only[QS]);rfl)(by(try simp only[Ub,Uk,Q5,QS,Flt.val,Flt.bx,nx,nl,Qk,Qz,QA,Qy,QR,AV.cellsOf,Qd,Qe,Nat.reduceAdd]);rfl) ?_
      refine JX.one 7 [true]rfl(by kernel_rfl)(by kernel_rfl)rfl rfl(by kernel_rfl)rfl fun bs7_ pe_ ex_=>?_
      refine JL.conv(by(try simp only[Ub,Uk,Q5,QS,Flt.val,Flt.bx,nx,nl,Qk,Qz,QA,Qy,QR,AV.cellsOf,Qd,Qe,Nat.reduceAdd]);rfl) ?_
      refine YP(o:=0) 3 Qj(.tmp rfl)rfl(G5 _ _)(by rw[V.css_length];rfl)(.tmp rfl)rfl vl rfl((congrArg(List.set _ _)(U0(by exact vl))).trans(Lr _ _ _))rfl ?_
      refine JL.nil ?_
      refine thenQ.n⟨[],_,rfl,rfl,rfl,rfl,rfl,QJ 6 rfl,trivial,trivial,?_⟩
      refine JX.conv(S':=[7,6,9,8,5,4,3,2,1,0])rfl(by(try simp only[QS]);rfl)(by(try simp only[Ub,Uk,Q5,QS,Flt.val,Flt.bx,nx,nl,Qk,Qz,QA,Qy,QR,AV.cellsOf,Qd,Qe,Nat.reduceAdd]);rfl) ?_
      refine JX.fin(by kernel_rfl)(by kernel_rfl)fun bs_=>?_
      refine QX.conv(by(try simp only[Ub,Uk,Q5,QS,Flt.val,Flt.bx,nx,nl,Qk,Qz,QA,Qy,QR,AV.cellsOf,Qd,Qe,Nat.reduceAdd]);rfl) ?_
      exact thenQ.n(J.seq(J.reown(Reown.cons(Reown.cons(Wg [_,_,_,_] [])))(Qg(Zq rfl(QW.assign .const)(Zn(J.ret(Zr [.k,.p,.p](RetEv.one rfl(REv.tmp rfl lr))rfl(BodR.ok(σ:=ys++[x])(Lz hq8)hfv⟨_,rfl,by simp;omega,fun z hz=>(List.mem_append.1 hz).elim(hgd z)(fun h=>by rw[List.mem_singleton.1 h];exact hx)⟩))))))))
  obtain rfl:q8=false:=c1
  have hfv:=XW(s:={s with it:=x})hw hf⟨hs.st,hs.ev,hx⟩h0 hq8
  exact Zk(J.seq(J.reown(Reown.cons(Reown.cons(Wg [_,_,_,_] [])))(Qg(Zq rfl(QW.assign .const)(Zn(J.ret(Zr [.k,.p,.p](RetEv.one rfl(REv.tmp rfl lr))rfl(BodR.ok(σ:=ys)(Lz hq8)hfv⟨_,rfl,by omega,hgd⟩))))))))
theorem Bd {n:Nat}(ih:Eb n){y:EX}{s:ScT}{fr:Bool}(hw:y.wf)(hf:y.Fine)(hs:s.good)(hn:y.sz≤n)(b b5 b2 b6 b7:Nat){j:Nat}{p:Bool×V}{x:V}{f:Int}{o0:Own}(hj:j<32)(hW:wFnd b7 b5 b2 b6 b(y.cs fr)j p o0)(hx:x.good)(h0:KU f):
    AC Tryz.prog 108 [mb b {s with it:=x}f,o0] [.agg(x.cs false),.c(MH b2),.c(MH b6),.c(MH b7),.c(MH b5)](BodR(wFnd b7 b5 b2 b6 b(y.cs fr))(Kj y s p x f)j b {s with it:=x}):=by
  obtain⟨zs,rfl,hz5,hzs⟩:=hW
  refine AC.of_J Tryz.func108 rfl Tryz.ntmps108 rfl fun w0 A0=>?_
  refine J.seq(J.reown(Reown.cons(U2 _ _))(Qg(Qp(.tmp rfl)rfl fun b5=>Zq rfl(QW.assign .const)(Zn(J.seq(Zs(Zq rfl(Qb 4 MT(.tmp rfl)rfl rfl)(Zq rfl(Qf 5 UA(.tmp rfl)rfl(Qm xl rfl)xl) ?_))))))))
  refine Qs [.k,.p]Gv rfl Lent.nil(fun _=>(.cons(.tmp rfl)(.cons(.tmp rfl) .nil)))(YA(s:={s with it:=x})ih Xc.self hw hf⟨hs.st,hs.ev,hx⟩h0 hn)(.inl rfl)(fun k9 x9 o9 h9=>?_)(fun k9=>?_)
  rotate_left
  ·skip
    refine thenQ.p(thenQ.p ?_)
    exact⟨_,QN [.k,.k,.k,.k,.k]_,_,rfl,rfl,Qn [.k,.k,.k,.k,.k]_,BodR.er(FK(Wm k9))k9⟩
  obtain⟨q9,f9,hq9,rfl,rfl⟩:=h9
  refine JL.store_box 2 P5(.tmp rfl)rfl(.tmp rfl)rfl rfl rfl rfl rfl(Zn(Zs(Zq rfl(Qb 2 P5(.tmp rfl)rfl rfl)(Zn ?_))))
  refine J.cond(.tmp rfl)(fun c1=>?_)(fun c1=>?_)
  ·skip
    obtain rfl:q9=true:=c1
    have hfv:=XW(s:={s with it:=x})hw hf⟨hs.st,hs.ev,hx⟩h0 hq9
    refine Qg(Zq rfl(Qf 0 Qj(.tmp rfl)rfl(Qm vl rfl)vl)(JL.store_box 3 Qj(.tmp rfl)rfl(.tmp rfl)rfl vl(by rw[hz5];rfl)(U0(by show(V.cs _ _).length=_;rw[V.cs_length,hz5]))rfl ?_))
    exact Zn(Zs(Zq rfl(Qb 2 P5(.tmp rfl)rfl rfl)(Zq rfl(QW.not(.tmp rfl))(JL.reown(Reown.cons(Reown.cons(Wg [_,_,_,_] [])))(Zq rfl(QW.assign(.tmp rfl))(Zn(J.ret(Zr [.k,.p,.p](RetEv.one rfl(REv.tmp rfl lr))rfl(BodR.ok(σ:=(true,x))(RI hq9)hfv⟨_,rfl,vl,fun _=>⟨rfl,hx⟩⟩)))))))))
  obtain rfl:q9=false:=c1
  have hfv:=XW(s:={s with it:=x})hw hf⟨hs.st,hs.ev,hx⟩h0 hq9
  exact Zk(Zs(Zq rfl(Qb 2 P5(.tmp rfl)rfl rfl)(Zq rfl(QW.not(.tmp rfl))(JL.reown(Reown.cons(Reown.cons(Wg [_,_,_,_] [])))(Zq rfl(QW.assign(.tmp rfl))(Zn(J.ret(Zr [.k,.p,.p](RetEv.one rfl(REv.tmp rfl lr))rfl(BodR.ok(σ:=(false,p.2))(RI hq9)hfv⟨_,rfl,hz5,fun h=>by cases h⟩)))))))))

end
end Go.Proofs.YtmccnmahegbmpaaGreat.J
