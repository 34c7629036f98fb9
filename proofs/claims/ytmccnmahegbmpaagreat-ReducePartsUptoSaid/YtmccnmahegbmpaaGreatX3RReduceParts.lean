/- Texts of this proof, laid together. -/
import Derived.Test.YtmccnmahegbmpaaGreatX2RReduceParts
set_option linter.unusedVariables false
set_option linter.unusedSimpArgs false
namespace Go.Proofs.YtmccnmahegbmpaaGreat.J
open Go Go.RowKit
section
/- Walks: numbers (the package float): classes, operations, floors. -/
set_option maxRecDepth 10000
set_option maxHeartbeats 4000000
theorem Nm{b:Nat}:WC b<4↔Q4 b<UA:=by
  unfold WC
  rw[Wu]
  by_cases h1:UA<Q4 b
  · rw[if_pos (by simpa using h1)];omega
  · rw[if_neg (by simpa using h1)]
    by_cases h2:Q4 b=UA
    · rw[if_pos h2];omega
    · rw[if_neg h2]
      (repeat' split)<;>omega
theorem Tn{b:Nat}:4≤WC b↔UA≤Q4 b:=by
  have:=@Nm b
  omega
theorem DT(b:Nat)(hb:b<2^64):Fn Tryz.prog 146 [.c (Yy b)] (.c (Yy (b%2^63))):=by
  refine AC.of_J Tryz.func146 rfl Tryz.ntmps146 rfl fun w0 A0=>?_
  refine Zs (Zq rfl (QW.assign .const) (Zn (Zs (Zq rfl (QW.move (.tmp rfl)) (Zq rfl (QW.ext (Lk _) (.tmp rfl)) (Zq rfl (QW.andNot (.tmp rfl) .const (QaD b hb)) (Zq rfl (QW.ext (Xp _) (.tmp rfl)) (Zq rfl (QW.assign (.tmp rfl)) (Zn ?_)))))))))
  refine J.ret ?_
  exact⟨_,[],_,RetEv.one rfl (REv.tmp rfl lr),rfl,List.Perm.refl _,rfl,rfl⟩
theorem BA(b:Nat)(hb:b<2^64):Fn Tryz.prog 148 [.c (Yy b),.c (.int .i64 0)] (.c (.bool (decide (Q4 b=UA)))):=by
  refine AC.of_J Tryz.func148 rfl Tryz.ntmps148 rfl fun w0 A0=>?_
  refine Zs (Zq rfl (QW.assign .const) (Zn (J.seq (Zs (Zq rfl (QW.move (.tmp rfl)) (Zq rfl (QW.eql (.tmp rfl) .const) (Zn ?_)))))))
  refine J.cond (.tmp rfl) (fun c1=>?_) (fun c1=>absurd c1 (by decide))
  refine Qg (Zq rfl (QW.move (.tmp rfl)) (Zq rfl (QW.call NZ (.cons (.tmp rfl) .nil) (by(apply DT<;>first|assumption|omega))) ?_))
  refine Zq rfl (QW.assign (.tmp rfl)) (Zn (Zs (Zq rfl (QW.move (.tmp rfl)) (Zq rfl (Mr (.tmp rfl) .const) (Zq rfl (QW.assign (.tmp rfl)) (Zn (J.ret ?_)))))))
  exact⟨_,[],_,RetEv.one rfl (REv.tmp rfl lr),rfl,List.Perm.refl _,by
      by_cases hn:isNan b=true
      · rw[CT (by rw[KT];exact hn)]
        rw[Wu]at hn;simp at hn
        congr 3;simp;omega
      · rw[KV (by rw[KT];simpa using hn) (by decide),Hg]
        rw[Wu]at hn;simp at hn
        congr 3
        rw[show sr 9218868437227405311=9218868437227405311 by decide]
        simp;unfold UA at*;omega,rfl⟩
theorem TX(b:Nat)(hb:b<2^64):Fn Tryz.prog 152 [.c (Yy b)] (.c (.bool (decide (2^63≤b)))):=by
  refine AC.of_J Tryz.func152 rfl Tryz.ntmps152 rfl fun w0 A0=>?_
  refine Zs (Zq rfl (QW.assign .const) (Zn (Zs (Zq rfl (QW.move (.tmp rfl)) (Zq rfl (QW.ext (Lk _) (.tmp rfl)) (Zq rfl (WP us22 iu2 (.tmp rfl) rfl) (Zq rfl (QW.lss (.tmp rfl) .const) (Zq rfl (QW.assign (.tmp rfl)) (Zn ?_)))))))))
  refine J.ret ?_
  exact⟨_,[],_,RetEv.one rfl (REv.tmp rfl lr),rfl,List.Perm.refl _,by
      congr 3
      rw[decide_eq_decide]
      by_cases h:2^63≤b
      · rw[HI h hb];omega
      · rw[WW (by omega)];omega,rfl⟩
theorem PA(b:Nat)(hb:b<2^64):Fn Tryz.prog 144 [.c (.int .u64 (b:Int))] (.c (.int .i64 (WC b))):=by
  refine AC.of_J Tryz.func144 rfl Tryz.ntmps144 rfl fun w0 A0=>?_
  refine Zs (Zq rfl (QW.assign .const) (Zn (Zs (Zq rfl (QW.move (.tmp rfl)) (Zq rfl (QW.ext (Xp _) (.tmp rfl)) (Zq rfl (QW.assign (.tmp rfl)) (Zn (Zs (Zq rfl (QW.move (.tmp rfl)) ?_)))))))))
  refine Zq rfl (QW.call NZ (.cons (.tmp rfl) .nil) (by(apply DT<;>first|assumption|omega))) ?_
  refine Zq rfl (QW.assign (.tmp rfl)) (Zn (J.seq (J.block (Zs (Zq rfl (QW.move (.tmp rfl)) (Zq rfl (QW.move (.tmp rfl)) (Zq rfl (Hb (.tmp rfl) (.tmp rfl)) (Zq rfl (QW.assign (.tmp rfl)) (Zn ?_)))))))))
  refine J.cond (.tmp rfl) (fun c1=>?_) (fun c1=>?_)
  ·
    rw[Y5]at c1
    refine Zs (Zq rfl (QW.assign .const) (Zn (J.ret (blkQ.r (thenQ.r ?_)))))
    exact⟨_,[],_,RetEv.one rfl (REv.tmp rfl lr),rfl,List.Perm.refl _,by simp[WC,c1],rfl⟩
  ·
    rw[Y5]at c1
    have ha:isNan (b%2^63)=false:=by rw[KT];exact c1
    refine Zs (Zq rfl (QW.move (.tmp rfl)) (Zq rfl (QW.call SF (.cons (.tmp rfl) (.cons (.const) .nil)) (by(apply BA<;>first|assumption|omega))) ?_))
    refine Zq rfl (QW.assign (.tmp rfl)) (Zn ?_)
    refine J.cond (.tmp rfl) (fun c2=>?_) (fun c2=>?_)
    ·
      simp at c2
      refine Zs (Zq rfl (QW.assign .const) (Zn (J.ret (blkQ.r (thenQ.r ?_)))))
      exact⟨_,[],_,RetEv.one rfl (REv.tmp rfl lr),rfl,List.Perm.refl _,by simp[WC,c1,c2],rfl⟩
    ·
      simp at c2
      refine Zs (Zq rfl (QW.move (.tmp rfl)) (Zq rfl (PM (.tmp rfl) .const) (Zq rfl (QW.assign (.tmp rfl)) (Zn ?_))))
      refine J.cond (.tmp rfl) (fun c3=>?_) (fun c3=>?_)
      ·
        rw[KV ha (by decide),LZ ha (by decide),Hg,show sr 4503599627370496=4503599627370496 by decide]at c3;simp at c3
        refine Zs (Zq rfl (QW.assign .const) (Zn (J.ret (blkQ.r (thenQ.r ?_)))))
        exact⟨_,[],_,RetEv.one rfl (REv.tmp rfl lr),rfl,List.Perm.refl _,by unfold WC;rw[c1,if_neg (by decide),if_neg c2,if_pos (by omega)],rfl⟩
      ·
        rw[KV ha (by decide),LZ ha (by decide),Hg,show sr 4503599627370496=4503599627370496 by decide]at c3;simp at c3
        refine Zs (Zq rfl (QW.move (.tmp rfl)) (Zq rfl (Mr (.tmp rfl) .const) (Zq rfl (QW.assign (.tmp rfl)) (Zn ?_))))
        refine J.cond (.tmp rfl) (fun c4=>?_) (fun c4=>?_)
        ·
          rw[KV ha (by decide),Hg,show sr 0=0 by decide]at c4;simp at c4
          refine Zs (Zq rfl (QW.assign .const) (Zn (J.ret (blkQ.r (thenQ.r ?_)))))
          exact⟨_,[],_,RetEv.one rfl (REv.tmp rfl lr),rfl,List.Perm.refl _,by unfold WC;rw[c1,if_neg (by decide),if_neg c2,if_neg (by omega),if_pos (by omega)],rfl⟩
        ·
          rw[KV ha (by decide),Hg,show sr 0=0 by decide]at c4;simp at c4
          refine Zs (Zq rfl (QW.move (.tmp rfl)) (Zq rfl (QW.call SE (.cons (.tmp rfl) .nil) (by(apply TX<;>first|assumption|omega))) ?_))
          refine Zq rfl (QW.assign (.tmp rfl)) (Zn ?_)
          refine J.cond (.tmp rfl) (fun c5=>?_) (fun c5=>?_)
          ·
            simp at c5
            refine Zs (Zq rfl (QW.assign .const) (Zn (J.ret (blkQ.r (thenQ.r ?_)))))
            exact⟨_,[],_,RetEv.one rfl (REv.tmp rfl lr),rfl,List.Perm.refl _,by unfold WC;rw[c1,if_neg (by decide),if_neg c2,if_neg (by omega),if_neg (by omega),if_pos (by omega)],rfl⟩
          ·
            simp at c5
            refine J.skip (blkQ.n (thenQ.n (Zs (Zq rfl (QW.assign .const) (Zn (J.ret ?_))))))
            exact⟨_,[],_,RetEv.one rfl (REv.tmp rfl lr),rfl,List.Perm.refl _,by unfold WC;rw[c1,if_neg (by decide),if_neg c2,if_neg (by omega),if_neg (by omega),if_neg (by omega)],rfl⟩
theorem NC(op:BinOp)(g:Nat)(a b:Nat)(hgo:QE Tryz.prog g=true)(hg:FnR Tryz.prog g [.c (Yy a),.c (Yy b)] (fun z=>∃c,z=.c (Yy c)∧(UN op a b=some c∨(UN op a b=none∧Kt c)))):Fn Tryz.prog 130 [.c (.int .u64 (a:Int)),.c (.int .u64 (b:Int)),.c (.func (.func g) #[] #[])] (.c (.int .u64 (UZ op a b:Int))):=by
  refine AC.of_J Tryz.func130 rfl Tryz.ntmps130 rfl fun w0 A0=>?_
  refine Zs (Zq rfl (QW.assign .const) (Zn (Zs (Zq rfl (QW.move (.tmp rfl)) (Zq rfl (QW.move (.tmp rfl)) (Zq rfl (QW.ext (Xp _) (.tmp rfl)) (Zq rfl (QW.move (.tmp rfl)) (Zq rfl (QW.ext (Xp _) (.tmp rfl)) (Fo (fi:=[]) (ca:=[]) hgo rfl (.tmp rfl) (.cons (.tmp rfl) (.cons (.tmp rfl) .nil)) rfl (hg) ?_)))))))))
  rintro _ ⟨x12,rfl,h12⟩
  refine Zq rfl (QW.call Dn (.cons (.tmp rfl) .nil) (by(apply Bh<;>first|assumption|omega))) ?_
  refine Zq rfl (QW.assign (.tmp rfl)) (Zn (J.ret ?_))
  exact⟨_,[],_,RetEv.one rfl (REv.tmp rfl lr),rfl,List.Perm.refl _,by rw[Tt h12],rfl⟩
theorem Qah(a b:Nat):FnR Tryz.prog 131 [.c (Yy a),.c (Yy b)] (fun z=>∃c,z=.c (Yy c)∧(UN .add a b=some c∨(UN .add a b=none∧Kt c))):=by
  refine AC.of_J Tryz.func131 rfl Tryz.ntmps131 rfl fun w0 A0=>?_
  refine Zs (Zq rfl (QW.assign .const) (Zn (Zs (Zq rfl (QW.move (.tmp rfl)) (Zq rfl (QW.move (.tmp rfl)) (K3 (by decide) (.tmp rfl) (.tmp rfl) rfl fun x7 h7=>?_))))))
  refine Zq rfl (QW.assign (.tmp rfl)) (Zn (J.ret ?_))
  exact⟨_,[],_,RetEv.one rfl (REv.tmp rfl lr),rfl,List.Perm.refl _,rfl,_,rfl,⟨_,rfl,by assumption⟩⟩
theorem add_ok(a b:Nat):Fn Tryz.prog 119 [.c (.int .u64 (a:Int)),.c (.int .u64 (b:Int))] (.c (.int .u64 (UZ .add a b:Int))):=by
  refine AC.of_J Tryz.func119 rfl Tryz.ntmps119 rfl fun w0 A0=>?_
  refine Zs (Zq rfl (QW.assign .const) (Zn (Zs (Zq rfl (QW.move (.tmp rfl)) (Zq rfl (QW.move (.tmp rfl)) (Zq rfl (QW.call Lb (.cons (.tmp rfl) (.cons (.tmp rfl) (.cons .func .nil))) (NC .add _ _ _ SQ (Qah _ _))) (Zq rfl (QW.assign (.tmp rfl)) (Zn (J.ret ?_)))))))))
  exact⟨_,[],_,RetEv.one rfl (REv.tmp rfl lr),rfl,List.Perm.refl _,rfl,rfl⟩
theorem S5(a b:Nat):FnR Tryz.prog 132 [.c (Yy a),.c (Yy b)] (fun z=>∃c,z=.c (Yy c)∧(UN .sub a b=some c∨(UN .sub a b=none∧Kt c))):=by
  refine AC.of_J Tryz.func132 rfl Tryz.ntmps132 rfl fun w0 A0=>?_
  refine Zs (Zq rfl (QW.assign .const) (Zn (Zs (Zq rfl (QW.move (.tmp rfl)) (Zq rfl (QW.move (.tmp rfl)) (K3 (by decide) (.tmp rfl) (.tmp rfl) rfl fun x7 h7=>?_))))))
  refine Zq rfl (QW.assign (.tmp rfl)) (Zn (J.ret ?_))
  exact⟨_,[],_,RetEv.one rfl (REv.tmp rfl lr),rfl,List.Perm.refl _,rfl,_,rfl,⟨_,rfl,by assumption⟩⟩
theorem sub_ok(a b:Nat):Fn Tryz.prog 120 [.c (.int .u64 (a:Int)),.c (.int .u64 (b:Int))] (.c (.int .u64 (UZ .sub a b:Int))):=by
  refine AC.of_J Tryz.func120 rfl Tryz.ntmps120 rfl fun w0 A0=>?_
  refine Zs (Zq rfl (QW.assign .const) (Zn (Zs (Zq rfl (QW.move (.tmp rfl)) (Zq rfl (QW.move (.tmp rfl)) (Zq rfl (QW.call Lb (.cons (.tmp rfl) (.cons (.tmp rfl) (.cons .func .nil))) (NC .sub _ _ _ SP (S5 _ _))) (Zq rfl (QW.assign (.tmp rfl)) (Zn (J.ret ?_)))))))))
  exact⟨_,[],_,RetEv.one rfl (REv.tmp rfl lr),rfl,List.Perm.refl _,rfl,rfl⟩
theorem Qad(a b:Nat):FnR Tryz.prog 133 [.c (Yy a),.c (Yy b)] (fun z=>∃c,z=.c (Yy c)∧(UN .mul a b=some c∨(UN .mul a b=none∧Kt c))):=by
  refine AC.of_J Tryz.func133 rfl Tryz.ntmps133 rfl fun w0 A0=>?_
  refine Zs (Zq rfl (QW.assign .const) (Zn (Zs (Zq rfl (QW.move (.tmp rfl)) (Zq rfl (QW.move (.tmp rfl)) (K3 (by decide) (.tmp rfl) (.tmp rfl) rfl fun x7 h7=>?_))))))
  refine Zq rfl (QW.assign (.tmp rfl)) (Zn (J.ret ?_))
  exact⟨_,[],_,RetEv.one rfl (REv.tmp rfl lr),rfl,List.Perm.refl _,rfl,_,rfl,⟨_,rfl,by assumption⟩⟩
theorem mul_ok(a b:Nat):Fn Tryz.prog 121 [.c (.int .u64 (a:Int)),.c (.int .u64 (b:Int))] (.c (.int .u64 (UZ .mul a b:Int))):=by
  refine AC.of_J Tryz.func121 rfl Tryz.ntmps121 rfl fun w0 A0=>?_
  refine Zs (Zq rfl (QW.assign .const) (Zn (Zs (Zq rfl (QW.move (.tmp rfl)) (Zq rfl (QW.move (.tmp rfl)) (Zq rfl (QW.call Lb (.cons (.tmp rfl) (.cons (.tmp rfl) (.cons .func .nil))) (NC .mul _ _ _ SO (Qad _ _))) (Zq rfl (QW.assign (.tmp rfl)) (Zn (J.ret ?_)))))))))
  exact⟨_,[],_,RetEv.one rfl (REv.tmp rfl lr),rfl,List.Perm.refl _,rfl,rfl⟩
theorem S6(a b:Nat):FnR Tryz.prog 134 [.c (Yy a),.c (Yy b)] (fun z=>∃c,z=.c (Yy c)∧(UN .quo a b=some c∨(UN .quo a b=none∧Kt c))):=by
  refine AC.of_J Tryz.func134 rfl Tryz.ntmps134 rfl fun w0 A0=>?_
  refine Zs (Zq rfl (QW.assign .const) (Zn (Zs (Zq rfl (QW.move (.tmp rfl)) (Zq rfl (QW.move (.tmp rfl)) (K3 (by decide) (.tmp rfl) (.tmp rfl) rfl fun x7 h7=>?_))))))
  refine Zq rfl (QW.assign (.tmp rfl)) (Zn (J.ret ?_))
  exact⟨_,[],_,RetEv.one rfl (REv.tmp rfl lr),rfl,List.Perm.refl _,rfl,_,rfl,⟨_,rfl,by assumption⟩⟩
theorem quo_ok(a b:Nat):Fn Tryz.prog 122 [.c (.int .u64 (a:Int)),.c (.int .u64 (b:Int))] (.c (.int .u64 (UZ .quo a b:Int))):=by
  refine AC.of_J Tryz.func122 rfl Tryz.ntmps122 rfl fun w0 A0=>?_
  refine Zs (Zq rfl (QW.assign .const) (Zn (Zs (Zq rfl (QW.move (.tmp rfl)) (Zq rfl (QW.move (.tmp rfl)) (Zq rfl (QW.call Lb (.cons (.tmp rfl) (.cons (.tmp rfl) (.cons .func .nil))) (NC .quo _ _ _ SN (S6 _ _))) (Zq rfl (QW.assign (.tmp rfl)) (Zn (J.ret ?_)))))))))
  exact⟨_,[],_,RetEv.one rfl (REv.tmp rfl lr),rfl,List.Perm.refl _,rfl,rfl⟩
theorem CW:Extern.find Tryz.f135=some (Extern.MathFloor.toIntegral "math.archFloor" .down):=by kernel_rfl
theorem Pk(b:Nat)(w:World):(callFunc 135 #[Yy b]).run Tryz.prog w=((Extern.MathFloor.toIntegral "math.archFloor" .down #[Yy b]).run Tryz.prog w).andThen fun v w=>.ok (.value v) w:=
  G5 Tryz.func135 (by kernel_rfl) (by kernel_rfl) (by kernel_rfl) CW _ _
theorem CD(b:Nat):FnR Tryz.prog 123 [.c (Yy b)] (fun z=>∃c,z=.c (Yy c)∧((isNan b=false∧c=DB b)∨(isNan b=true∧isNan c=true))):=by
  refine AC.of_J Tryz.func123 rfl Tryz.ntmps123 rfl fun w0 A0=>?_
  refine Zs (Zq rfl (QW.assign .const) (Zn (J.seq ?_)))
  refine J.cond .const (fun c1=>?_) (fun c1=>absurd c1 (by decide))
  refine Zs (Zq rfl (QW.move (.tmp rfl)) (E7 Pk (.tmp rfl) rfl fun x4 h4=>Zq rfl (QW.assign (.tmp rfl)) (Zn (J.ret (thenQ.r ?_)))))
  exact⟨_,[],_,RetEv.one rfl (REv.tmp rfl lr),rfl,List.Perm.refl _,rfl,_,rfl,⟨_,rfl,h4⟩⟩
theorem Pd(b:Nat):Fn Tryz.prog 112 [.c (.int .u64 (b:Int))] (.c (.int .u64 (X8 b:Int))):=by
  refine AC.of_J Tryz.func112 rfl Tryz.ntmps112 rfl fun w0 A0=>?_
  refine Zs (Zq rfl (QW.assign .const) (Zn (Zs (Zq rfl (QW.move (.tmp rfl)) (Zq rfl (QW.ext (Xp _) (.tmp rfl)) (PS SS rfl (.cons (.tmp rfl) .nil) (CD _) ?_))))))
  rintro _ ⟨x5,rfl,h5⟩
  refine Zq rfl (QW.call Dn (.cons (.tmp rfl) .nil) (by(apply Bh<;>first|assumption|omega))) ?_
  refine Zq rfl (QW.assign (.tmp rfl)) (Zn (J.ret ?_))
  exact⟨_,[],_,RetEv.one rfl (REv.tmp rfl lr),rfl,List.Perm.refl _,by
      rcases h5 with ⟨h1,rfl⟩|⟨h1,h2⟩
      · simp[X8,h1,UB,DB,XP (Kj h1 .down)]
      · simp[X8,h1,UB,h2],rfl⟩
def nearN(n:Int):Nat:=FloatKind.f64.nearest n
def Ss(n:Int):Nat:=if n< -9007199254740992∨9007199254740992<n then 0 else nearN n
def ofE(n:Int):Int:=if n< -9007199254740992∨9007199254740992<n then 4 else 0
theorem Ek{n:Int}(h: -9223372036854775808≤n∧n≤9223372036854775807):
    ((decide (9007199254740992<if IntKind.i64.wrap (0-n)>n then IntKind.i64.wrap (0-n)else n))||((n==IntKind.i64.wrap (0-n))&&(n !=0)))=decide (n< -9007199254740992∨9007199254740992<n):=by
  by_cases hm:n= -9223372036854775808
  · subst hm;decide
  · rw[WW (by omega)]
    by_cases h0:n=0-n
    · have:n=0:=by omega
      subst this;decide
    · have h1:(n==0-n)=false:=by simpa using h0
      rw[h1,Bool.false_and,Bool.or_false,decide_eq_decide]
      split<;>omega
theorem Bi(n:Int)(h: -9223372036854775808≤n∧n≤9223372036854775807):Fn Tryz.prog 127 [.c (.int .i64 n)] (.tup [.c (.int .u64 (Ss n:Int)),.c (.int .i64 (ofE n))]):=by
  refine AC.of_J Tryz.func127 rfl Tryz.ntmps127 rfl fun w0 A0=>?_
  refine Zs (Zq rfl (QW.assign .const) (Zq rfl (QW.assign .const) (Zn (J.seq (Zs (Zq rfl (QW.move (.tmp rfl)) (Zq rfl (QW.move (.tmp rfl)) (Zq rfl (QW.neg (.tmp rfl) rfl) (Zq rfl (QW.max2 (.tmp rfl) (.tmp rfl)) ?_)))))))))
  refine Zq rfl (QW.gtr (.tmp rfl) .const) (Zq rfl (QW.move (.tmp rfl)) (Zg rfl (fun hg=>(QW.move (.tmp rfl))) (Zg rfl (fun hg=>(QW.move (.tmp rfl))) (Zg rfl (fun hg=>QW.neg (.when rfl hg) rfl) (Zg rfl (fun hg=>(QW.eql (.when rfl hg) (.when rfl hg))) (Zg rfl (fun hg=>(QW.move (.when rfl hg))) (JL.gg rfl rfl rfl rfl rfl (fun hg=>(QW.move (.tmp rfl))) (JL.gg rfl rfl rfl rfl rfl (fun hg=>(QW.neq (.when rfl hg) .const)) (Zg rfl (fun hg=>(Yo hg (.when rfl hg) (.tmp rfl))) ?_)))))))))
  refine Zq rfl (QW.pick_or (.tmp rfl) (.tmp rfl)) (Zn ?_)
  refine J.cond (.tmp rfl) (fun c1=>?_) (fun c1=>?_)
  ·
    rw[Ek h]at c1;simp at c1
    refine Zs (Zq rfl (QW.assign .const) (Zq rfl (QW.assign .const) (Zn (J.ret (thenQ.r ?_)))))
    exact⟨_,[],_,QB rfl (REv.tmp rfl lr) (REv.tmp rfl lr),rfl,List.Perm.refl _,by simp[Ss,ofE,c1],rfl⟩
  ·
    rw[Ek h]at c1;simp at c1
    refine Zk (Zs (Zq rfl (QW.move (.tmp rfl)) (Zq rfl (D2 us3 fl150 (.tmp rfl)) (Zq rfl (QW.ext (Lk _) (.tmp rfl)) (Zq rfl (QW.assign (.tmp rfl)) (Zq rfl (QW.assign .const) (Zn (J.ret ?_))))))))
    exact⟨_,[],_,QB rfl (REv.tmp rfl lr) (REv.tmp rfl lr),rfl,List.Perm.refl _,by rw[Ss,ofE,if_neg (by omega),if_neg (by omega)];rfl,rfl⟩

end
section
/- Walks: the whole number that a number is. -/
set_option maxRecDepth 10000
set_option maxHeartbeats 4000000
theorem CV:Extern.find Tryz.f153=some (Extern.MathFloor.toIntegral "math.archTrunc" .zero):=by kernel_rfl
theorem Pj(b:Nat)(w:World):(callFunc 153 #[Yy b]).run Tryz.prog w=((Extern.MathFloor.toIntegral "math.archTrunc" .zero #[Yy b]).run Tryz.prog w).andThen fun v w=>.ok (.value v) w:=
  G5 Tryz.func153 (by kernel_rfl) (by kernel_rfl) (by kernel_rfl) CV _ _
theorem G4{b:Nat}(h:¬4≤WC b):isNan b=false:=by
  rw[Tn]at h
  rw[Wu];exact decide_eq_false (by omega)
theorem Tw{b:Nat}(hn:isNan b=false):(ford (b%2^63) 4845873199050653696==some .gt)=decide (Kw<Q4 b):=by
  rw[KV (by rw[KT];exact hn) (by decide),Hg,show sr 4845873199050653696=4845873199050653696 by decide,decide_eq_decide]
  unfold Kw;omega
theorem CC(b:Nat)(hn:isNan b=false):Fn Tryz.prog 145 [.c (Yy b)] (.c (Yy (Hf b))):=by
  refine AC.of_J Tryz.func145 rfl Tryz.ntmps145 rfl fun w0 A0=>?_
  refine Zs (Zq rfl (QW.assign .const) (Zn (J.seq ?_)))
  refine J.cond .const (fun c1=>?_) (fun c1=>absurd c1 (by decide))
  refine Zs (Zq rfl (QW.move (.tmp rfl)) (E7 Pj (.tmp rfl) rfl fun x4 h4=>?_))
  obtain rfl:x4=Hf b:=by rcases h4 with ⟨_,h⟩|⟨h,_⟩;exact h;rw[hn]at h;cases h
  refine Zq rfl (QW.assign (.tmp rfl)) (Zn (J.ret (thenQ.r ?_)))
  exact⟨_,[],_,RetEv.one rfl (REv.tmp rfl lr),rfl,List.Perm.refl _,rfl,rfl⟩
theorem BB(b:Nat)(hb:b<2^64):Fn Tryz.prog 125 [.c (.int .u64 (b:Int))] (.tup [.c (.int .i64 (Xv b)),.c (.int .i64 (XG b))]):=by
  refine AC.of_J Tryz.func125 rfl Tryz.ntmps125 rfl fun w0 A0=>?_
  refine Zs (Zq rfl (QW.assign .const) (Zq rfl (QW.assign .const) (Zn (Zs (Zq rfl (QW.move (.tmp rfl)) (Zq rfl (QW.ext (Xp _) (.tmp rfl)) (Zq rfl (QW.assign (.tmp rfl)) (Zn (J.seq ?_)))))))))
  refine J.block (Zs (Zq rfl (QW.move (.tmp rfl)) (Zq rfl (QW.call SH (.cons (.tmp rfl) .nil) (by(apply PA<;>first|assumption|omega))) ?_)))
  refine Zq rfl (QW.geq (.tmp rfl) .const) (Zq rfl (QW.move (.tmp rfl)) (Zg rfl (fun hg=>(QW.move (.tmp rfl))) (Zg rfl (fun hg=>(QW.move (.tmp rfl))) (Zg rfl (fun hg=>QW.call SG (.cons (.when rfl hg) .nil) (CC b (G4 (by simp at hg;omega)))) ?_))))
  refine Zg rfl (fun hg=>(Hb (.when rfl hg) (.when rfl hg))) (Zq rfl (QW.pick_or (.tmp rfl) (.tmp rfl)) (Zq rfl (QW.assign (.tmp rfl)) (Zn ?_)))
  refine J.cond (.tmp rfl) (fun c1=>?_) (fun c1=>?_)
  ·
    have hT:UA≤Q4 b∨¬W8 b:=by
      by_cases hf:Q4 b<UA
      · rw[HJ hb hf]at c1
        have:=Nm.2 hf
        simp at c1
        rcases c1 with h|h
        · omega
        · exact .inr h
      · exact .inl (by omega)
    refine Zs (Zq rfl (QW.assign .const) (Zq rfl (QW.assign .const) (Zn (J.ret (blkQ.r (thenQ.r ?_))))))
    exact⟨_,[],_,QB rfl (REv.tmp rfl lr) (REv.tmp rfl lr),rfl,List.Perm.refl _,by rw[(int_t hT).1,(int_t hT).2],rfl⟩
  ·
    have hc:¬4≤WC b:=by intro h;rw[decide_eq_true (by omega),Bool.true_or]at c1;cases c1
    have hf:Q4 b<UA:=by rw[Tn]at hc;omega
    have hn:=G4 hc
    have hw:W8 b:=by
      rw[HJ hb hf]at c1
      simp at c1
      exact c1.2
    refine Zs (Zq rfl (QW.move (.tmp rfl)) (Zq rfl (QW.call NZ (.cons (.tmp rfl) .nil) (by(apply DT<;>first|assumption|omega))) ?_))
    refine Zq rfl (Mr (.tmp rfl) .const) (Zq rfl (QW.assign (.tmp rfl)) (Zn ?_))
    refine J.cond (.tmp rfl) (fun c2=>?_) (fun c2=>?_)
    ·
      rw[Tw hn]at c2;simp at c2
      refine Zs (Zq rfl (QW.assign .const) (Zq rfl (QW.assign .const) (Zn (J.ret (blkQ.r (thenQ.r ?_))))))
      exact⟨_,[],_,QB rfl (REv.tmp rfl lr) (REv.tmp rfl lr),rfl,List.Perm.refl _,by rw[(int_r hf hw c2).1,(int_r hf hw c2).2],rfl⟩
    ·
      rw[Tw hn]at c2;simp at c2
      have hK:=P3 (s:=Kn b) (HM c2)
      refine J.skip (blkQ.n (thenQ.n (Zs (Zq rfl (QW.move (.tmp rfl)) (Zq rfl (D3 us150 iu3 (.tmp rfl) (Cg hf) hK) (Zq rfl (QW.assign (.tmp rfl)) (Zq rfl (QW.assign .const) (Zn (J.ret ?_)))))))))
      exact⟨_,[],_,QB rfl (REv.tmp rfl lr) (REv.tmp rfl lr),rfl,List.Perm.refl _,by rw[(int_o hf hw c2).1,(int_o hf hw c2).2],rfl⟩

end
section
/- What expressions come to, as plain data. -/
def V.tr(b:Bool):V:=.mk 1 (if b then 1 else 0) [] [] []
def V.nu(b:Nat):V:=.mk 2 b [] [] []
def V.tx(t:Ui):V:=.mk 3 0 t [] []
def V.li(l:List V):V:=.mk 4 0 [] [] l
structure ScT where
  st:V
  ev:V
  it:V
def GO(n:Nat):Ui:=if n<10 then [UInt8.ofNat (48+n)]else GO (n / 10)++[UInt8.ofNat (48+n%10)]
termination_by n
decreasing_by omega
def Dj(n:Int):Ui:=if n<0 then 45::GO n.natAbs else GO n.natAbs
def DR(o:Int)(a b:Nat):Nat:=if o=11 then UZ .add a b else if o=12 then UZ .sub a b else if o=13 then UZ .mul a b else UZ .quo a b
def Gb(v:V):Except Int V:=if v.err=0 then .ok v else .error 84
def K5(v:V)(s:StT):Except Int V:=if(v.getv [s]).2=0 then .ok (v.getv [s]).1 else .error (v.getv [s]).2
def NI(v:V)(s:StT)(x:V):Except Int V:=if(v.setv [s] x).2=0 then .ok (v.setv [s] x).1 else .error 84
def Bg(o:Int)(t:Ui)(a:V):Except Int V:=
  if o=8 then K5 a ⟨true,t,0⟩
  else if o=10 then(if a.kind<3 then .error 81 else .ok (.nu (Ss ((a.text.length:Int)+(a.items.length:Int)))))
  else if o=15 then(if a.kind=2 then .ok (.nu (X8 a.bits))else .error 81)
  else if o=20 then(if a.kind=1 then .ok (.tr (a.bits==0))else .error 81)
  else if a.kind≠2 then .error 81 else if XG a.bits≠0 then .error 7 else .ok (.tx (Dj (Xv a.bits)))
def FA(o:Int)(t:Ui)(a b:V):Except Int V:=
  if o=9 then(if a.kind≠4∨b.kind≠2 then .error 81 else if XG b.bits≠0 then .error 82 else K5 a ⟨false,[],Xv b.bits⟩)
  else if o=16 then .ok (.tr (a.ord b==0))
  else if o=17 then(if b.kind=a.kind then .ok (.tr (decide (a.ord b<0)))else .error 81)
  else if o=22 then(if a.kind≠3∨b.kind≠3 then .error 81 else if 128<a.text.length+b.text.length then .error 84 else .ok (.tx (a.text++b.text)))
  else if o=24 then(if a.kind≠4 then .error 81 else NI a ⟨false,[],a.items.length⟩ b)
  else if o=25 then(if a.kind≠5 then .error 81 else NI a ⟨true,t,0⟩ b)
  else if a.kind≠2∨b.kind≠2 then .error 81 else .ok (.nu (DR o a.bits b.bits))
def UR(o:Int)(t:Ui)(l:List V):Except Int V:=
  if o=23 then Gb (.li l)else
  match l with
  |[a]=>Bg o t a
  |[a,b]=>FA o t a b
  |_=>.error 0
abbrev ER(α:Type):=Except Int (α×Int)
def UW(r:ER V):ER Bool:=match r with
  |.error e=>.error e
  |.ok (v,f)=>if v.kind=1 then .ok (v.bits==1,f)else .error 81
def Hn(g:V→Int→ER V):List V→Int→ER (List V)
  |[],f=>.ok ([],f)
  |x::r,f=>match g x f with
    |.error e=>.error e
    |.ok (y,f1)=>match Hn g r f1 with
      |.error e=>.error e
      |.ok (l,f2)=>.ok (y::l,f2)
def Hv(g:V→Int→ER Bool):List V→Int→ER (List V)
  |[],f=>.ok ([],f)
  |x::r,f=>match g x f with
    |.error e=>.error e
    |.ok (b,f1)=>match Hv g r f1 with
      |.error e=>.error e
      |.ok (l,f2)=>.ok (if b then x::l else l,f2)
def Re(g:V→Int→ER Bool):List V→Int→ER V
  |[],f=>.error 71
  |x::r,f=>match g x f with
    |.error e=>.error e
    |.ok (b,f1)=>if b then .ok (x,f1)else Re g r f1
def Xm(r:ER (List V)):ER V:=match r with
  |.error e=>.error e
  |.ok (l,f)=>match Gb (.li l)with
    |.error e=>.error e
    |.ok v=>.ok (v,f)
def XC(o:Int)(g:V→Int→ER V)(r:ER V):ER V:=match r with
  |.error e=>.error e
  |.ok (v,f)=>if v.kind≠4 then .error 81
    else if o=27 then Xm (Hn g v.items f)
    else if o=28 then Xm (Hv (fun x f=>UW (g x f)) v.items f)
    else Re (fun x f=>UW (g x f)) v.items f
mutual
/-- An expression's value, and the fuel that is left; or the error. -/
def EX.ev:EX→ScT→Int→ER V
  |.mk o b t l,s,f=>
    if f<1 then .error 83
    else if o=0 then .ok (.nil,f-1)
    else if o=1 then .ok (.tr false,f-1)
    else if o=2 then .ok (.tr true,f-1)
    else if o=3 then .ok (.nu b,f-1)
    else if o=4 then .ok (.tx t,f-1)
    else if o=5 then .ok (s.st,f-1)
    else if o=6 then .ok (s.ev,f-1)
    else if o=7 then .ok (s.it,f-1)
    else if o=18 then U3 false l s (f-1)
    else if o=19 then U3 true l s (f-1)
    else if o=21 then Wr l s (f-1)
    else if o=27∨o=28∨o=29 then Yq o l s (f-1)
    else match Q8 l s (f-1)with
      |.error e=>.error e
      |.ok (vs,f1)=>match UR o t vs with
        |.error e=>.error e
        |.ok v=>.ok (v,f1)
def Q8:List EX→ScT→Int→ER (List V)
  |[],s,f=>.ok ([],f)
  |x::r,s,f=>match x.ev s f with
    |.error e=>.error e
    |.ok (v,f1)=>match Q8 r s f1 with
      |.error e=>.error e
      |.ok (vs,f2)=>.ok (v::vs,f2)
def U3(k:Bool):List EX→ScT→Int→ER V
  |x::y::_,s,f=>match UW (x.ev s f)with
    |.error e=>.error e
    |.ok (b1,f1)=>if b1=k then .ok (.tr k,f1)else match UW (y.ev s f1)with
      |.error e=>.error e
      |.ok (b2,f2)=>.ok (.tr b2,f2)
  |_,_,_=>.error 0
def Wr:List EX→ScT→Int→ER V
  |x::y::z::_,s,f=>match UW (x.ev s f)with
    |.error e=>.error e
    |.ok (b1,f1)=>if b1 then y.ev s f1 else z.ev s f1
  |_,_,_=>.error 0
def Yq(o:Int):List EX→ScT→Int→ER V
  |x::y::_,s,f=>XC o (fun it f=>y.ev {s with it} f) (x.ev s f)
  |_,_,_=>.error 0
end
def MB(e:EX)(s:ScT)(f:Int):V×Int×Int:=match e.ev s f with
  |.error c=>(.nil,0,c)
  |.ok (v,f1)=>(v,f1,0)

end
section
/- Walks: whole numbers compared; lists of them. -/
set_option maxRecDepth 10000
set_option maxHeartbeats 4000000
def eI64:We:=⟨1,8⟩
def WB(l:List Int):List (List AV):=l.map fun n=>[.c (.int .i64 n)]
theorem YA(l:List Int):(WB l).length=l.length:=by simp[WB]
theorem HU{l:List Int}{i:Nat}(h:i<l.length):(WB l)[i]? =some [.c (.int .i64 l[i])]:=by simp[WB,h]
theorem fdiv2{lo hi:Nat}:((lo:Int)+(hi:Int)).fdiv (2^(min (1:Int).toNat IntKind.u64.bits))=(((lo+hi) / 2:Nat):Int):=by
  rw[show(2:Int)^(min (1:Int).toNat IntKind.u64.bits)=2 from rfl,Int.fdiv_eq_ediv_of_nonneg _ (by decide)]
  omega
theorem MY(n:Int):Fn Tryz.prog 150 [.c (.int .i64 n)] (.c (.bool false)):=by
  refine AC.of_J Tryz.func150 rfl Tryz.ntmps150 rfl fun w0 A0=>?_
  exact Zs (Zq rfl (QW.assign .const) (Zn (Zs (Zq rfl (QW.move (.tmp rfl)) (Zq rfl (QW.move (.tmp rfl)) (Zq rfl (QW.neq (.tmp rfl) (.tmp rfl)) (Zq rfl (QW.assign (.tmp rfl)) (Zn (J.ret (Zr [] (RetEv.one rfl (REv.tmp rfl lr)) rfl ⟨WH (by simp),rfl⟩))))))))))
theorem C8(a b:Int):Fn Tryz.prog 137 [.c (.int .i64 a),.c (.int .i64 b)] (.c (.int .i64 (if a<b then -1 else if b<a then 1 else 0))):=by
  refine AC.of_J Tryz.func137 rfl Tryz.ntmps137 rfl fun w0 A0=>?_
  refine Zs (Zq rfl (QW.assign .const) (Zn (Zs (Zq rfl (QW.move (.tmp rfl)) (Zq rfl (QW.call EB (.cons (.tmp rfl) .nil) (MY _)) (Zq rfl (QW.assign (.tmp rfl)) (Zn (Zs (Zq rfl (QW.move (.tmp rfl)) ?_)))))))))
  refine Zq rfl (QW.call EB (.cons (.tmp rfl) .nil) (MY _)) (Zq rfl (QW.assign (.tmp rfl)) (Zn (J.seq (Zs (Zq rfl (QW.move (.tmp rfl)) (Zn ?_))))))
  refine J.cond (.tmp rfl) (fun c1=>absurd c1 (by simp)) (fun c1=>?_)
  refine Zk (J.seq (Zs (Zq rfl (QW.move (.tmp rfl)) (Zn ?_))))
  refine J.cond (.tmp rfl) (fun c2=>absurd c2 (by simp)) (fun c2=>?_)
  refine Zk (J.seq (Zs (Zq rfl (QW.move (.tmp rfl)) (Zq rfl (QW.move (.tmp rfl)) (Zq rfl (QW.lss (.tmp rfl) (.tmp rfl)) (Zn ?_))))))
  refine J.cond (.tmp rfl) (fun c3=>?_) (fun c3=>?_)
  · skip
    simp at c3
    exact Zs (Zq rfl (QW.assign .const) (Zn (J.ret (thenQ.r (Zr [] (RetEv.one rfl (REv.tmp rfl lr)) rfl ⟨by rw[if_pos c3],rfl⟩)))))
  simp at c3
  refine Zk (J.seq (Zs (Zq rfl (QW.move (.tmp rfl)) (Zq rfl (QW.move (.tmp rfl)) (Zq rfl (QW.gtr (.tmp rfl) (.tmp rfl)) (Zn ?_))))))
  refine J.cond (.tmp rfl) (fun c4=>?_) (fun c4=>?_)
  · skip
    simp at c4
    exact Zs (Zq rfl (QW.assign .const) (Zn (J.ret (thenQ.r (Zr [] (RetEv.one rfl (REv.tmp rfl lr)) rfl ⟨by rw[if_neg (by omega),if_pos (by omega)],rfl⟩)))))
  simp at c4
  exact Zk (Zs (Zq rfl (QW.assign .const) (Zn (J.ret (Zr [] (RetEv.one rfl (REv.tmp rfl lr)) rfl ⟨by rw[if_neg (by omega),if_neg (by omega)],rfl⟩)))))

end
section
/- Walks: steps into values: what is found, what is got. -/
set_option maxRecDepth 10000
set_option maxHeartbeats 4000000
theorem MX(s:Ui):Fn Tryz.prog 61 [.c (Um s)] (.c (.bool false)):=by
  refine AC.of_J Tryz.func61 rfl Tryz.ntmps61 rfl fun w0 A0=>?_
  exact Zs (Zq rfl (QW.assign .const) (Zn (Zs (Zq rfl (QW.move (.tmp rfl)) (Zq rfl (QW.move (.tmp rfl)) (Zq rfl (YK (.tmp rfl) (.tmp rfl)) (Zq rfl (QW.assign (.tmp rfl)) (Zn (J.ret (Zr [] (RetEv.one rfl (REv.tmp rfl lr)) rfl ⟨WH (by simp),rfl⟩))))))))))
theorem Kc(s:Ui):Fn Tryz.prog 72 [.c (Um s)] (.c (.bool false)):=by
  refine AC.of_J Tryz.func72 rfl Tryz.ntmps72 rfl fun w0 A0=>?_
  exact Zs (Zq rfl (QW.assign .const) (Zn (Zs (Zq rfl (QW.move (.tmp rfl)) (Zq rfl (QW.move (.tmp rfl)) (Zq rfl (YK (.tmp rfl) (.tmp rfl)) (Zq rfl (QW.assign (.tmp rfl)) (Zn (J.ret (Zr [] (RetEv.one rfl (REv.tmp rfl lr)) rfl ⟨WH (by simp),rfl⟩))))))))))
theorem Df(a b:Ui):Fn Tryz.prog 60 [.c (Um a),.c (Um b)] (.c (.bool (Op.bytesLess a b))):=by
  refine AC.of_J Tryz.func60 rfl Tryz.ntmps60 rfl fun w0 A0=>?_
  refine Zs (Zq rfl (QW.assign .const) (Zn (Zs (Zq rfl (QW.move (.tmp rfl)) (Zq rfl (QW.call NW (.cons (.tmp rfl) .nil) (Kc _)) (Zq rfl (QW.move (.tmp rfl)) (Zg rfl (fun hg=>(QW.move (.tmp rfl))) (Zg rfl (fun hg=>(QW.call NW (.cons (.when rfl hg) .nil) (Kc _))) (Zg rfl (fun hg=>(QW.not (.when rfl hg))) ?_)))))))))
  exact Zq rfl (QW.pick_and (.tmp rfl) (.tmp rfl)) (Zq rfl (QW.move (.tmp rfl)) (Zg rfl (fun hg=>(QW.move (.tmp rfl))) (Zg rfl (fun hg=>(QW.move (.tmp rfl))) (Zg rfl (fun hg=>(TE (.when rfl hg) (.when rfl hg))) (Zq rfl (QW.pick_or (.tmp rfl) (.tmp rfl)) (Zq rfl (QW.assign (.tmp rfl)) (Zn (J.ret (Zr [] (RetEv.one rfl (REv.tmp rfl lr)) rfl ⟨WH (by simp),rfl⟩)))))))))
theorem BY{l:List Ui}{k:Nat}{s:Ui}:(decide (l[k]? =some s))=(decide ((k:Int)<(l.length:Int))&&((l.getD k [])==s||false&&false)):=by
  by_cases hk:k<l.length
  · rw[Bool.eq_iff_iff];simp[hk,List.getD]
  · rw[Bool.eq_iff_iff];simp[hk]
theorem bs_ok{fr c:Bool}{l:List Ui}{s:Ui}{k:Nat}(hl:l.length≤1000)(hk:k≤l.length)(h1:∀i (h:i<l.length),i<k→Op.bytesLess l[i] s=true)(h2:∀i (h:i<l.length),k≤i→Op.bytesLess l[i] s=false):Fn Tryz.prog 45 [.sl fr c WZ (Q6 l),.c (Um s)] (.tup [.c (.int .i64 (k:Int)),.c (.bool (decide (l[k]? =some s)))]):=by
  refine AC.of_J Tryz.func45 rfl Tryz.ntmps45 rfl fun w0 A0=>?_
  refine Zs (Zq rfl (QW.assign .const) (Zq rfl (QW.assign .const) (Zn (Zs (Zq rfl (QW.move (.tmp rfl)) (Zq rfl (Qh UC (.tmp rfl) (Qo _)) (Zq rfl (QW.assign (.tmp rfl)) (Zn (Zs ?_)))))))))
  refine Zq rfl (QW.move (.tmp rfl)) (Zq rfl (QW.assign .const) (Zq rfl (QW.assign (.tmp rfl)) (Zn (J.seq (J.block (Q0 (ι:=Nat×Nat) [0,1,4,5,6] (fun⟨lo,hi⟩=>[(7,.c (.int .i64 (lo:Int))),(8,.c (.int .i64 (hi:Int)))]) (fun _ oo=>oo) (fun⟨lo,hi⟩=>lo≤k∧k≤hi∧hi≤l.length) (fun⟨lo,hi⟩=>hi-lo) ⟨0,l.length⟩ (⟨Nat.zero_le _,hk,Nat.le_refl _⟩) (QK (.cons rfl lr (.cons rfl lr (.cons rfl lr (.cons rfl lr (.cons rfl lr (.cons rfl lr (.cons rfl lr .nil))))))) (Reown.refl _) (fun _ h=>by first|exact h|simp[h])) ?_))))))
  intro⟨lo,hi⟩ ⟨ha,hb,hc⟩
  refine J.conv (by(try simp only[nl,Qk,Qz,QA,Qy,QR,AV.cellsOf,Qd,Qe,Nat.reduceAdd]);rfl) ?_
  refine J.seq (Zs (Zq rfl (QW.move (.tmp rfl)) (Zq rfl (QW.move (.tmp rfl)) (Zq rfl (QW.lss (.tmp rfl) (.tmp rfl)) (Zn ?_)))))
  refine J.cond (.tmp rfl) (fun c1=>?_) (fun c1=>?_)
  · skip
    have hlt:lo<hi:=by simpa using c1
    refine Zk (J.block (Zs (Zq rfl (QW.move (.tmp rfl)) (Zq rfl (QW.move (.tmp rfl)) (Zq rfl (QW.add (.tmp rfl) (.tmp rfl) (U5 rfl (by omega))) (Zq rfl (WP us3 iu125 (.tmp rfl) (wu64 (by omega))) (Zq rfl (QW.shr (.tmp rfl) .const (by decide) fdiv2) ?_)))))))
    refine Zq rfl (WP us125 iu3 (.tmp rfl) (U5 rfl (by omega))) (Zq rfl (QW.assign (.tmp rfl)) (Zn (Zs (Zq rfl (QW.move (.tmp rfl)) (Zq rfl (QW.move (.tmp rfl)) (Zq rfl (Qi UC U9 rfl (.tmp rfl) (.tmp rfl) rfl (by exact YH (ks:=l) (i:=(lo+hi) / 2) (by omega))) ?_))))))
    refine Zq rfl (Qq U9 (.tmp rfl) rfl) (Zq rfl (QW.move (.tmp rfl)) (Zq rfl (QW.call gofn60 (.cons (.tmp rfl) (.cons (.tmp rfl) .nil)) (Df _ _)) (Zn ?_)))
    refine J.cond (.tmp rfl) (fun c2=>?_) (fun c2=>?_)
    · skip
      have hm:Op.bytesLess (l[(lo+hi) / 2]'(by omega)) s=true:=c2
      refine Qg (Zq rfl (QW.move (.tmp rfl)) (Zq rfl (QW.add (.tmp rfl) .const (WW (by omega))) (Zq rfl (QW.assign (.tmp rfl)) (JL.nil (blkQ.n (thenQ.n ?_))))))
      exact⟨⟨(lo+hi) / 2+1,hi⟩,⟨Nat.lt_of_not_le fun h=>absurd (h2 _ (by omega) h) (by rw[hm];decide),hb,hc⟩,by show hi-((lo+hi) / 2+1)<hi-lo;omega,QK (.cons rfl lr (.cons rfl lr (.cons rfl lr (.cons rfl lr (.cons rfl lr (.cons rfl lr (.cons rfl lr .nil))))))) (Reown.refl _) (fun _ h=>by first|exact h|simp[h])⟩
    have hm:Op.bytesLess (l[(lo+hi) / 2]'(by omega)) s=false:=c2
    refine Qg (Zq rfl (QW.move (.tmp rfl)) (Zq rfl (QW.assign (.tmp rfl)) (JL.nil (blkQ.n (thenQ.n ?_)))))
    exact⟨⟨lo,(lo+hi) / 2⟩,⟨ha,Nat.le_of_not_lt fun h=>absurd (h1 _ (by omega) h) (by rw[hm];decide),by omega⟩,by show(lo+hi) / 2-lo<hi-lo;omega,QK (.cons rfl lr (.cons rfl lr (.cons rfl lr (.cons rfl lr (.cons rfl lr (.cons rfl lr (.cons rfl lr .nil))))))) (Reown.refl _) (fun _ h=>by first|exact h|simp[h])⟩
  have hge:hi≤lo:=by simpa using c1
  refine J.exit (Qv (Qv (QM (thenQ.n (Zs (Zq rfl (QW.move (.tmp rfl)) (Zq rfl (QW.move (.tmp rfl)) (Zq rfl (QW.move (.tmp rfl)) (Zq rfl (QW.lss (.tmp rfl) (.tmp rfl)) ?_)))))))))
  refine Zq rfl (QW.move (.tmp rfl)) (Zg rfl (fun hg=>(QW.move (.tmp rfl))) (Zg rfl (fun hg=>(QW.move (.tmp rfl))) (Zg rfl (fun hg=>(Qi UC U9 rfl (.when rfl hg) (.when rfl hg) rfl (by exact WK (by simp at hg;omega)))) ?_)))
  refine Zg rfl (fun hg=>(Qq U9 (.when rfl hg) rfl)) (Zg rfl (fun hg=>(QW.move (.tmp rfl))) (Zg rfl (fun hg=>(KI (.when rfl hg) (.when rfl hg))) (Zg rfl (fun hg=>(QW.move (.when rfl hg))) (JL.gg rfl rfl rfl rfl rfl (fun hg=>(QW.move (.tmp rfl))) (JL.gg rfl rfl rfl rfl rfl (fun hg=>(QW.move (.tmp rfl))) (JL.gg rfl rfl rfl rfl rfl (fun hg=>(Qi UC U9 rfl (.when rfl hg) (.when rfl hg) rfl (by exact WK (by simp at hg;omega)))) ?_))))))
  refine JL.gg rfl rfl rfl rfl rfl (fun hg=>(Qq U9 (.when rfl hg) rfl)) (JL.gg rfl rfl rfl rfl rfl (fun hg=>(QW.call BM (.cons (.when rfl hg) .nil) (MX _))) (JL.gg rfl rfl rfl rfl rfl (fun hg=>(QW.move (.when rfl hg))) (JL.gg rfl rfl rfl rfl rfl (fun hg=>(QW.move (.tmp rfl))) (JL.gg rfl rfl rfl rfl rfl (fun hg=>(QW.call BM (.cons (.when rfl hg) .nil) (MX _))) (JL.gg rfl rfl rfl rfl rfl (fun hg=>(Yo hg (.when rfl hg) (.tmp rfl))) (Zg rfl (fun hg=>(H1 hg (.when rfl hg) (.tmp rfl))) (Zq rfl (QW.pick_and (.tmp rfl) (.tmp rfl)) (Zq rfl (QW.assign (.tmp rfl)) (Zq rfl (QW.assign (.tmp rfl)) ?_)))))))))
  refine Zn (J.ret ?_)
  obtain rfl:lo=k:=by omega
  exact Zr [] (QB rfl (REv.tmp rfl lr) (REv.tmp rfl lr)) rfl ⟨by rw[BY],rfl⟩
def EP(v:V)(s:StT):AV:=.tup [.c (.int .i64 ((v.fnd s).1:Int)),.c (.int .i64 (v.fnd s).2)]
theorem XH{v:V}{s:StT}{i:Nat}{e:Int}(h:v.fnd s=(i,e)):EP v s=.tup [.c (.int .i64 (i:Int)),.c (.int .i64 e)]:=by rw[EP,h]
theorem EQ{fr:Bool}{v:V}{s:StT}{ys zs:List AV}(hv:Vc fr v ys)(hs:Sc s zs)(hp:Ub v=true)(hsw:s.wf):Fn Tryz.prog 29 [.agg ys,.agg zs] (EP v s):=by
  obtain⟨k,b,t,ks,is⟩:=v
  subst hv
  obtain⟨sk,key,ix⟩:=s
  subst hs
  obtain⟨l1,l2⟩:=Xa hp
  have hsi:=hsw.i
  simp only[V.items,V.keys]at l1 l2 hsi
  refine AC.of_J Tryz.func29 rfl Tryz.ntmps29 rfl fun w0 A0=>?_
  refine Zs (Qp (.tmp rfl) rfl fun b2=>Qp (.tmp rfl) rfl fun b3=>Zq rfl (QW.assign .const) (Zq rfl (QW.assign .const) (Zn (J.seq (J.block (J.seq (Zs ?_)))))))
  refine Zq rfl (Qa N5 (.tmp rfl) rfl) (Zq rfl (Qb 0 PZ (.tmp rfl) rfl rfl) (Zq rfl (QW.move (.tmp rfl)) (Zg rfl (fun hg=>(Qa UJ (.tmp rfl) rfl)) (Zg rfl (fun hg=>(Qb 1 UQ (.when rfl hg) rfl rfl)) (Zg rfl (fun hg=>(QW.neq (.when rfl hg) .const)) (Zq rfl (QW.pick_and (.tmp rfl) (.tmp rfl)) (Zq rfl (QW.assign (.tmp rfl)) (Zn ?_))))))))
  refine J.cond (.tmp rfl) (fun c1=>?_) (fun c1=>?_)
  · skip
    skip
    refine Zk ?_
    refine J.cond (.tmp rfl) (fun c2=>?_) (fun c2=>absurd c2 (by rw[c1];decide))
    exact Zs (Zq rfl (QW.assign .const) (Zq rfl (QW.assign .const) (Zn (J.ret (blkQ.r (thenQ.r (Zr [.k,.k] (QB rfl (REv.tmp rfl lr) (REv.tmp rfl lr)) rfl ⟨congrArg W1.ret (XH (i:=0) (e:=81) (by simp at c1;obtain⟨rfl,h5⟩:=c1;simp[V.fnd,V.kind,h5])).symm,rfl⟩)))))))
  skip
  refine Qg (Zq rfl (Qa N5 (.tmp rfl) rfl) (Zq rfl (Qb 0 PZ (.tmp rfl) rfl rfl) (Zq rfl (QW.not (.tmp rfl)) (Zq rfl (QW.move (.tmp rfl)) (Zg rfl (fun hg=>(Qa UJ (.tmp rfl) rfl)) (Zg rfl (fun hg=>(Qb 1 UQ (.when rfl hg) rfl rfl)) (Zg rfl (fun hg=>(QW.neq (.when rfl hg) .const)) (Zq rfl (QW.pick_and (.tmp rfl) (.tmp rfl)) (Zq rfl (QW.assign (.tmp rfl)) ?_)))))))))
  refine Zn ?_
  refine J.cond (.tmp rfl) (fun c2=>?_) (fun c2=>?_)
  · skip
    skip
    exact Zs (Zq rfl (QW.assign .const) (Zq rfl (QW.assign .const) (Zn (J.ret (blkQ.r (thenQ.r (Zr [.k,.k] (QB rfl (REv.tmp rfl lr) (REv.tmp rfl lr)) rfl ⟨congrArg W1.ret (XH (i:=0) (e:=81) (by simp at c1 c2;obtain⟨rfl,h5⟩:=c2;simp[V.fnd,V.kind,h5])).symm,rfl⟩)))))))
  skip
  refine Zs (Zq rfl (Qa N5 (.tmp rfl) rfl) (Zq rfl (Qb 0 PZ (.tmp rfl) rfl rfl) (Zq rfl (QW.assign (.tmp rfl)) (Zn ?_))))
  refine J.cond (.tmp rfl) (fun c3=>?_) (fun c3=>?_)
  · skip
    simp at c1 c2
    subst c3
    simp at c1
    subst c1
    have hsrt:Rk ks:=ME (XZ hp rfl).2
    refine Zs (Zq rfl (Qa U6 (.tmp rfl) rfl) (Zq rfl (Qb 1 YO (.tmp rfl) rfl rfl) (Zq rfl (Qa Dx (.tmp rfl) rfl) (Zq rfl (Qb 0 U9 (.tmp rfl) rfl rfl) (Zq rfl (QW.call gofn45 (.cons (.tmp rfl) (.cons (.tmp rfl) .nil)) (bs_ok (k:=M3 ks key) (by omega) (Dd _ _) (fun i h hi=>Bq h hi) (fun i h hi=>low_ge hsrt h hi))) (Zq rfl (QW.move (.tmp rfl)) (Zq rfl (QW.extract (.tmp rfl) rfl) (Zq rfl (QW.extract (.tmp rfl) rfl) (Zq rfl (QW.assign (.tmp rfl)) ?_)))))))))
    refine Zq rfl (QW.assign (.tmp rfl)) (Zn (J.seq (Zs (Zq rfl (QW.move (.tmp rfl)) (Zq rfl (QW.not (.tmp rfl)) (Zn ?_))))))
    refine J.cond (.tmp rfl) (fun c4=>?_) (fun c4=>?_)
    · skip
      skip
      exact Zs (Zq rfl (QW.move (.tmp rfl)) (Zq rfl (QW.assign (.tmp rfl)) (Zq rfl (QW.assign .const) (Zn (J.ret (thenQ.r (blkQ.r (thenQ.r (Zr [.k,.k] (QB rfl (REv.tmp rfl lr) (REv.tmp rfl lr)) rfl ⟨congrArg W1.ret (XH (i:=M3 ks key) (e:=71) (by simp at c4;simp[V.fnd,V.kind,V.keys,c4])).symm,rfl⟩)))))))))
    skip
    exact Zk (Zs (Zq rfl (QW.move (.tmp rfl)) (Zq rfl (QW.assign (.tmp rfl)) (Zq rfl (QW.assign .const) (Zn (J.ret (blkQ.r (thenQ.r (Zr [.k,.k] (QB rfl (REv.tmp rfl lr) (REv.tmp rfl lr)) rfl ⟨congrArg W1.ret (XH (i:=M3 ks key) (e:=0) (by simp at c4;simp[V.fnd,V.kind,V.keys,c4])).symm,rfl⟩)))))))))
  simp at c1 c2
  subst c3
  simp at c2
  subst c2
  refine Zs (Zq rfl (Qa L3 (.tmp rfl) rfl) (Zq rfl (Qb 0 UQ (.tmp rfl) rfl rfl) (Zq rfl (QW.lss (.tmp rfl) .const) (Zq rfl (QW.move (.tmp rfl)) (Zg rfl (fun hg=>(Qa L3 (.tmp rfl) rfl)) (Zg rfl (fun hg=>(Qb 0 UQ (.when rfl hg) rfl rfl)) (Zg rfl (fun hg=>(Qa Ud (.tmp rfl) rfl)) (Zg rfl (fun hg=>(Qb 1 U4 (.when rfl hg) rfl rfl)) (Zg rfl (fun hg=>(Qh QO (.when rfl hg) wl)) ?_)))))))))
  refine Zg rfl (fun hg=>(QW.geq (.when rfl hg) (.when rfl hg))) (Zq rfl (QW.pick_or (.tmp rfl) (.tmp rfl)) (Zq rfl (QW.assign (.tmp rfl)) (Zn ?_)))
  refine J.cond (.tmp rfl) (fun c4=>?_) (fun c4=>?_)
  · skip
    skip
    exact Zs (Zq rfl (QW.assign .const) (Zq rfl (QW.assign .const) (Zn (J.ret (blkQ.r (thenQ.r (Zr [.k,.k] (QB rfl (REv.tmp rfl lr) (REv.tmp rfl lr)) rfl ⟨congrArg W1.ret (XH (i:=0) (e:=82) (by unfold V.fnd;rw[if_neg (by simp),if_pos (show(V.mk 4 b t ks is).kind=4 from rfl),if_pos (by simpa[V.items]using c4)])).symm,rfl⟩)))))))
  skip
  refine J.skip (blkQ.n (thenQ.n (Zs (Zq rfl (Qa L3 (.tmp rfl) rfl) (Zq rfl (Qb 0 UQ (.tmp rfl) rfl rfl) (Zq rfl (QW.assign (.tmp rfl)) (Zq rfl (QW.assign .const) (Zn (J.ret ?_)))))))))
  simp at c4
  obtain⟨m,rfl⟩:=Int.eq_ofNat_of_zero_le (a:=ix) (by omega)
  exact Zr [.k,.k] (QB rfl (REv.tmp rfl lr) (REv.tmp rfl lr)) rfl ⟨congrArg W1.ret (XH (i:=m) (e:=0) (by simp[V.fnd,V.kind,V.items];omega)).symm,rfl⟩
def BW(v:V)(p:List StT):AV:=.tup [.agg ((v.getv p).1.cs true),.c (.int .i64 (v.getv p).2)]
theorem LW{v u:V}{p:List StT}{e:Int}(h:v.getv p=(u,e)):BW v p=.tup [.agg (u.cs true),.c (.int .i64 e)]:=by rw[BW,h]
theorem QaG(fr:Bool)(u:V):(u.cs fr)[0+4]? =some (.sl fr false eV (V.css fr u.items)):=by cases u;rfl
theorem Ll{α:Type}{l:List α}{j:Nat}(h:j<l.length):l.drop j=l[j]::l.drop (j+1):=List.drop_eq_getElem_cons h
theorem get_ok{fr fr2 c2:Bool}{v:V}{p:List StT}{ys:List AV}(hv:Vc fr v ys)(hw:v.wf)(hp:p.length*32≤Qu∧∀s∈p,s.wf):Fn Tryz.prog 18 [.agg ys,.sl fr2 c2 eSt (StT.css p)] (BW v p):=by
  obtain⟨hp80,hpw⟩:=hp
  have hpl:p.length≤4398046511104:=by unfold Qu at hp80;omega
  subst hv
  refine AC.of_J Tryz.func18 rfl Tryz.ntmps18 rfl fun w0 A0=>?_
  refine Zs (Qp (.tmp rfl) rfl fun b2=>JL.alloc WQ rfl rfl fun b4=>Zq rfl (QW.assign .const) (Zn (J.seq (Zs (Zq rfl (Qf 1 Qj (.tmp rfl) rfl (Qm vl rfl) vl) (Zq rfl (QW.call Xw (.cons (.tmp rfl) .nil) (W5 Vc.self hw)) (Zq rfl (QW.assign (.tmp rfl)) ?_)))))))
  refine Zn (Zs (Zq rfl (QW.move (.tmp rfl)) (Zq rfl (QW.neq (.tmp rfl) .const) (Zn ?_))))
  refine J.cond (.tmp rfl) (fun c1=>?_) (fun c1=>?_)
  · skip
    simp at c1
    exact Zs (Zq rfl (QW.build (idx:=[]) Xt WQ rfl .nil rfl rfl rfl rfl) (Zq rfl (QW.move (.tmp rfl)) (Qc 0 Qj (.tmp rfl) rfl (.tmp rfl) rfl rfl rfl rfl (Zq rfl (QW.assign (.tmp rfl)) (Zn (J.ret (thenQ.r (Zr [.k,.k] (QB rfl (REv.cell 0 Qj rfl rfl rfl rfl (.aggL (.cons lr (.cons lr (.cons lr (.cons (.nil true false _) (.cons (.nil true false _) .nil))))))) (REv.tmp rfl lr)) rfl ⟨congrArg W1.ret (LW (u:=.nil) (e:=v.err) (by rw[V.getv,if_pos c1])).symm,rfl⟩))))))))
  simp at c1
  have hfv:=V.fine_of c1
  refine Zk (J.seq (Zs (Zq rfl (QW.move (.tmp rfl)) (Zq rfl (Qh NG (.tmp rfl) (StT.css_length _)) (Zq rfl (QW.move .const) (Zn (J.block (Q0 (ι:=Nat×V) [2,4,17,18] (fun⟨j,u⟩=>[(19,.c (.int .i64 (j:Int)))]) (fun⟨j,u⟩ oo=>List.set oo 1 (.box b2 (u.cs fr))) (fun⟨j,u⟩=>j≤p.length∧u.Fine∧u.wf∧v.walk p=u.walk (p.drop j)) (fun⟨j,u⟩=>p.length-j) ⟨0,v⟩ (⟨Nat.zero_le _,hfv,hw,rfl⟩) (QK (.cons rfl lr (.cons rfl lr (.cons rfl lr (.cons rfl lr (.cons rfl lr .nil))))) (Reown.refl _) (fun _ h=>by first|exact h|simp[h])) ?_))))))))
  intro⟨j,u⟩ ⟨hj,hf,huw,hwk⟩
  refine J.conv (by(try simp only[nl,Qk,Qz,QA,Qy,QR,AV.cellsOf,Qd,Qe,Nat.reduceAdd]);rfl) ?_
  refine Zs (Zq rfl (QW.lss (.tmp rfl) (.tmp rfl)) (Zn (J.seq ?_)))
  refine J.cond (.tmp rfl) (fun c2=>?_) (fun c2=>?_)
  · skip
    have hlt:j<p.length:=by simpa using c2
    refine Zk (J.seq (J.block (Zs (Zq rfl (Qi NG Mz rfl (.tmp rfl) (.tmp rfl) rfl (by exact StT.css_getE hlt)) ?_))))
    refine Zq rfl (Ql Mz (.tmp rfl) rfl rfl) (JL.alloc Fu rfl rfl fun b8=>Qc 0 Mz (.tmp rfl) rfl (.tmp rfl) rfl rfl rfl rfl (Zn (Zs (Zq rfl (Qf 2 Qj (.tmp rfl) rfl (Qm vl rfl) vl) (Zq rfl (Qf 0 Mz (.tmp rfl) rfl rfl rfl) (Zq rfl (QW.call BU (.cons (.tmp rfl) (.cons (.tmp rfl) .nil)) (EQ Vc.self Sc.self hf.part (hpw _ (List.getElem_mem hlt)))) (Zq rfl (QW.move (.tmp rfl)) (Zq rfl (QW.extract (.tmp rfl) rfl) ?_))))))))
    refine Zq rfl (QW.extract (.tmp rfl) rfl) (Zq rfl (QW.assign (.tmp rfl)) (Zq rfl (QW.assign (.tmp rfl)) (Zn (J.seq (Zs (Zq rfl (QW.move (.tmp rfl)) (Zq rfl (QW.neq (.tmp rfl) .const) (Zn ?_))))))))
    refine J.cond (.tmp rfl) (fun c3=>?_) (fun c3=>?_)
    · skip
      simp at c3
      refine Zs (Zq rfl (QW.build (idx:=[]) Xt WQ rfl .nil rfl rfl rfl rfl) (Zq rfl (QW.move (.tmp rfl)) (Qc 1 Qj (.tmp rfl) rfl (.tmp rfl) rfl rfl rfl rfl (Zq rfl (QW.assign (.tmp rfl)) (Zn (J.ret (thenQ.r (blkQ.r (thenQ.r ?_)))))))))
      exact thenQ.r (blkQ.r (thenQ.r (Zr [.k,.k,.k] (QB rfl (REv.cell 1 Qj rfl rfl rfl rfl (.aggL (.cons lr (.cons lr (.cons lr (.cons (.nil true false _) (.cons (.nil true false _) .nil))))))) (REv.tmp rfl lr)) rfl ⟨congrArg W1.ret (LW (u:=.nil) (e:=(u.fnd (p[j]'hlt)).2) (by rw[V.getv,if_neg (by simp[c1]),hwk,Ll hlt,V.walk,if_pos c3])).symm,rfl⟩)))
    simp at c3
    have hil:=G8 hf.part c3
    have hcn:(if(u.fnd (p[j]'hlt)).2=0 then((u.fnd (p[j]'hlt)).1:Int)else -1)=((u.fnd (p[j]'hlt)).1:Int):=if_pos c3
    refine Zk (Qg (Zq rfl (Qa Ud (.tmp rfl) rfl) (Zq rfl (Qb 2 U4 (.tmp rfl) rfl (QaG fr u)) (Zq rfl (QW.move (.tmp rfl)) (Zq rfl (Qi QO Qj rfl (.tmp rfl) (.tmp rfl) rfl (by exact(V.css_getE fr hil).trans (by rw[← Tx hil]))) ?_)))))
    refine Zq rfl (Ql Qj (.tmp rfl) (QH vl rfl) vl) (Qc 2 Qj (.tmp rfl) rfl (.tmp rfl) rfl vl vl rfl (JL.nil (blkQ.n (thenQ.n (Qg (Zq rfl (QW.add (.tmp rfl) .const (WW (by omega))) (Zq rfl (QW.move (.tmp rfl)) (Zn ?_))))))))
    exact⟨⟨j+1,u.kid (u.fnd (p[j]'hlt)).1⟩,⟨hlt,hf.kid (XK hil),huw.kid (XK hil),by rw[hwk,Ll hlt,V.walk,if_neg (by simpa using c3)]⟩,by show p.length-(j+1)<p.length-j;omega,QK (.cons rfl lr (.cons rfl lr (.cons rfl lr (.cons rfl lr (.cons rfl lr .nil))))) (Q9 1 _ rfl) (fun _ h=>by first|exact h|simp[h])⟩
  have hge:p.length≤j:=by simpa using c2
  refine J.exit (Qv (Qv (QM (thenQ.n (Zs (Zq rfl (Qf 1 Qj (.tmp rfl) rfl (Qm vl rfl) vl) (Zq rfl (QW.call Gu (.cons (.tmp rfl) .nil) (G3 Vc.self huw)) (Qc 0 Qj (.tmp rfl) rfl (.tmp rfl) rfl vl rfl rfl (Zq rfl (QW.assign .const) ?_)))))))))
  refine Zn (J.ret ?_)
  rw[List.drop_of_length_le hge]at hwk
  exact Zr [.k,.k] (QB rfl (REv.cell 0 Qj rfl rfl (Qm vl rfl) vl lr) (REv.tmp rfl lr)) rfl ⟨congrArg W1.ret (LW (u:=u) (e:=0) (by rw[V.getv,if_neg (by simp[c1]),hwk];rfl)).symm,rfl⟩

end
section
/- Walks: the small functions of the machine that reckons. -/
set_option maxRecDepth 10000
set_option maxHeartbeats 4000000
theorem XE(ok:Bool)(e:Int):AC Tryz.prog 95 [] [.c (.bool ok),.c (.int .i64 e)] (PanR (ok=true) (YR e) fun x o=>x=.tup []∧o=[]):=by
  refine AC.of_J Tryz.func95 rfl Tryz.ntmps95 rfl fun w0 A0=>?_
  refine Zs (Zq rfl (QW.move (.tmp rfl)) (Zq rfl (QW.not (.tmp rfl)) (Zn ?_)))
  refine J.cond (.tmp rfl) (fun c1=>?_) (fun c1=>?_)
  · skip
    have hok:ok=false:=by simpa using c1
    refine Qg (Zq rfl (QW.move (.tmp rfl)) (Zq rfl (WO ⟨_,Tryz.underlying33,by intro ms h;cases h⟩ (.tmp rfl)) ?_))
    refine JL.panic (.tmp rfl) ?_
    exact⟨_,QN [] _,_,rfl,rfl,Qn [] _,PanR.pan (by simp[hok])⟩
  have hok:ok=true:=by simpa using c1
  exact J.skip (Zr [] (Up rfl) rfl (PanR.ret hok ⟨rfl,rfl⟩))
theorem Wm(b:Bool):Fn Tryz.prog 96 [.c (.bool b)] (.agg ((V.tr b).cs false)):=by
  refine AC.of_J Tryz.func96 rfl Tryz.ntmps96 rfl fun w0 A0=>?_
  refine Zs (JL.alloc WQ rfl rfl fun b2=>Zn (Zs (Zq rfl (QW.build (idx:=[0]) Xt WQ rfl (.cons .const .nil) rfl rfl rfl rfl) (JL.alloc WQ rfl rfl fun b3=>Qc 0 Qj (.tmp rfl) rfl (.tmp rfl) rfl rfl rfl rfl (Zn (J.seq (Zs ?_)))))))
  refine Zq rfl (QW.move (.tmp rfl)) (Zn ?_)
  refine J.cond (.tmp rfl) (fun c1=>?_) (fun c1=>?_)
  · skip
    obtain rfl:b=true:=by simpa using c1
    exact Qg (Zq rfl (Qa Uu (.tmp rfl) rfl) (JL.store_box 0 Wi (.tmp rfl) rfl .const rfl rfl rfl rfl rfl (Zn (Zs (Zq rfl (Qf 0 Qj (.tmp rfl) rfl rfl rfl) (Qc 1 Qj (.tmp rfl) rfl (.tmp rfl) rfl rfl rfl rfl (Zn (J.ret (Zr [.k,.k] (RetEv.one rfl (REv.cell 1 Qj rfl rfl rfl rfl (.aggL (.cons lr (.cons lr (.cons lr (.cons (.nil false false _) (.cons (.nil false false _) .nil)))))))) rfl ⟨rfl,rfl⟩)))))))))
  obtain rfl:b=false:=by simpa using c1
  exact Zk (Zs (Zq rfl (Qf 0 Qj (.tmp rfl) rfl rfl rfl) (Qc 1 Qj (.tmp rfl) rfl (.tmp rfl) rfl rfl rfl rfl (Zn (J.ret (Zr [.k,.k] (RetEv.one rfl (REv.cell 1 Qj rfl rfl rfl rfl (.aggL (.cons lr (.cons lr (.cons lr (.cons (.nil false false _) (.cons (.nil false false _) .nil)))))))) rfl ⟨rfl,rfl⟩))))))
theorem Gk(b:Nat):Fn Tryz.prog 97 [.c (.int .u64 (b:Int))] (.agg ((V.nu b).cs false)):=by
  refine AC.of_J Tryz.func97 rfl Tryz.ntmps97 rfl fun w0 A0=>?_
  exact Zs (JL.alloc WQ rfl rfl fun b2=>Zn (Zs (Zq rfl (QW.move (.tmp rfl)) (Zq rfl (QW.build (idx:=[0,1]) Xt WQ rfl (.cons .const (.cons (.tmp rfl) .nil)) rfl rfl rfl rfl) (Qc 0 Qj (.tmp rfl) rfl (.tmp rfl) rfl rfl rfl rfl (Zn (J.ret (Zr [.k] (RetEv.one rfl (REv.cell 0 Qj rfl rfl rfl rfl (.aggL (.cons lr (.cons lr (.cons lr (.cons (.nil false false _) (.cons (.nil false false _) .nil)))))))) rfl ⟨rfl,rfl⟩))))))))
theorem NT{fr:Bool}{v:V}{ys:List AV}(hv:Vc fr v ys)(hw:v.wf):AC Tryz.prog 109 [] [.agg ys] (PanR (v.err=0) (YR 84) fun x o=>x=.agg ys∧o=[]):=by
  subst hv
  refine AC.of_J Tryz.func109 rfl Tryz.ntmps109 rfl fun w0 A0=>?_
  refine Zs (Qp (.tmp rfl) rfl fun b1=>JL.alloc WQ rfl rfl fun b2=>Zn (Zs (Zq rfl (Qf 1 Qj (.tmp rfl) rfl (Qm vl rfl) vl) (Zq rfl (QW.call Xw (.cons (.tmp rfl) .nil) (W5 (Vc.self) (by assumption))) ?_))))
  refine Zq rfl (QW.eql (.tmp rfl) .const) ?_
  refine Qs [] Yx rfl Lent.nil (fun _=>(.cons (.tmp rfl) (.cons .const .nil))) (XE _ _) (.inl rfl) (fun k6 x6 o6 h6=>?_) (fun k6=>?_)
  rotate_left
  · skip
    refine thenQ.p ?_
    exact⟨_,QN [.k,.k] _,_,rfl,rfl,Qn [.k,.k] _,PanR.pan (by simpa using k6)⟩
  obtain⟨rfl,rfl⟩:=h6
  exact Zn (Zs (Zq rfl (Qf 1 Qj (.tmp rfl) rfl (Qm vl rfl) vl) (Qc 0 Qj (.tmp rfl) rfl (.tmp rfl) rfl vl rfl rfl (Zn (J.ret (Zr [.k,.k] (RetEv.one rfl (REv.cell 0 Qj rfl rfl (Qm vl rfl) vl lr)) rfl (PanR.ret (by simpa using k6) ⟨rfl,rfl⟩)))))))
theorem DW(fr:Bool)(v:V):(List.drop 0 (v.cs fr))[0]? =some (.c (.int .i64 v.kind)):=by cases v;rfl
theorem YS(fr:Bool)(v:V):(List.drop 1 (v.cs fr))[0]? =some (.c (.int .u64 (v.bits:Int))):=by cases v;rfl
theorem Mj(fr:Bool)(v:V):(List.drop 2 (v.cs fr))[0]? =some (.c (Um v.text)):=by cases v;rfl
theorem PJ(fr:Bool)(v:V):(List.drop 4 (v.cs fr))[0]? =some (.sl fr false eV (V.css fr v.items)):=by cases v;rfl
def Ug:List V→List Int→Bool
  |_,[]=>true
  |[],_::_=>false
  |v::l,k::ks=>v.kind==k&&Ug l ks
theorem HS{l:List V}{ks:List Int}{j:Nat}(h:j<ks.length)(h2:j<l.length):Ug (l.drop j) (ks.drop j)=(l[j].kind==ks[j]&&Ug (l.drop (j+1)) (ks.drop (j+1))):=by
  rw[List.drop_eq_getElem_cons h,List.drop_eq_getElem_cons h2,Ug]
theorem Wt{fr c fr2 c2:Bool}(l:List V)(ks:List Int)(hk:ks.length≤l.length)(hl:l.length≤1000):AC Tryz.prog 110 [] [.sl fr c eV (V.css fr l),.sl fr2 c2 eI64 (WB ks)] (PanR (Ug l ks=true) (YR 81) fun x o=>x=.tup []∧o=[]):=by
  refine AC.of_J Tryz.func110 rfl Tryz.ntmps110 rfl fun w0 A0=>?_
  refine Zs (Zq rfl (QW.move (.tmp rfl)) (Zq rfl (Qh YF (.tmp rfl) (YA _)) (Zq rfl (QW.move .const) (Zn (J.block (Q0 (ι:=Nat) [0,6,7] (fun j=>[(8,.c (.int .i64 (j:Int)))]) (fun _ oo=>oo) (fun j=>j≤ks.length∧Ug l ks=Ug (l.drop j) (ks.drop j)) (fun j=>ks.length-j) 0 (⟨Nat.zero_le _,rfl⟩) (QK (.cons rfl lr (.cons rfl lr (.cons rfl lr (.cons rfl lr .nil)))) (Reown.refl _) (fun _ h=>by first|exact h|simp[h])) ?_))))))
  intro j ⟨hj,hs⟩
  refine J.conv (by(try simp only[nl,Qk,Qz,QA,Qy,QR,AV.cellsOf,Qd,Qe,Nat.reduceAdd]);rfl) ?_
  refine Zs (Zq rfl (QW.lss (.tmp rfl) (.tmp rfl)) (Zn (J.seq ?_)))
  refine J.cond (.tmp rfl) (fun c1=>?_) (fun c1=>?_)
  · skip
    have hlt:j<ks.length:=by simpa[YA]using c1
    have hlt2:j<l.length:=by omega
    refine Zk (J.seq (J.block (Zs (Zq rfl (QW.move (.tmp rfl)) (Zq rfl (Qi YF UQ rfl (.tmp rfl) (.tmp rfl) rfl (by exact HU hlt)) ?_)))))
    refine Zq rfl (Qq UQ (.tmp rfl) rfl) (Zq rfl (QW.assign (.tmp rfl)) (Zq rfl (QW.assign (.tmp rfl)) (Zn (Qg (Zq rfl (QW.move (.tmp rfl)) (Zq rfl (QW.move (.tmp rfl)) (Zq rfl (Qi QO Qj rfl (.tmp rfl) (.tmp rfl) rfl (by exact V.css_getE _ hlt2)) ?_)))))))
    refine Zq rfl (Qt UJ (.tmp rfl) rfl) (Zq rfl (Qq UQ (.tmp rfl) (DW _ _)) (Zq rfl (QW.move (.tmp rfl)) (Zq rfl (QW.eql (.tmp rfl) (.tmp rfl)) ?_)))
    refine Qs [] Yx rfl Lent.nil (fun _=>(.cons (.tmp rfl) (.cons .const .nil))) (XE _ _) (.inl rfl) (fun k20 x20 o20 h20=>?_) (fun k20=>?_)
    rotate_left
    · skip
      refine blkQ.p (thenQ.p (thenQ.p (blkQ.p ?_)))
      exact⟨_,QN [] _,_,rfl,rfl,Qn [] _,PanR.pan (by rw[hs,HS hlt hlt2];simp only[Bool.and_eq_true];exact fun h=>k20 h.1)⟩
    obtain⟨rfl,rfl⟩:=h20
    refine JL.nil (blkQ.n (thenQ.n (Qg (Zq rfl (QW.add (.tmp rfl) .const (WW (by omega))) (Zq rfl (QW.move (.tmp rfl)) (Zn ?_))))))
    rw[HS hlt hlt2,k20,Bool.true_and]at hs
    exact⟨j+1,⟨hlt,hs⟩,by omega,QK (.cons rfl lr (.cons rfl lr (.cons rfl lr (.cons rfl lr .nil)))) (Reown.refl _) (fun _ h=>by first|exact h|simp[h])⟩
  have hge:ks.length≤j:=by simpa[YA]using c1
  exact J.exit (Qv (Qv (QM (Zr [] (Up rfl) rfl (PanR.ret (by rw[hs,List.drop_of_length_le hge];cases l.drop j<;>rfl) ⟨rfl,rfl⟩)))))
theorem E0{fr:Bool}{v:V}{s:StT}{ys:List AV}(hv:Vc fr v ys)(hw:v.wf)(hs:s.wf):AC Tryz.prog 126 [] [.agg ys,.agg s.cs] (PanR ((v.getv [s]).2=0) (YR (v.getv [s]).2) fun x o=>x=.agg ((v.getv [s]).1.cs true)∧o=[]):=by
  subst hv
  obtain⟨sk,key,ix⟩:=s
  have hp:[StT.mk sk key ix].length*32≤Qu∧∀x∈[StT.mk sk key ix],x.wf:=⟨by unfold Qu;simp,fun x hx=>by rw[List.mem_singleton.1 hx];exact hs⟩
  refine AC.of_J Tryz.func126 rfl Tryz.ntmps126 rfl fun w0 A0=>?_
  refine Zs (Qp (.tmp rfl) rfl fun b2=>Qp (.tmp rfl) rfl fun b3=>JL.alloc WQ rfl rfl fun b4=>Zn (Zs (Zq rfl (Qf 2 Qj (.tmp rfl) rfl (Qm vl rfl) vl) (Zq rfl (Qf 1 Mz (.tmp rfl) rfl rfl rfl) (Zq rfl (QW.buildSlice (idx:=[0]) (xs:=StT.css [⟨sk,key,ix⟩]) NG Qan Fu rfl (.cons (.tmp rfl) .nil) rfl rfl rfl rfl rfl rfl rfl rfl rfl) (Zq rfl (QW.call gofn18 (.cons (.tmp rfl) (.cons (.tmp rfl) .nil)) (get_ok (p:=[StT.mk sk key ix]) Vc.self hw hp)) ?_))))))
  refine Zq rfl (QW.move (.tmp rfl)) (Zq rfl (QW.extract (.tmp rfl) rfl) (Zq rfl (QW.extract (.tmp rfl) rfl) (JL.alloc WQ rfl rfl fun b5=>Qc 0 Qj (.tmp rfl) rfl (.tmp rfl) rfl vl rfl rfl (Zq rfl (QW.assign (.tmp rfl)) (Zn (Zs (Zq rfl (QW.move (.tmp rfl)) (Zq rfl (QW.eql (.tmp rfl) .const) ?_))))))))
  refine Zq rfl (QW.move (.tmp rfl)) ?_
  refine Qs [] Yx rfl Lent.nil (fun _=>(.cons (.tmp rfl) (.cons (.tmp rfl) .nil))) (XE _ _) (.inl rfl) (fun k17 x17 o17 h17=>?_) (fun k17=>?_)
  rotate_left
  · skip
    refine thenQ.p ?_
    exact⟨_,QN [.k,.k,.k,.k] _,_,rfl,rfl,Qn [.k,.k,.k,.k] _,PanR.pan (by simpa using k17)⟩
  obtain⟨rfl,rfl⟩:=h17
  exact Zn (Zs (Zq rfl (Qf 0 Qj (.tmp rfl) rfl (Qm vl rfl) vl) (Qc 1 Qj (.tmp rfl) rfl (.tmp rfl) rfl vl rfl rfl (Zn (J.ret (Zr [.k,.k,.k,.k] (RetEv.one rfl (REv.cell 1 Qj rfl rfl (Qm vl rfl) vl lr)) rfl (PanR.ret (by simpa using k17) ⟨rfl,rfl⟩)))))))
theorem G6(o:Int)(a b:Nat):Fn Tryz.prog 111 [.c (.int .i64 o),.c (.int .u64 (a:Int)),.c (.int .u64 (b:Int))] (.agg ((V.nu (DR o a b)).cs false)):=by
  refine AC.of_J Tryz.func111 rfl Tryz.ntmps111 rfl fun w0 A0=>?_
  refine Zs (JL.alloc WQ rfl rfl fun b6=>Zn (J.seq (Zs (Zq rfl (QW.move (.tmp rfl)) (Zn (J.block (Zs (Zq rfl (QW.eql (.tmp rfl) .const) ?_))))))))
  refine Zq rfl (QW.assign (.tmp rfl)) (Zn ?_)
  refine J.cond (.tmp rfl) (fun c1=>?_) (fun c1=>?_)
  · try (exfalso;simp at*;omega;done)
    all_goals
      exact Zs (Zq rfl (QW.move (.tmp rfl)) (Zq rfl (QW.move (.tmp rfl)) (Zq rfl (QW.call SW (.cons (.tmp rfl) (.cons (.tmp rfl) .nil)) (add_ok _ _)) (Zq rfl (QW.call Gs (.cons (.tmp rfl) .nil) (Gk _)) (Qc 0 Qj (.tmp rfl) rfl (.tmp rfl) rfl rfl rfl rfl (Zn (J.ret (blkQ.r (thenQ.r (Zr [.k] (RetEv.one rfl (REv.cell 0 Qj rfl rfl rfl rfl lr)) rfl ⟨by rw[show DR o a b=UZ .add a b by simp at*;simp[DR, *]];rfl,rfl⟩))))))))))
  try (exfalso;simp at*;omega;done)
  all_goals
    refine Zs (Zq rfl (QW.eql (.tmp rfl) .const) (Zq rfl (QW.assign (.tmp rfl)) (Zn ?_)))
    refine J.cond (.tmp rfl) (fun c2=>?_) (fun c2=>?_)
    · try (exfalso;simp at*;omega;done)
      all_goals
        exact Zs (Zq rfl (QW.move (.tmp rfl)) (Zq rfl (QW.move (.tmp rfl)) (Zq rfl (QW.call SV (.cons (.tmp rfl) (.cons (.tmp rfl) .nil)) (sub_ok _ _)) (Zq rfl (QW.call Gs (.cons (.tmp rfl) .nil) (Gk _)) (Qc 0 Qj (.tmp rfl) rfl (.tmp rfl) rfl rfl rfl rfl (Zn (J.ret (blkQ.r (thenQ.r (Zr [.k] (RetEv.one rfl (REv.cell 0 Qj rfl rfl rfl rfl lr)) rfl ⟨by rw[show DR o a b=UZ .sub a b by simp at*;simp[DR, *]];rfl,rfl⟩))))))))))
    try (exfalso;simp at*;omega;done)
    all_goals
      refine Zs (Zq rfl (QW.eql (.tmp rfl) .const) (Zq rfl (QW.assign (.tmp rfl)) (Zn ?_)))
      refine J.cond (.tmp rfl) (fun c3=>?_) (fun c3=>?_)
      · try (exfalso;simp at*;omega;done)
        all_goals
          exact Zs (Zq rfl (QW.move (.tmp rfl)) (Zq rfl (QW.move (.tmp rfl)) (Zq rfl (QW.call SU (.cons (.tmp rfl) (.cons (.tmp rfl) .nil)) (mul_ok _ _)) (Zq rfl (QW.call Gs (.cons (.tmp rfl) .nil) (Gk _)) (Qc 0 Qj (.tmp rfl) rfl (.tmp rfl) rfl rfl rfl rfl (Zn (J.ret (blkQ.r (thenQ.r (Zr [.k] (RetEv.one rfl (REv.cell 0 Qj rfl rfl rfl rfl lr)) rfl ⟨by rw[show DR o a b=UZ .mul a b by simp at*;simp[DR, *]];rfl,rfl⟩))))))))))
      try (exfalso;simp at*;omega;done)
      all_goals
        refine J.skip (blkQ.n (thenQ.n (Zs (Zq rfl (QW.move (.tmp rfl)) (Zq rfl (QW.move (.tmp rfl)) (Zq rfl (QW.call ST (.cons (.tmp rfl) (.cons (.tmp rfl) .nil)) (quo_ok _ _)) (Zq rfl (QW.call Gs (.cons (.tmp rfl) .nil) (Gk _)) (Qc 0 Qj (.tmp rfl) rfl (.tmp rfl) rfl rfl rfl rfl (Zn ?_)))))))))
        exact J.ret (Zr [.k] (RetEv.one rfl (REv.cell 0 Qj rfl rfl rfl rfl lr)) rfl ⟨by rw[show DR o a b=UZ .quo a b by simp at*;simp[DR, *]];rfl,rfl⟩)

end
section
/- What is set is got; what parts from its path stays. -/
theorem Me{v w x:V}{p:List StT}(h:v.setv p x=(w,0)):v.err=0∧x.err=0∧v.set p x=(w,0)∧w.err=0:=by
  unfold V.setv at h
  split at h
  · rename_i h1;exact absurd (congrArg (·.2) h) h1
  · rename_i h1
    split at h
    · rename_i h2;exact absurd (congrArg (·.2) h) h2
    · rename_i h2
      split at h
      · rename_i h3;exact absurd (congrArg (·.2) h) h3
      · rename_i h3
        split at h
        · rename_i h4;exact absurd (congrArg (·.2) h) h4
        · rename_i h4
          have hw:(v.set p x).1=w:=congrArg (·.1) h
          exact⟨by simpa using h1,by simpa using h2,Prod.ext hw (by simpa using h3),by rw[← hw];simpa using h4⟩

end
section
/- What expressions come to may be; the fuel that they take. -/
/-! ### values that may be -/
mutual
theorem Ml:∀(v:V) (lev n:Int),(v.chk lev n).1=0→(v.chk lev n).2=n+v.sz
  |.mk k b t ks is,lev,n,h=>by
    unfold V.chk at h⊢
    split at h
    · simp at h
    · split at h
      · simp at h
      · split at h
        · simp at h
        · rename_i h1 h2 h3
          rw[if_neg h1,if_neg h2,if_neg h3,Nq is lev (n+1) h]
          simp only[V.sz];omega
theorem Nq:∀(l:List V) (lev n:Int),(V.chks l lev n).1=0→(V.chks l lev n).2=n+V.szs l
  |[],lev,n,h=>by simp[V.chks,V.szs]
  |x::r,lev,n,h=>by
    unfold V.chks at h⊢
    split at h
    · rename_i h';exact absurd h h'
    · rename_i h'
      rw[if_neg h',Nq r lev _ h,Ml x (lev+1) n (by simpa using h')]
      simp only[V.szs];omega
end
mutual
theorem Mm:∀(v:V) (lev lev' n n':Int),(v.chk lev n).1=0→lev'≤lev→n'≤n→(v.chk lev' n').1=0
  |.mk k b t ks is,lev,lev',n,n',h,h1,h2=>by
    unfold V.chk at h⊢
    split at h
    · simp at h
    · split at h
      · simp at h
      · split at h
        · simp at h
        · rename_i a1 a2 a3
          rw[if_neg (by omega),if_neg (by omega),if_neg a3]
          exact HZ is lev lev' (n+1) (n'+1) h h1 (by omega)
theorem HZ:∀(l:List V) (lev lev' n n':Int),(V.chks l lev n).1=0→lev'≤lev→n'≤n→(V.chks l lev' n').1=0
  |[],lev,lev',n,n',h,h1,h2=>rfl
  |x::r,lev,lev',n,n',h,h1,h2=>by
    unfold V.chks at h⊢
    split at h
    · rename_i h';exact absurd h h'
    · rename_i h'
      have hx:=Mm x (lev+1) (lev'+1) n n' (by simpa using h') (by omega) h2
      have e1:=Ml x (lev+1) n (by simpa using h')
      have e2:=Ml x (lev'+1) n' hx
      rw[if_neg (by simp[hx])]
      exact HZ r lev lev' _ _ h h1 (by omega)
end
theorem Mk:∀{l:List V} {lev n:Int},0≤lev→0≤n→(V.chks l lev n).1=0→∀x∈l,x.err=0
  |[],lev,n,_,_,h,x,hx=>by cases hx
  |y::r,lev,n,hl,hn,h,x,hx=>by
    unfold V.chks at h
    split at h
    · rename_i h';exact absurd h h'
    · rename_i h'
      have h'':(y.chk (lev+1) n).1=0:=by simpa using h'
      rcases List.mem_cons.1 hx with rfl|hx
      · exact Mm _ _ _ _ _ h'' (by omega) hn
      · have:=(V.chk_bounds y (lev+1) n).1
        exact Mk hl (by omega) h x hx
theorem Ff{v x:V}(h:v.err=0)(hx:x∈v.items):x.err=0:=by
  obtain⟨k,b,t,ks,is⟩:=v
  unfold V.err V.chk at h
  rw[if_neg (by decide),if_neg (by decide)]at h
  split at h
  · simp at h
  · exact Mk (by decide) (by decide) h x hx
structure V.good(v:V):Prop where
  wf:v.wf
  err:v.err=0
theorem V.good.kid{v x:V}(h:v.good)(hx:x∈v.items):x.good:=⟨h.wf.kid hx,Ff h.err hx⟩
theorem V.good.fine{v:V}(h:v.good):v.Fine:=V.fine_of h.err
theorem Mh{k:Int}{b:Nat}{t:Ui}(h:Ub (.mk k b t [] [])=true):(V.mk k b t [] []).err=0:=by
  unfold V.err V.chk
  rw[if_neg (by decide),if_neg (by decide),if_neg (by simp[h])];rfl
theorem Xh:V.nil.good:=⟨Wv,by decide⟩
theorem Yz(b:Bool):(V.tr b).good:=by cases b<;>exact⟨.mk (by decide) (by decide) (by decide) (by decide) (by decide) (fun _ h=>by cases h) (fun _ h=>by cases h),by decide⟩
theorem K1{b:Nat}(hb:b<2^64)(h:UB b=b):(V.nu b).good:=
  ⟨.mk (by decide) hb (by decide) (by decide) (by decide) (fun _ h=>by cases h) (fun _ h=>by cases h),Mh (by simp[Ub,h])⟩
theorem HC{t:Ui}(h:t.length≤128):(V.tx t).good:=
  ⟨.mk (by decide) (by decide) (by unfold Qu;omega) (by decide) (by decide) (fun _ h=>by cases h) (fun _ h=>by cases h),Mh (by simp[Ub,h])⟩
theorem Hz{c:Nat}(h:isNan c=false):UB c=c:=by simp[UB,h]
theorem DQ(op:BinOp)(a b:Nat):UZ op a b<2^64∧UB (UZ op a b)=UZ op a b:=by
  unfold UZ
  cases h:UN op a b with
  |none=>exact⟨by decide,by decide⟩
  |some c=>have:=HX h;exact⟨this.2,Hz this.1⟩
theorem Tu(o:Int)(a b:Nat):DR o a b<2^64∧UB (DR o a b)=DR o a b:=by
  unfold DR;repeat' split
  all_goals exact DQ _ _ _
theorem L4(b:Nat):X8 b<2^64∧UB (X8 b)=X8 b:=by
  unfold X8
  cases h:isNan b with
  |true=>rw[if_pos rfl];exact⟨by decide,by decide⟩
  |false=>exact⟨Ge _,Hz (XP (Kj h .down))⟩
theorem RR(n:Int):Ss n<2^64∧UB (Ss n)=Ss n:=by
  unfold Ss
  split
  · exact⟨by decide,by decide⟩
  · rename_i h
    obtain⟨r,h1,_,h2,_⟩:=CA (n:=n) (by omega)
    exact⟨T9,Hz (by unfold nearN;rw[h2];exact Gq (by omega))⟩
theorem RT:∀(k n:Nat),n<10^(k+1)→(GO n).length≤k+1
  |0,n,h=>by unfold GO;rw[if_pos (by simpa using h)];simp
  |k+1,n,h=>by
    unfold GO
    split
    · simp
    · rw[List.length_append,List.length_singleton]
      have:=RT k (n / 10) (by rw[Nat.pow_succ]at h;omega)
      omega
theorem Kz(b:Nat)(h:XG b=0): -9007199254740992≤Xv b∧Xv b≤9007199254740992:=by
  unfold Xv
  split
  · omega
  · rename_i h1
    have:=HM (b:=b) (by omega)
    unfold svF;have h4:(2:Nat)^53=9007199254740992:=by decide
    rw[h4]at this;generalize UK (Q4 b) / UG=q at*;split<;>omega
theorem HY:∀{p:List StT} {v:V},v.good→(v.walk p).2=0→(v.walk p).1.good
  |[],v,h,_=>h
  |s::r,v,h,he=>by
    unfold V.walk at he⊢
    split at he
    · rename_i h1;exact absurd he h1
    · rename_i h1
      rw[if_neg h1]
      have hlt:=G8 h.fine.part (by simpa using h1)
      exact HY (h.kid (XK hlt)) he
theorem M9{v u:V}{s:StT}(h:v.good)(hg:K5 v s=.ok u):u.good:=by
  unfold K5 at hg
  split at hg
  · rename_i he
    cases hg
    unfold V.getv at he⊢
    rw[if_neg (by simp[h.err])]at he⊢
    exact HY h he
  · cases hg
theorem KP{v u x:V}{s:StT}(h:v.good)(hs:s.wf)(hx:x.good)(hg:NI v s x=.ok u):u.good:=by
  unfold NI at hg
  split at hg
  · rename_i he
    cases hg
    refine⟨Fd h.wf (fun t ht=>by obtain rfl:=List.mem_singleton.1 ht;exact hs) hx.wf,?_⟩
    obtain⟨w,hw⟩:∃w,v.setv [s] x=(w,0):=⟨_,Prod.ext rfl he⟩
    rw[hw]
    exact(Me hw).2.2.2
  · cases hg
theorem Ho{l:List V}{u:V}(hl:∀x∈l,x.wf)(h:Gb (.li l)=.ok u):u=.li l∧u.good:=by
  unfold Gb at h
  split at h
  · rename_i he
    cases h
    refine⟨rfl,.mk (by decide) (by decide) (by decide) (by decide) ?_ (fun _ h=>by cases h) hl,he⟩
    have hp:=(V.fine_of he).part
    have:l.length≤32:=(Xa hp).1
    unfold Qu;omega
  · cases h
theorem V.good.bits{v:V}(h:v.good):v.bits<2^64:=by obtain⟨k,b,t,ks,is⟩:=v;exact h.wf.inv.2.1
theorem V.good.len{v:V}(h:v.good):v.items.length≤32:=(Xa h.fine.part).1
theorem Bf{o:Int}{t:Ui}{a u:V}(ha:a.good)(h:Bg o t a=.ok u):u.good:=by
  unfold Bg at h
  split at h
  · exact M9 ha h
  · split at h
    · split at h
      · cases h
      · cases h;exact K1 (RR _).1 (RR _).2
    · split at h
      · split at h
        · cases h;exact K1 (L4 _).1 (L4 _).2
        · cases h
      · split at h
        · split at h
          · cases h;exact Yz _
          · cases h
        · split at h
          · cases h
          · split at h
            · cases h
            · rename_i he
              cases h
              have hb:=Kz a.bits (by simpa using he)
              have:=RT 15 (Xv a.bits).natAbs (by omega)
              refine HC ?_
              unfold Dj;split<;>(try simp only[List.length_cons])<;>omega
theorem Fz{o:Int}{t:Ui}{a b u:V}(ht:t.length≤Qu)(ha:a.good)(hb:b.good)(h:FA o t a b=.ok u):u.good:=by
  unfold FA at h
  repeat' split at h
  all_goals first|(cases h;done)|skip
  · exact M9 ha h
  · cases h;exact Yz _
  · cases h;exact Yz _
  · rename_i h1 h2;cases h;exact HC (by simp;omega)
  · exact KP ha ⟨show([]:Ui).length≤Qu by unfold Qu;simp,by have:=ha.len;show(-9223372036854775808:Int)≤(a.items.length:Int)∧(a.items.length:Int)≤9223372036854775807;omega⟩ hb h
  · exact KP ha ⟨ht,show(-9223372036854775808:Int)≤0∧(0:Int)≤9223372036854775807 by decide⟩ hb h
  · cases h;exact K1 (Tu _ _ _).1 (Tu _ _ _).2
theorem T4{o:Int}{t:Ui}{l:List V}{u:V}(ht:t.length≤Qu)(hl:∀x∈l,x.good)(h:UR o t l=.ok u):u.good:=by
  unfold UR at h
  split at h
  · exact(Ho (fun x hx=>(hl x hx).wf) h).2
  · split at h
    · exact Bf (hl _ (by simp)) h
    · exact Fz ht (hl _ (by simp)) (hl _ (by simp)) h
    · cases h
def Ft(f:Int)(d:Int)(r:ER V):Prop:=∀v f',r=.ok (v,f')→v.good∧f'≤f-d∧0≤f'
structure ScT.good(s:ScT):Prop where
  st:s.st.good
  ev:s.ev.good
  it:s.it.good
theorem M0{g:V→Int→ER V}(hg:∀x f,x.good→0≤f→Ft f 0 (g x f)):∀(l:List V) (f:Int),(∀x∈l,x.good)→0≤f→∀ys f',Hn g l f=.ok (ys,f')→(∀y∈ys,y.good)∧f'≤f∧0≤f'
  |[],f,hl,h0,ys,f',h=>by cases h;exact⟨fun y hy=>(by cases hy),Int.le_refl _,h0⟩
  |x::r,f,hl,h0,ys,f',h=>by
    unfold Hn at h
    split at h
    · cases h
    · rename_i y f1 h1
      split at h
      · cases h
      · rename_i l f2 h2
        cases h
        obtain⟨a1,a2,a3⟩:=hg x f (hl x (by simp)) h0 _ _ h1
        obtain⟨b1,b2,b3⟩:=M0 hg r f1 (fun z hz=>hl z (by simp[hz])) a3 _ _ h2
        exact⟨fun z hz=>(List.mem_cons.1 hz).elim (fun e=>e▸a1) (b1 z),by omega,b3⟩
theorem KN{r:ER V}{b:Bool}{f':Int}(h:UW r=.ok (b,f')):∃v,r=.ok (v,f')∧v.kind=1∧b=(v.bits==1):=by
  unfold UW at h
  split at h
  · cases h
  · split at h
    · rename_i v f hk;cases h;exact⟨v,rfl,hk,rfl⟩
    · cases h
theorem Ne{g:V→Int→ER V}(hg:∀x f,x.good→0≤f→Ft f 0 (g x f)):∀(l:List V) (f:Int),(∀x∈l,x.good)→0≤f→∀ys f',Hv (fun x f=>UW (g x f)) l f=.ok (ys,f')→(∀y∈ys,y∈l)∧f'≤f∧0≤f'
  |[],f,hl,h0,ys,f',h=>by cases h;exact⟨fun y hy=>(by cases hy),Int.le_refl _,h0⟩
  |x::r,f,hl,h0,ys,f',h=>by
    unfold Hv at h
    split at h
    · cases h
    · rename_i b f1 h1
      split at h
      · cases h
      · rename_i l f2 h2
        cases h
        obtain⟨v,h3,_,_⟩:=KN h1
        obtain⟨a1,a2,a3⟩:=hg x f (hl x (by simp)) h0 _ _ h3
        obtain⟨b1,b2,b3⟩:=Ne hg r f1 (fun z hz=>hl z (by simp[hz])) a3 _ _ h2
        refine⟨fun z hz=>?_,by omega,b3⟩
        split at hz
        · exact(List.mem_cons.1 hz).elim (fun e=>by simp[e]) (fun h=>by simp[b1 z h])
        · simp[b1 z hz]
theorem Nd{g:V→Int→ER V}(hg:∀x f,x.good→0≤f→Ft f 0 (g x f)):∀(l:List V) (f:Int),(∀x∈l,x.good)→0≤f→Ft f 0 (Re (fun x f=>UW (g x f)) l f)
  |[],f,hl,h0,v,f',h=>by cases h
  |x::r,f,hl,h0,v,f',h=>by
    unfold Re at h
    split at h
    · cases h
    · rename_i b f1 h1
      obtain⟨u,h3,_,_⟩:=KN h1
      obtain⟨a1,a2,a3⟩:=hg x f (hl x (by simp)) h0 _ _ h3
      split at h
      · cases h;exact⟨hl x (by simp),by omega,a3⟩
      · obtain⟨b1,b2,b3⟩:=Nd hg r f1 (fun z hz=>hl z (by simp[hz])) a3 _ _ h
        exact⟨b1,by omega,b3⟩
theorem RU{r:ER (List V)}{v:V}{f:Int}(h:Xm r=.ok (v,f)):∃l,r=.ok (l,f)∧Gb (.li l)=.ok v:=by
  unfold Xm at h
  split at h
  · cases h
  · split at h
    · cases h
    · rename_i h1;cases h;exact⟨_,rfl,h1⟩
theorem T7{o:Int}{g:V→Int→ER V}{r:ER V}{f:Int}(hr:Ft f 0 r)(hg:∀x f,x.good→0≤f→Ft f 0 (g x f)):Ft f 0 (XC o g r):=fun v f' h=>by
  unfold XC at h
  split at h
  · cases h
  · rename_i u f1
    obtain⟨a1,a2,a3⟩:=hr u f1 rfl
    have hk:∀x∈u.items,x.good:=fun x hx=>a1.kid hx
    split at h
    · cases h
    · split at h
      · obtain⟨l,h1,h2⟩:=RU h
        obtain⟨b1,b2,b3⟩:=M0 hg _ _ hk a3 _ _ h1
        exact⟨(Ho (fun x hx=>(b1 x hx).wf) h2).2,by omega,b3⟩
      · split at h
        · obtain⟨l,h1,h2⟩:=RU h
          obtain⟨b1,b2,b3⟩:=Ne hg _ _ hk a3 _ _ h1
          exact⟨(Ho (fun x hx=>(hk x (b1 x hx)).wf) h2).2,by omega,b3⟩
        · obtain⟨b1,b2,b3⟩:=Nd hg _ _ hk a3 _ _ h
          exact⟨b1,by omega,b3⟩
mutual
theorem Wq:∀(e:EX) (s:ScT) (f:Int),e.Fine→e.wf→s.good→Ft f 1 (e.ev s f)
  |.mk o b t l,s,f,hf,hw,hs,v,f',h=>by
    have hok:=hf.part
    obtain⟨-,hb,ht,-,hwl⟩:=hw.inv
    have hbd:=Hc hok
    rw[EX.ev]at h
    by_cases h0:f<1
    · rw[if_pos h0]at h;cases h
    rw[if_neg h0]at h
    by_cases c:o=0
    · rw[if_pos c]at h
      cases h;exact⟨Xh,by omega,by omega⟩
    rw[if_neg c]at h;clear c
    by_cases c:o=1
    · rw[if_pos c]at h
      cases h;exact⟨Yz _,by omega,by omega⟩
    rw[if_neg c]at h;clear c
    by_cases c:o=2
    · rw[if_pos c]at h
      cases h;exact⟨Yz _,by omega,by omega⟩
    rw[if_neg c]at h;clear c
    by_cases c:o=3
    · rw[if_pos c]at h
      cases h
      refine⟨K1 hb ?_,by omega,by omega⟩
      subst c
      have h9:(if(3:Int)=3 then UB b==b else b==0)=true:=by simp only[EX.ok,Bool.and_eq_true]at hok;exact hok.2
      simpa using h9
    rw[if_neg c]at h;clear c
    by_cases c:o=4
    · rw[if_pos c]at h
      cases h;exact⟨HC hbd.2.2.1,by omega,by omega⟩
    rw[if_neg c]at h;clear c
    by_cases c:o=5
    · rw[if_pos c]at h
      cases h;exact⟨hs.st,by omega,by omega⟩
    rw[if_neg c]at h;clear c
    by_cases c:o=6
    · rw[if_pos c]at h
      cases h;exact⟨hs.ev,by omega,by omega⟩
    rw[if_neg c]at h;clear c
    by_cases c:o=7
    · rw[if_pos c]at h
      cases h;exact⟨hs.it,by omega,by omega⟩
    rw[if_neg c]at h;clear c
    by_cases c:o=18
    · rw[if_pos c]at h
      obtain⟨a1,a2,a3⟩:=Hd false l s (f-1) (fun x hx=>⟨hf.kid hx,hwl x hx⟩) hs v f' h;exact⟨a1,by omega,a3⟩
    rw[if_neg c]at h;clear c
    by_cases c:o=19
    · rw[if_pos c]at h
      obtain⟨a1,a2,a3⟩:=Hd true l s (f-1) (fun x hx=>⟨hf.kid hx,hwl x hx⟩) hs v f' h;exact⟨a1,by omega,a3⟩
    rw[if_neg c]at h;clear c
    by_cases c:o=21
    · rw[if_pos c]at h
      obtain⟨a1,a2,a3⟩:=Rv l s (f-1) (fun x hx=>⟨hf.kid hx,hwl x hx⟩) hs v f' h;exact⟨a1,by omega,a3⟩
    rw[if_neg c]at h;clear c
    by_cases c:o=27∨o=28∨o=29
    · rw[if_pos c]at h
      obtain⟨a1,a2,a3⟩:=Ru o l s (f-1) (fun x hx=>⟨hf.kid hx,hwl x hx⟩) hs v f' h;exact⟨a1,by omega,a3⟩
    rw[if_neg c]at h;clear c
    split at h
    · cases h
    · rename_i vs f1 h1
      split at h
      · cases h
      · rename_i u h2
        cases h
        obtain⟨a1,a2,a3⟩:=KL l s (f-1) (fun x hx=>⟨hf.kid hx,hwl x hx⟩) hs (by omega) _ _ h1
        exact⟨T4 ht a1 h2,by omega,a3⟩
theorem KL:∀(l:List EX) (s:ScT) (f:Int),(∀x∈l,x.Fine∧x.wf)→s.good→0≤f→∀vs f',Q8 l s f=.ok (vs,f')→(∀x∈vs,x.good)∧f'≤f∧0≤f'
  |[],s,f,hl,hs,h0,vs,f',h=>by unfold Q8 at h;cases h;exact⟨fun x hx=>(by cases hx),Int.le_refl _,h0⟩
  |x::r,s,f,hl,hs,h0,vs,f',h=>by
    unfold Q8 at h
    split at h
    · cases h
    · rename_i v f1 h1
      split at h
      · cases h
      · rename_i vs f2 h2
        cases h
        obtain⟨a1,a2,a3⟩:=Wq x s f (hl x (by simp)).1 (hl x (by simp)).2 hs _ _ h1
        obtain⟨b1,b2,b3⟩:=KL r s f1 (fun z hz=>hl z (by simp[hz])) hs a3 _ _ h2
        exact⟨fun z hz=>(List.mem_cons.1 hz).elim (fun e=>e▸a1) (b1 z),by omega,b3⟩
theorem Hd:∀(k:Bool) (l:List EX) (s:ScT) (f:Int),(∀x∈l,x.Fine∧x.wf)→s.good→Ft f 1 (U3 k l s f)
  |k,[],s,f,hl,hs,v,f',h=>by unfold U3 at h;cases h
  |k,[_],s,f,hl,hs,v,f',h=>by unfold U3 at h;cases h
  |k,x::y::_,s,f,hl,hs,v,f',h=>by
    unfold U3 at h
    split at h
    · cases h
    · rename_i b1 f1 h1
      obtain⟨u,h2,_,_⟩:=KN h1
      obtain⟨a1,a2,a3⟩:=Wq x s f (hl x (by simp)).1 (hl x (by simp)).2 hs _ _ h2
      split at h
      · cases h;exact⟨Yz _,by omega,a3⟩
      · split at h
        · cases h
        · rename_i b2 f2 h3
          obtain⟨u,h4,_,_⟩:=KN h3
          obtain⟨b1,b2,b3⟩:=Wq y s f1 (hl y (by simp)).1 (hl y (by simp)).2 hs _ _ h4
          cases h;exact⟨Yz _,by omega,b3⟩
theorem Rv:∀(l:List EX) (s:ScT) (f:Int),(∀x∈l,x.Fine∧x.wf)→s.good→Ft f 1 (Wr l s f)
  |[],s,f,hl,hs,v,f',h=>by unfold Wr at h;cases h
  |[_],s,f,hl,hs,v,f',h=>by unfold Wr at h;cases h
  |[_,_],s,f,hl,hs,v,f',h=>by unfold Wr at h;cases h
  |x::y::z::_,s,f,hl,hs,v,f',h=>by
    unfold Wr at h
    split at h
    · cases h
    · rename_i b1 f1 h1
      obtain⟨u,h2,_,_⟩:=KN h1
      obtain⟨a1,a2,a3⟩:=Wq x s f (hl x (by simp)).1 (hl x (by simp)).2 hs _ _ h2
      split at h
      · obtain⟨b1,b2,b3⟩:=Wq y s f1 (hl y (by simp)).1 (hl y (by simp)).2 hs _ _ h;exact⟨b1,by omega,b3⟩
      · obtain⟨b1,b2,b3⟩:=Wq z s f1 (hl z (by simp)).1 (hl z (by simp)).2 hs _ _ h;exact⟨b1,by omega,b3⟩
theorem Ru:∀(o:Int) (l:List EX) (s:ScT) (f:Int),(∀x∈l,x.Fine∧x.wf)→s.good→Ft f 0 (Yq o l s f)
  |o,[],s,f,hl,hs,v,f',h=>by unfold Yq at h;cases h
  |o,[_],s,f,hl,hs,v,f',h=>by unfold Yq at h;cases h
  |o,x::y::_,s,f,hl,hs,v,f',h=>by
    unfold Yq at h
    have h1:Ft f 0 (x.ev s f):=fun u f1 h1=>by
      obtain⟨a1,a2,a3⟩:=Wq x s f (hl x (by simp)).1 (hl x (by simp)).2 hs _ _ h1
      exact⟨a1,by omega,a3⟩
    exact T7 (g:=fun it f=>y.ev {s with it} f) h1 (fun z g hz hg u f1 h2=>by
      obtain⟨a1,a2,a3⟩:=Wq y {s with it:=z} g (hl y (by simp)).1 (hl y (by simp)).2 ⟨hs.st,hs.ev,hz⟩ _ _ h2
      exact⟨a1,by omega,a3⟩) v f' h
end

end
section
/- A function value is called that may panic. -/
section
variable {P:Program} {E:WV} {Q:Exit→St→Prop} {n:Nat} {env:List (Nat×AV)} {own:List Own} {F:List (Value×AV)} {D:List Deferred} {ops:Array Oper} {rest:List Oper}
variable {ty:TypeId} {pos:String} {af:Array Edge} {d:Nat}
theorem Fp(ms:List Cd){f:FuncId}{fo:Operand}{fi ca:List Value}{l:List Operand}{tys:Array TypeId}{xs zs:List AV}{ok:Prop}{e:Value}{Rx:AV→List Own→Prop}{G:List (Value×AV)}(hf:QE P f=true)(hd:Nat.blt d n=true)
    (hfo:Ev E ⟨n,env,own,F,D⟩ fo (.c (.func (.func f) fi.toArray ca.toArray))) (hG:Lent G (Wj ms own)) (hargs:∀E',EvL E' ⟨n,env,QN ms own++Yh ms own,G++F,D⟩ l xs) (hzs:fi.map AV.c++xs++ca.map AV.c=zs) (hAC:AC P f (QN ms own) zs (PanR ok e Rx))
    (hfr:Wj ms own=[]∨Mv Rx)
    (hret:ok→∀x own',Rx x own'→JL P E ops rest ⟨n,(d,x)::env,QR ms own' own,F,D⟩ Q)
    (hpan:¬ok→Q (.panic [{v:=e,recovered:=false}]) ⟨n,env,QR ms [] own,F,D⟩):
    JL P E ops (⟨some d,.call ⟨.value fo,l.toArray,tys⟩,ty,pos,af,none⟩::rest) ⟨n,env,own,F,D⟩ Q:=
  JL.callG ms hf hd hfo hG hargs hzs hAC (hfr.imp id fun h r o hR=>by
      rcases hR with ⟨_,x,h1,h2⟩|⟨_,h1,h2⟩
      · subst h1;exact h x o h2
      · subst h1 h2;exact⟨trivial,fun x hx=>by cases hx⟩)
    (fun x own' hR=>by
      rcases hR with ⟨h0,y,h1,h2⟩|⟨_,h1,_⟩
      · cases h1;exact hret h0 _ _ h2
      · cases h1)
    (fun v own' hR=>by
      rcases hR with ⟨_,y,h1,_⟩|⟨h0,h1,h2⟩
      · cases h1
      · cases h1;subst h2;exact hpan h0)
end

end
section
/- A place within an owned value: what the whole is when another value stands there. -/
theorem Reown.fold{b cap:Nat}{ys:List AV}{v:Value}{e:We}{xs:List (List AV)}(hv:v=sv b 0 xs.length (cap+1))(hle:xs.length≤cap+1)
    (hs:∀x∈xs,x.length=e.sz) (hl:ys.length=(cap+1)*e.sz) (hp:ys.take xs.flatten.length=xs.flatten):Reown [.box b ys] [.arr v e xs]:=by
  subst hv
  refine⟨fun x=>by simp[QV,UT,Own.fp,Gd,sv],fun w A h=>?_⟩
  simp only[List.forall_mem_cons,List.not_mem_nil,false_implies,implies_true,and_true]at h⊢
  simp only[Own.ok]at h⊢
  obtain⟨us,t,h1,h2,h3⟩:=h
  refine .inr ⟨b,cap,us,t,rfl,h1,hle,⟨by rw[h2,hl],fun k u hu=>?_⟩,hs,fun k y hk=>?_⟩
  · have hk:k<ys.length:=by rw[← h2];exact(Array.getElem?_eq_some_iff.1 hu).1
    obtain⟨u',g1,g2,_⟩:=h3 k _ (List.getElem?_eq_getElem hk)
    rw[Nat.zero_add,hu]at g1
    cases g1;exact g2
  · refine h3 k y ?_
    have hk1:=(List.getElem?_eq_some_iff.1 hk).1
    rw[← hp]at hk
    rw[List.getElem?_take]at hk
    rwa [if_pos hk1]at hk
theorem PK{o:Own}{a l:List Own}(h:Reown [o] a):Reown (o::l) (a++l):=
  (Reown.perm (List.perm_append_singleton o l).symm).trans ((Reown.left (c:=l) h).trans (Reown.perm List.perm_append_comm))
def Law(b:Nat)(pre post:List AV)(ctx:Own)(b0:Nat)(plug:V→V):Prop:=
  ∀(x:V) (kv iv:Value) (ok oi:Own),x.wf→VTr x kv iv ok oi→∃kw iw okw oiw,VTr (plug x) kw iw okw oiw∧Reown [.box b (pre++x.raw kv iv++post),ok,oi,ctx] [.box b0 ((plug x).raw kw iw),okw,oiw]
theorem PR(b:Nat):Law b [] [] (.grp []) b id:=fun x kv iv ok oi _ h=>⟨kv,iv,ok,oi,h,by
  rw[List.append_nil,List.nil_append]
  exact HD [.p,.p,.p] _ rfl⟩
theorem Sx{is:List V}{cs:List (List AV)}{us:List Value}{o:Own}{i:Nat}(hlt:i<is.length)(hl:cs.length=is.length)(h3:∀x∈cs,x.length=5)(hf:cs.flatten=us.map AV.c)(h1:us.all (·.oneCell')=true)(h:TrL (V.css true is).flatten us o):
    ∃kv iv ok oi ob oa u1 u3,cs[i]? =some ((is[i]'hlt).raw kv iv)∧VTr (is[i]'hlt) kv iv ok oi∧TrL (V.css true (is.take i)).flatten u1 ob∧TrL (V.css true (is.drop (i+1))).flatten u3 oa∧(cs.take i).flatten=u1.map AV.c∧(cs.drop (i+1)).flatten=u3.map AV.c∧
      u1.all (·.oneCell')=true∧u3.all (·.oneCell')=true∧Reown [o] [ok,oi,ob,oa]:=by
  have hsp:(V.css true is).flatten=(V.css true (is.take i)).flatten++(V.css true (is.drop i)).flatten:=by
    rw[← List.flatten_append,← V.css_append,List.take_append_drop]
  rw[hsp]at h
  obtain⟨u1,u2,o1,o2,rfl,g1,g2,g3⟩:=h.split
  rw[List.all_append,Bool.and_eq_true]at h1
  have hlen:(cs.take i).flatten.length=u1.length:=by
    rw[← g1.length,QP (sz:=5) _ (fun x hx=>h3 x (List.mem_of_mem_take hx)),QP (sz:=5) _ (V.css_sz true _),V.css_length,List.length_take,List.length_take,hl]
  have hf2:(cs.take i).flatten++(cs.drop i).flatten=u1.map AV.c++u2.map AV.c:=by
    rw[← List.flatten_append,List.take_append_drop,hf,List.map_append]
  obtain⟨k1,k2⟩:=List.append_inj hf2 (by simpa using hlen)
  obtain⟨kv,iv,ok,oi,u3,o3,e1,e2,e3,e4,e5,e6⟩:=CG hlt hl h3 k2 h1.2 g2
  refine⟨kv,iv,ok,oi,o1,o3,u1,u3,e1,e2,g1,e5,k1,e3,h1.1,e4,?_⟩
  exact(Wo g3).trans ((Reown.cons e6).trans (Reown.perm (by
    simpa using (List.perm_append_comm (l₁:=[o1]) (l₂:=[ok,oi])).append_right [o3])))
theorem Hh{α:Type}{l:List α}{i:Nat}{x:α}(h:i<l.length):l.set i x=l.take i++x::l.drop (i+1):=by
  rw[List.set_eq_take_append_cons_drop,if_pos h]
theorem Law.into{b b0 b2 cap i:Nat}{pre post:List AV}{ctx ok ob oa:Own}{plug:V→V}{u:V}{kv iv:Value}{cs:List (List AV)}{sp u1 u3:List Value}(hL:Law b pre post ctx b0 plug)(huw:u.wf)(hk1:kv.oneCell'=true)(hi1:iv.oneCell'=true)(hks:Tr (.sl true false WZ (Q6 u.keys)) kv ok)
    (hlt:i<u.items.length) (hcl:cs.length=u.items.length) (h5:∀x∈cs,x.length=5) (hiv:iv=sv b2 0 cs.length (cap+1)) (hcap:cs.length≤cap+1) (hsz:cs.flatten.length+sp.length=(cap+1)*5)
    (t1:TrL (V.css true (u.items.take i)).flatten u1 ob) (t3:TrL (V.css true (u.items.drop (i+1))).flatten u3 oa) (f1:(cs.take i).flatten=u1.map AV.c) (f3:(cs.drop (i+1)).flatten=u3.map AV.c) (a1:u1.all (·.oneCell')=true) (a3:u3.all (·.oneCell')=true):
    Law b2 (cs.take i).flatten ((cs.drop (i+1)).flatten++sp.map AV.c) (.grp [.box b (pre++u.raw kv iv++post),ok,ob,oa,ctx]) b0 (fun x=>plug (u.setAt i x)):=fun x kx ix okx oix hxw hx=>by
  have hclt:i<cs.length:=by omega
  have hflat:(cs.set i (x.raw kx ix)).flatten=(u1++(x.vals kx ix++u3)).map AV.c:=by
    rw[Hh hclt,List.flatten_append,List.flatten_cons,f1,f3,V.raw_eq,List.map_append,List.map_append]
  have hrl:(x.raw kx ix).length=5:=rfl
  have h5':∀z∈cs.set i (x.raw kx ix),z.length=5:=fun z hz=>(List.mem_or_eq_of_mem_set hz).elim (h5 z) fun e=>e▸rfl
  have hits:u.items.length*80≤Qu:=by obtain⟨k,b,t,ks,is⟩:=u;exact huw.inv.2.2.2.2.1
  have htl:TrL (V.css true (u.items.set i x)).flatten (u1++(x.vals kx ix++u3)) (.grp [ob,.grp [.grp [okx,oix],oa]]):=by
    rw[Hh hlt,V.css_append,List.flatten_append,V.css,List.flatten_cons]
    exact t1.append (hx.trL.append t3 (.refl _)) (.refl _)
  have hIt:Tr (.sl true false eV (V.css true (u.items.set i x))) iv (.grp [.arr iv eV (cs.set i (x.raw kx ix)),.grp [ob,.grp [.grp [okx,oix],oa]]]):=
    GQ hflat (by simp[hcl]) h5' (by rw[List.all_append,List.all_append,a1,hx.ones,a3];rfl) (by simpa using hits) htl
  have hV:VTr (u.setAt i x) kv iv ok (.grp [.arr iv eV (cs.set i (x.raw kx ix)),.grp [ob,.grp [.grp [okx,oix],oa]]]):=⟨hk1,hi1,hks,hIt⟩
  obtain⟨kw,iw,okw,oiw,g1,g2⟩:=hL _ _ _ _ _ (Gz huw hxw) hV
  refine⟨kw,iw,okw,oiw,g1,Reown.trans ?_ g2⟩
  have hfold:Reown [.box b2 ((cs.take i).flatten++x.raw kx ix++((cs.drop (i+1)).flatten++sp.map AV.c))] [.arr iv eV (cs.set i (x.raw kx ix))]:=by
    have he:(cs.take i).flatten++x.raw kx ix++((cs.drop (i+1)).flatten++sp.map AV.c)=(cs.set i (x.raw kx ix)).flatten++sp.map AV.c:=by
      rw[Hh hclt,List.flatten_append,List.flatten_cons];simp
    have hl2:(cs.set i (x.raw kx ix)).flatten.length=cs.flatten.length:=by
      rw[QP (sz:=5) _ h5',QP (sz:=5) _ h5,List.length_set]
    rw[he]
    refine Reown.fold (cap:=cap) (by rw[List.length_set];exact hiv) (by rw[List.length_set];exact hcap) h5' ?_ (List.take_left)
    rw[List.length_append,List.length_map,hl2];exact hsz
  refine(PK (l:=[okx,oix,.grp [.box b (pre++u.raw kv iv++post),ok,ob,oa,ctx]]) hfold).trans ?_
  refine⟨fun y=>by simp only[QV,UT,Xx,List.count_append,List.count_nil,List.singleton_append,V.raw,V.setAt,V.kind,V.bits,V.text];simp only[Own.fp];omega,fun w A h=>?_⟩
  simp only[List.forall_mem_cons,List.singleton_append,Xb,List.not_mem_nil,false_implies,implies_true,and_true]at h⊢
  obtain⟨q1,q2,q3,q4,q5,q6,q7,q8⟩:=h
  exact⟨q4,q5,⟨q1,q6,⟨q2,q3⟩,q7⟩,q8⟩
structure At where
  b:Nat
  off:Nat
  pre:List AV
  post:List AV
  u:V
  kv:Value
  iv:Value
  ok:Own
  oi:Own
  ctx:Own
  plug:V→V
structure At.Ok(z:At)(b0:Nat):Prop where
  off:z.pre.length=z.off
  tr:VTr z.u z.kv z.iv z.ok z.oi
  law:Law z.b z.pre z.post z.ctx b0 z.plug
  fine:z.u.Fine
  wf:z.u.wf
def Yk(z:At)(u:V)(kv iv:Value):List AV:=z.pre++u.raw kv iv++z.post
theorem YI(z:At)(u:V)(kv iv:Value):Yk z u kv iv=z.pre++(u.raw kv iv++z.post):=List.append_assoc _ _ _
theorem CP{z:At}{u:V}{kv iv:Value}(h:z.pre.length=z.off):((Yk z u kv iv).drop z.off).take 5=u.raw kv iv:=by
  rw[YI,← h,List.drop_left]
  exact List.take_left' rfl
theorem KU{z:At}{u:V}{kv iv:Value}(h:z.pre.length=z.off)(k:Nat)(hk:k<5):(Yk z u kv iv)[z.off+k]? =(u.raw kv iv)[k]? :=by
  rw[YI,List.getElem?_append_right (by omega),List.getElem?_append_left (by rw[show(u.raw kv iv).length=5 from rfl];omega)]
  congr 1;omega
theorem Lv{α:Type}{a l c ys:List α}{k:Nat}(h:k+ys.length≤l.length):QT (a++(l++c)) (a.length+k) ys=a++(QT l k ys++c):=by
  unfold QT
  rw[List.take_append,List.take_of_length_le (by omega),Nat.add_sub_cancel_left,List.take_append_of_le_length (by omega),Nat.add_assoc,List.drop_append,List.drop_eq_nil_of_le (by omega),List.nil_append,Nat.add_sub_cancel_left,List.drop_append_of_le_length h]
  simp
theorem R2{z:At}{u:V}{kv iv:Value}(h:z.pre.length=z.off){k:Nat}{x:AV}(hk:k<5):QT (Yk z u kv iv) (z.off+k) [x]=z.pre++(QT (u.raw kv iv) k [x]++z.post):=by
  rw[YI,← h,Lv (by rw[show(u.raw kv iv).length=5 from rfl];simp;omega)]
theorem BC{z:At}{u x:V}{kv iv kx ix:Value}(h:z.pre.length=z.off):QT (Yk z u kv iv) z.off (x.raw kx ix)=Yk z x kx ix:=by
  have:=Lv (a:=z.pre) (l:=u.raw kv iv) (c:=z.post) (ys:=x.raw kx ix) (k:=0) (by simp[V.raw])
  rw[Nat.add_zero,h]at this
  rw[YI,this,YI]
  rfl
theorem LR(z:At)(u:V)(kv iv:Value)(h:z.pre.length=z.off):(Yk z u kv iv).length=z.off+5+z.post.length:=by
  rw[YI,List.length_append,List.length_append,show(u.raw kv iv).length=5 from rfl];omega
section
variable {P:Program} {E:WV} {st:St} {t et ty:TypeId} {pos:String} {af:Array Edge} {dd:Option Tmp} {gd:Option (Nat×Bool)} {x y:Operand} {g:Bool} {n B:Nat}
theorem D1{b off len cap m:Nat}{k:IntKind}{i:Int}(hU:P.underlying t=some (.slice et))(hT:Un P et=some (g,n,B))(hx:Ev E st x (.c (sv b off len cap)))(hi:Ev E st y (.c (.int k i)))(hm:i=(m:Int))(hlt:m<len):
    QW P E st ⟨dd,.indexAddr t x y,ty,pos,af,gd⟩ (.c (.pointer (some ⟨b,off+m*n,none⟩))):=.pure fun A a w hs=>by
  subst hm
  refine⟨.pointer (some ⟨b,off+m*n,none⟩),?_,.c _⟩
  simp only[execOp,hx.eq hs,hi.eq hs,Instr.indexAt,asIntOf,Sem.run_bind,Sem.run_pure,Result.andThen_ok,Qw _ hU]
  rw[if_pos (by omega)]
  simp[UD hT,W0]
end

end
section
/- Guards that are known; arrays behind a pointer. -/
section
variable {P:Program} {E:WV} {Q:Exit→St→Prop} {n:Nat} {env:List (Nat×AV)} {own:List Own} {F:List (Value×AV)} {D:List Deferred} {ops:Array Oper} {rest:List Oper}
variable {ty:TypeId} {pos:String} {af:Array Edge} {d:Option Nat} {op:Op}
theorem SatA.yield{A:QZ}{a:Act}{w:World}{st:St}(hA:SatA E A st a w){j s:Nat}{g:Bool}(hs:(ops[j]?).bind (·.dst)=some s)(hl:lk st.env s=some (.c (.bool g))):yielded ops a.tmps j=some g:=by
  have h1:=(hA.env s _ hl).eq
  unfold yielded
  rw[hs]
  simp only[Option.bind_some]
  rw[Array.getD_eq_getD_getElem?]at h1
  cases h2:a.tmps[s]? with
  |none=>rw[h2]at h1;simp[undef]at h1
  |some v=>rw[h2]at h1;simp at h1;subst h1;rfl
theorem U2{j s:Nat}{want g:Bool}(hs:(ops[j]?).bind (·.dst)=some s)(hl:lk env s=some (.c (.bool g)))(hw:g=want)(h:JL P E ops (⟨d,op,ty,pos,af,none⟩::rest) ⟨n,env,own,F,D⟩ Q):
    JL P E ops (⟨d,op,ty,pos,af,some (j,want)⟩::rest) ⟨n,env,own,F,D⟩ Q:=fun a w ⟨A,hA⟩=>by
  have hy:=hA.yield hs hl
  have h1:=h a w ⟨A,hA⟩
  unfold wpListIn at h1⊢
  rw[if_pos (by simp[Region.wanted])]at h1
  rw[if_pos (by simp[Region.wanted,hy,hw])]
  exact h1
theorem Wx{d j s:Nat}{want g:Bool}(hs:(ops[j]?).bind (·.dst)=some s)(hn:Nat.blt d n=true)(hl:lk env s=some (.c (.bool g)))(hw:(g==want)=false)
    (h:JL P E ops rest ⟨n,(d,.wh false (.c .nilIface))::env,own,F,D⟩ Q):JL P E ops (⟨some d,op,ty,pos,af,some (j,want)⟩::rest) ⟨n,env,own,F,D⟩ Q:=fun a w ⟨A,hA⟩=>by
  have hy:=hA.yield hs hl
  unfold wpListIn
  rw[if_neg (by simp only[Region.wanted,hy];simpa using hw)]
  exact⟨fun _ _=>trivial,h _ _ ⟨A,hA.put (Uo hn) (.wh _ _ _ (fun h=>by cases h) fun _=>rfl)⟩⟩
variable {st:St} {x y t et s0:TypeId}
theorem Ha{b:Bool}{x y:Operand}(hx:Ev E st x (.c (.bool true)))(hy:Ev E st y (.c (.bool b))):QW P E st ⟨d,.pick x y (.const (.bool false)),ty,pos,af,none⟩ (.c (.bool b)):=.pure fun A a w hs=>
  ⟨_,by simp only[execOp,hx.eq hs,asBool,Sem.run_bind,Sem.run_pure,Result.andThen_ok];rfl,by rw[if_pos trivial,hy.eq hs];exact .c _⟩
theorem Rm{x y:Operand}(hx:Ev E st x (.c (.bool false))):QW P E st ⟨d,.pick x y (.const (.bool false)),ty,pos,af,none⟩ (.c (.bool false)):=.pure fun A a w hs=>
  ⟨_,by simp only[execOp,hx.eq hs,asBool,Sem.run_bind,Sem.run_pure,Result.andThen_ok];rfl,by simp[Act.eval];exact .c _⟩
theorem TD{b:Bool}{x y:Operand}(hx:Ev E st x (.c (.bool false)))(hy:Ev E st y (.c (.bool b))):QW P E st ⟨d,.pick x (.const (.bool true)) y,ty,pos,af,none⟩ (.c (.bool b)):=.pure fun A a w hs=>
  ⟨_,by simp only[execOp,hx.eq hs,asBool,Sem.run_bind,Sem.run_pure,Result.andThen_ok];rfl,by simp only[Bool.false_eq_true,if_false];rw[hy.eq hs];exact .c _⟩
theorem TC{x y:Operand}(hx:Ev E st x (.c (.bool true))):QW P E st ⟨d,.pick x (.const (.bool true)) y,ty,pos,af,none⟩ (.c (.bool true)):=.pure fun A a w hs=>
  ⟨_,by simp only[execOp,hx.eq hs,asBool,Sem.run_bind,Sem.run_pure,Result.andThen_ok];rfl,by simp[Act.eval];exact .c _⟩
variable {g:Bool} {sz B:Nat} {k:IntKind} {i:Int} {x y lo:Operand} {gd:Option (Nat×Bool)}
theorem Mq{b off ln m off':Nat}(hU:P.underlying t=some (.array ln et))(hT:Un P et=some (g,sz,B))(hx:Ev E st x (.c (.pointer (some ⟨b,off,none⟩))))(hi:Ev E st y (.c (.int k i)))(hm:i=(m:Int))(hlt:m<ln)(ho:off+m*sz=off'):
    QW P E st ⟨d,.indexAddr t x y,ty,pos,af,gd⟩ (.c (.pointer (some ⟨b,off',none⟩))):=.pure fun A a w hs=>by
  subst hm ho
  refine⟨.pointer (some ⟨b,off+m*sz,none⟩),?_,.c _⟩
  simp only[execOp,hx.eq hs,hi.eq hs,Instr.indexAt,asIntOf,Instr.sureAddr,Sem.run_bind,Sem.run_pure,Result.andThen_ok,Qw _ hU]
  rw[if_pos (by omega)]
  simp[UD hT,W0]
theorem H0{b off ln l off':Nat}(hU:P.underlying t=some (.array ln et))(hT:Un P et=some (g,sz,B))(hx:Ev E st x (.c (.pointer (some ⟨b,off,none⟩))))(hlo:Ev E st lo (.c (.int k i)))(hi:i=(l:Int))(hl:l≤ln)(ho:(if ln=l then off else off+l*sz)=off'):
    QW P E st ⟨d,.slice t x (some lo) none none,ty,pos,af,gd⟩ (.c (sv b off' (ln-l) (ln-l))):=.pure fun A a w hs=>by
  refine⟨sv b off' (ln-l) (ln-l),?_,.c _⟩
  subst ho
  have e:(Instr.sliceAt t (.pointer (some ⟨b,off,none⟩)) (some (.int k (l:Int))) none none).run P w=.ok (sv b (if ln=l then off else off+l*sz) (ln-l) (ln-l)) w:=by
    simp only[Instr.sliceAt,Instr.sureAddr,Instr.sliceBounds,Sem.run_bind,Sem.run_pure,Result.andThen_ok,Qw _ hU,UD hT,Hk hl]
    split
    · rfl
    · rw[W0]
  simp only[execOp,hx.eq hs,Option.map_some,Option.map_none,Nw hlo hi hs,Sem.run_bind,e,Result.andThen_ok,Sem.run_pure]
theorem Ms(j:Nat){b off len cap:Nat}{ys:List AV}{l:List UInt8}{e8:TypeId}(hS:P.underlying s0=some (.slice e8))(hT:P.underlying t=some .string)(hE:P.underlying e8=some (.int .u8))(hx:Ev E st x (.c (sv b off len cap)))
    (ho:st.own[j]? =some (.box b ys)) (hy:(ys.drop off).take len=l.map fun b=>.c (.int .u8 (b.toNat:Int))) (hl:l.length=len):QW P E st ⟨d,.convert s0 t x,ty,pos,af,gd⟩ (.c (Um l)):=.pure fun A a w hs=>by
  obtain⟨us,t',hb,_,hc⟩:=hs.box j ho
  have hc2:=(hc.drop off).take len
  rw[Nat.zero_add,hy]at hc2
  refine⟨Um l,?_,.c _⟩
  have hrun:(Conv.bytesToString (sv b off len cap)).run P w=.ok (Um l) w:=by rw[← hl];exact Co hb hc2 cap
  simp only[execOp,hx.eq hs,Go.convert,Sem.run_bind,Qw _ hS,Qw _ hT,Result.andThen_ok]
  simp only[Qw _ hE,Result.andThen_ok,hrun,Sem.run_bind,Sem.run_pure]
end

end
section
/- Walks: the digits of a whole number. -/
set_option maxRecDepth 10000
set_option maxHeartbeats 4000000
def Bl(d:Ui):List AV:=d.map fun b=>.c (.int .u8 (b.toNat:Int))
def dgB(d:Ui):List AV:=List.replicate (20-d.length) (.c (.int .u8 0))++Bl d
theorem Bk(d:Ui):(Bl d).length=d.length:=by simp[Bl]
theorem E1{d:Ui}(h:d.length≤20):(dgB d).length=20:=by simp[dgB,Bk];omega
theorem Tf{d:Ui}(c:UInt8)(h:d.length<20):QT (dgB d) (19-d.length) [.c (.int .u8 (c.toNat:Int))]=dgB (c::d):=by
  obtain⟨k,hk⟩:∃k,20-d.length=k+1:=⟨19-d.length,by omega⟩
  have h1:19-d.length=k:=by omega
  unfold dgB QT
  rw[hk,h1,List.length_singleton,List.take_append_of_le_length (by simp),List.take_replicate,Nat.min_eq_left (by omega),List.drop_append_of_le_length (by simp),List.drop_replicate,Nat.sub_self,List.length_cons,show 20-(d.length+1)=k by omega]
  simp[Bl]
theorem Tg{d:Ui}(h:d.length≤20):((dgB d).drop (20-d.length)).take d.length=d.map fun b=>.c (.int .u8 (b.toNat:Int)):=by
  unfold dgB
  rw[List.drop_append_of_le_length (by simp),List.drop_replicate,Nat.sub_self,List.replicate_zero,List.nil_append]
  exact List.take_of_length_le (by simp[Bl])
theorem CB{n m:Nat}{d:Ui}(h:GO n=(if m=0∧d≠[]then []else GO m)++d)(hc:0<m∨d=[]):GO n=(if m / 10=0∧(UInt8.ofNat (48+m%10)::d)≠[]then []else GO (m / 10))++UInt8.ofNat (48+m%10)::d:=by
  rw[if_neg (fun h=>hc.elim (fun h1=>by omega) h.2)]at h
  rw[h]
  by_cases hm:m<10
  · rw[if_pos ⟨by omega,by simp⟩,GO,if_pos hm,show m%10=m by omega];rfl
  · rw[if_neg (fun h=>by omega),GO,if_neg hm,List.append_assoc];rfl
theorem digC{m:Nat}:((UInt8.ofNat (48+m%10)).toNat:Int)=48+((m%10:Nat):Int):=by
  rw[UInt8.toNat_ofNat',Nat.mod_eq_of_lt (by omega)];omega
def Qao(b:Nat):AV:=.tup [.c (Um (if XG b=0 then Dj (Xv b)else [])),.c (.int .i64 (if XG b=0 then 0 else 7))]
theorem C4(b:Nat)(hb:b<2^64):Fn Tryz.prog 115 [.c (.int .u64 (b:Int))] (Qao b):=by
  refine AC.of_J Tryz.func115 rfl Tryz.ntmps115 rfl fun w0 A0=>?_
  refine Zs (Zq rfl (QW.assign .const) (Zq rfl (QW.assign .const) (Zn (Zs (Zq rfl (QW.move (.tmp rfl)) (Zq rfl (QW.call EF (.cons (.tmp rfl) .nil) (BB _ (by assumption))) ?_))))))
  refine Zq rfl (QW.move (.tmp rfl)) (Zq rfl (QW.extract (.tmp rfl) rfl) (Zq rfl (QW.extract (.tmp rfl) rfl) (Zq rfl (QW.assign (.tmp rfl)) (Zq rfl (QW.assign (.tmp rfl)) (Zn (J.seq (Zs (Zq rfl (QW.move (.tmp rfl)) (Zq rfl (QW.neq (.tmp rfl) .const) ?_)))))))))
  refine Zn ?_
  refine J.cond (.tmp rfl) (fun c1=>?_) (fun c1=>?_)
  · skip
    have hne:¬XG b=0:=by simpa using c1
    exact Zs (Zq rfl (QW.assign .const) (Zq rfl (QW.assign .const) (Zn (J.ret (thenQ.r (Zr [] (QB rfl (REv.tmp rfl lr) (REv.tmp rfl lr)) rfl ⟨by rw[Qao,if_neg hne,if_neg hne],rfl⟩))))))
  have he0:XG b=0:=by simpa using c1
  have hbd:=Kz b he0
  obtain⟨v,hv⟩:∃v,Xv b=v:=⟨_,rfl⟩
  rw[hv]at hbd
  obtain⟨N,hN⟩:∃N,v.natAbs=N:=⟨_,rfl⟩
  have hN16:N<10000000000000000:=by omega
  refine Zk (Zs (JL.alloc z182 rfl rfl fun b6=>Zn (Zs (Zq rfl (QW.assign .const) (Zn (J.seq (Zs (Zq rfl (QW.move (.tmp rfl)) ?_))))))))
  refine Zq rfl (QW.move (.tmp rfl)) (Zq rfl (QW.neg (.tmp rfl) (c:= -v) (by rw[hv,Int.zero_sub];exact WW (by omega))) ?_)
  refine Zq rfl ((QW.max2 (.tmp rfl) (.tmp rfl)).conv (show _=AV.c (.int .i64 (N:Int)) by rw[hv];congr 2;omega)) ?_
  refine Zq rfl (QW.assign (.tmp rfl)) (Zn (J.block (Q0 (ι:=Ui×Nat) [2,3,4,6] (fun⟨d,m⟩=>[(7,.c (.int .i64 ((20-d.length:Nat):Int))),(8,.c (.int .i64 (m:Int)))]) (fun⟨d,m⟩ oo=>List.set oo 0 (.box b6 (dgB d))) (fun⟨d,m⟩=>m≤N∧d.length≤16∧m<10^(16-d.length)∧GO N=(if m=0∧d≠[]then []else GO m)++d) (fun⟨d,m⟩=>m+(if d=[]then 1 else 0)) ⟨[],N⟩ (⟨Nat.le_refl _,by simp,by simpa using hN16,by simp⟩) (QK (.cons rfl lr (.cons rfl lr (.cons rfl lr (.cons rfl lr (.cons rfl lr (.cons rfl lr .nil)))))) (Reown.refl _) (fun _ h=>by first|exact h|simp[h])) ?_)))
  intro⟨d,m⟩ ⟨hmN,hd16,hm10,hnd⟩
  refine J.conv (by(try simp only[nl,Qk,Qz,QA,Qy,QR,AV.cellsOf,Qd,Qe,Nat.reduceAdd]);rfl) ?_
  refine J.seq (Zs (Zq rfl (QW.move (.tmp rfl)) (Zq rfl (QW.gtr (.tmp rfl) .const) (Zq rfl (QW.move (.tmp rfl)) (Zg rfl (fun hg=>(QW.move (.tmp rfl))) (Zg rfl (fun hg=>(QW.eql (.when rfl hg) .const)) (Zq rfl (QW.pick_or (.tmp rfl) (.tmp rfl)) (Zn ?_))))))))
  refine J.cond (.tmp rfl) (fun c2=>?_) (fun c2=>?_)
  · skip
    have hc:0<m∨d=[]:=by
      simp at c2
      exact c2.imp (fun h=>h) (fun h=>List.eq_nil_of_length_eq_zero (by omega))
    have hd15:d.length≤15:=by
      rcases hc with hc|hc
      · exact Nat.lt_succ_iff.1 (Nat.lt_of_le_of_ne hd16 fun h=>by rw[h]at hm10;simp at hm10;omega)
      · subst hc;exact Nat.zero_le _
    obtain⟨q,hq⟩:∃q,16-d.length=q+1:=⟨15-d.length,by omega⟩
    rw[hq,Nat.pow_succ]at hm10
    refine Zk (J.seq (J.block (Zs (Zq rfl (QW.move (.tmp rfl)) (Zq rfl (QW.sub (.tmp rfl) .const (c:=((19-d.length:Nat):Int)) (U5 (by omega) (by omega))) (Zq rfl (QW.assign (.tmp rfl)) (Zn (Qg (Zq rfl (QW.move (.tmp rfl)) ?_)))))))))
    refine Zq rfl (QW.move (.tmp rfl)) (Zq rfl (QW.rem (.tmp rfl) .const (by decide) (c:=((m%10:Nat):Int)) (Int.ofNat_tmod m 10).symm) ?_)
    refine Zq rfl (WP us3 iu5 (.tmp rfl) (c:=((m%10:Nat):Int)) (wu8 (by omega))) (Zq rfl (QW.add .const (.tmp rfl) (c:=((UInt8.ofNat (48+m%10)).toNat:Int)) (by rw[digC];exact wu8 (by omega))) ?_)
    refine Zq rfl (Mq (b:=b6) (off:=0) (ln:=20) (et:=5) (off':=19-d.length) (m:=19-d.length) (by kernel_rfl) ty5 (.tmp rfl) (.tmp rfl) rfl (by omega) (by simp)) ?_
    refine JL.store_box 0 ty5 (.tmp rfl) rfl (.tmp rfl) rfl rfl (by rw[E1 (by omega)];exact Nat.ble_eq_true_of_le (by omega)) (Tf (UInt8.ofNat (48+m%10)) (by omega)) rfl ?_
    refine JL.nil (blkQ.n (thenQ.n (Qg (Zq rfl (QW.move (.tmp rfl)) (Zq rfl (QW.quo (.tmp rfl) .const (by decide) (c:=((m / 10:Nat):Int)) (by rw[show(m:Int).tdiv 10=((m / 10:Nat):Int)from(Int.ofNat_tdiv m 10).symm];exact WW (by omega))) ?_)))))
    refine Zq rfl (QW.assign (.tmp rfl)) (Zn ?_)
    exact⟨⟨UInt8.ofNat (48+m%10)::d,m / 10⟩,⟨by show m / 10≤N;omega,by simp;omega,by rw[List.length_cons,show 16-(d.length+1)=q by omega];exact Nat.div_lt_of_lt_mul (by omega),CB hnd hc⟩,hc.elim (fun h=>by have:=Nat.div_lt_self h (by decide:1<10);show m / 10+(if UInt8.ofNat (48+m%10)::d=[]then 1 else 0)<m+(if d=[]then 1 else 0);rw[if_neg (by simp)];omega) (fun h=>by subst h;show m / 10+(if UInt8.ofNat (48+m%10)::([]:Ui)=[]then 1 else 0)<m+1;rw[if_neg (by simp)];omega),QK (.cons rfl ((by rw[List.length_cons,show 20-(d.length+1)=19-d.length by omega];exact .refl _)) (.cons rfl lr (.cons rfl lr (.cons rfl lr (.cons rfl lr (.cons rfl lr .nil)))))) (Reown.refl _) (fun _ h=>by first|exact h|simp[h])⟩
  have hz:m=0∧d≠[]:=by
    simp at c2
    exact⟨by omega,fun h=>by subst h;simp at c2⟩
  rw[if_pos hz,List.nil_append]at hnd
  have hd0:=hz.2
  have hd1:1≤d.length:=by cases d with|nil=>exact absurd rfl hd0|cons x r=>simp
  refine J.exit (Qv (Qv (QM (thenQ.n (J.seq (Zs (Zq rfl (QW.move (.tmp rfl)) (Zq rfl (QW.lss (.tmp rfl) .const) (Zn ?_)))))))))
  refine J.cond (.tmp rfl) (fun c3=>?_) (fun c3=>?_)
  · skip
    have hneg:v<0:=by rw[← hv];simpa using c3
    refine Zs (Zq rfl (QW.move (.tmp rfl)) (Zq rfl (QW.sub (.tmp rfl) .const (c:=((19-d.length:Nat):Int)) (U5 (by omega) (by omega))) (Zq rfl (QW.assign (.tmp rfl)) (Zn (Qg (Zq rfl (QW.move (.tmp rfl)) (Zq rfl (Mq (b:=b6) (off:=0) (ln:=20) (et:=5) (off':=19-d.length) (m:=19-d.length) (by kernel_rfl) ty5 (.tmp rfl) (.tmp rfl) rfl (by omega) (by simp)) ?_)))))))
    refine JL.store_box 0 ty5 (.tmp rfl) rfl .const rfl rfl (by rw[E1 (by omega)];exact Nat.ble_eq_true_of_le (by omega)) (Tf 45 (by omega)) rfl ?_
    refine Zn (Zs (Zq rfl (QW.move (.tmp rfl)) (Zq rfl (by exact H0 (b:=b6) (off:=0) (ln:=20) (et:=5) (off':=19-d.length) (l:=19-d.length) (by kernel_rfl) ty5 (.tmp rfl) (.tmp rfl) rfl (by omega) (by split<;>omega)) ?_)))
    refine Zq rfl (by exact Ms 0 (l:=45::d) (e8:=5) (by kernel_rfl) (by kernel_rfl) (by kernel_rfl) (.tmp rfl) rfl (by rw[show 20-(19-d.length)=(45::d).length by rw[List.length_cons];omega,show 19-d.length=20-(45::d).length by rw[List.length_cons];omega];exact Tg (by rw[List.length_cons];omega)) (by(simp;omega))) ?_
    exact Zq rfl (QW.assign (.tmp rfl)) (Zq rfl (QW.assign .const) (Zn (J.ret (Zr [.k] (QB rfl (REv.tmp rfl lr) (REv.tmp rfl lr)) rfl ⟨by rw[Qao,if_pos he0,if_pos he0,hv,Dj,if_pos hneg,hN,hnd],rfl⟩))))
  have hpos:¬v<0:=by rw[← hv];simpa using c3
  refine Zk (Zs (Zq rfl (QW.move (.tmp rfl)) (Zq rfl (by exact H0 (b:=b6) (off:=0) (ln:=20) (et:=5) (off':=20-d.length) (l:=20-d.length) (by kernel_rfl) ty5 (.tmp rfl) (.tmp rfl) rfl (by omega) (by split<;>omega)) ?_)))
  refine Zq rfl (by exact Ms 0 (l:=d) (e8:=5) (by kernel_rfl) (by kernel_rfl) (by kernel_rfl) (.tmp rfl) rfl (by rw[show 20-(20-d.length)=d.length by omega];exact Tg (by omega)) (by omega)) ?_
  exact Zq rfl (QW.assign (.tmp rfl)) (Zq rfl (QW.assign .const) (Zn (J.ret (Zr [.k] (QB rfl (REv.tmp rfl lr) (REv.tmp rfl lr)) rfl ⟨by rw[Qao,if_pos he0,if_pos he0,hv,Dj,if_neg hpos,hN,hnd],rfl⟩))))

end
section
/- Events as plain data: a name and a value; lists of them. -/
structure EvT where
  name:Ui
  arg:V
  deriving DecidableEq
def MH:We:=⟨6,96⟩
def EvT.cs(fr:Bool)(e:EvT):List AV:=.c (Um e.name)::e.arg.cs fr
def EvT.css(fr:Bool)(l:List EvT):List (List AV):=l.map (EvT.cs fr)
theorem EvT.cs_length(fr:Bool)(e:EvT):(e.cs fr).length=6:=by simp[EvT.cs,V.cs_length]
theorem EvT.css_length(fr:Bool)(l:List EvT):(EvT.css fr l).length=l.length:=by simp[EvT.css]
theorem EvT.css_get(fr:Bool){l:List EvT}{i:Nat}{v:EvT}(h:l[i]? =some v):(EvT.css fr l)[i]? =some (v.cs fr):=by simp[EvT.css,h]
theorem EvT.css_getE(fr:Bool){l:List EvT}{i:Nat}(h:i<l.length):(EvT.css fr l)[i]? =some ((l[i]).cs fr):=EvT.css_get fr (List.getElem?_eq_getElem h)
theorem EvT.css_append(fr:Bool)(a b:List EvT):EvT.css fr (a++b)=EvT.css fr a++EvT.css fr b:=by simp[EvT.css]
theorem EvT.css_take(fr:Bool)(a:List EvT)(k:Nat):EvT.css fr (a.take k)=(EvT.css fr a).take k:=by simp[EvT.css,List.map_take]
theorem Rr(fr:Bool)(a:List EvT)(k:Nat):EvT.css fr (a.drop k)=(EvT.css fr a).drop k:=by simp[EvT.css,List.map_drop]
theorem EvT.css_sz(fr:Bool)(l:List EvT):∀x∈EvT.css fr l,x.length=MH.sz:=by
  intro x hx
  obtain⟨v,_,rfl⟩:=List.mem_map.1 hx
  exact EvT.cs_length fr v
theorem EvT.cs_le{F:List (Value×AV)}(fr fr':Bool)(hf:fr'=true→fr=true)(e:EvT):LeL F (e.cs fr) (e.cs fr'):=.cons (.refl _) (V.cs_le fr fr' hf _)
theorem EvT.css_le{F:List (Value×AV)}(fr fr':Bool)(hf:fr'=true→fr=true):∀l:List EvT,LeL F (EvT.css fr l).flatten (EvT.css fr' l).flatten
  |[]=>.nil
  |v::r=>by
    simp only[EvT.css,List.map_cons,List.flatten_cons]
    exact LeL.append (v.cs_le fr fr' hf) (EvT.css_le fr fr' hf r)
theorem Nf{F:List (Value×AV)}(fr fr' clip:Bool)(hf:fr'=true→fr=true)(l:List EvT):Le F (.sl fr clip MH (EvT.css fr l)) (.sl fr' false MH (EvT.css fr' l)):=
  .slL hf (by rw[EvT.css_length,EvT.css_length]) (EvT.css_sz fr' l) (EvT.css_le fr fr' hf l)
structure EvT.wf(e:EvT):Prop where
  name:e.name.length≤Qu
  arg:e.arg.wf
def EvT.wfs(l:List EvT):Prop:=l.length*96≤Qu∧∀e∈l,e.wf
theorem H2:EvT.wfs []:=⟨by decide,fun _ h=>by cases h⟩
theorem EvT.wfs.len{l:List EvT}(h:EvT.wfs l):l.length≤1466015503658:=by have:=h.1;unfold Qu at this;omega
theorem EvT.wfs.take{l:List EvT}(h:EvT.wfs l)(k:Nat):EvT.wfs (l.take k):=⟨Nat.le_trans (Nat.mul_le_mul_right _ (by simp;omega)) h.1,fun e he=>h.2 e (List.mem_of_mem_take he)⟩
theorem EvT.wfs.drop{l:List EvT}(h:EvT.wfs l)(k:Nat):EvT.wfs (l.drop k):=⟨Nat.le_trans (Nat.mul_le_mul_right _ (by simp)) h.1,fun e he=>h.2 e (List.mem_of_mem_drop he)⟩
/-! ### the page -/
def Wa(s:Ui):Bool:=Kh s

end
section
/- Walks: slices.Insert of one element, slices.Delete of one. -/
set_option maxRecDepth 10000
set_option maxHeartbeats 4000000
theorem Sl:∀u v w,(callFunc 101 #[u,v]).run Tryz.prog w=((Extern.SlicesOverlaps.overlaps #[23,23] #[4] #[u,v]).run Tryz.prog w).andThen fun v w'=>.ok (.value v) w':=fun u v w=>run_callFunc_extern (P:=Tryz.prog) Tryz.func101 (by kernel_rfl) (by kernel_rfl) (by kernel_rfl) (by kernel_rfl) _ w
theorem CL{v:Value}{xs:List (List AV)}{ys:List AV}{i:Nat}{fr clip:Bool}(hi:i≤xs.length)(hy:ys.length=1)(hr:(xs.length+1)*16≤Qu):AC Tryz.prog 88 [.arr v WZ xs] [.c v,.c (.int .i64 (i:Int)),.sl fr clip WZ [ys]] (Ww (GC WZ (xs.take i++[ys]++xs.drop i))):=by
  have hr2:=hr
  unfold Qu at hr2
  refine AC.of_J Tryz.func88 rfl Tryz.ntmps88 rfl fun w0 A0=>?_
  refine Zs (Zq rfl (QW.assign .const) (Zn (Zs (Zq rfl (QW.move (.tmp rfl)) (Zq rfl (QW.move (.tmp rfl)) (Nv 0 UC U9 (.tmp rfl) rfl (.tmp rfl) rfl hi rfl fun u12=>Zn (Zs (Zq rfl (QW.move (.tmp rfl)) ?_))))))))
  refine Zq rfl (Qr UC (.tmp rfl)) (Zq rfl (QW.assign (.tmp rfl)) (Zn (J.seq (Zs (Zq rfl (QW.move (.tmp rfl)) (Zq rfl (QW.eql (.tmp rfl) .const) (Zn ?_)))))))
  refine J.cond (.tmp rfl) (fun c1=>absurd c1 (by simp)) (fun c1=>?_)
  refine Zk (Zs (Zq rfl (QW.move (.tmp rfl)) (Zq rfl (Yc 0 UC (.tmp rfl) rfl) (Zq rfl (QW.assign (.tmp rfl)) (Zn (J.seq (Zs (Zq rfl (QW.move (.tmp rfl)) (Zq rfl (QW.move (.tmp rfl)) ?_)))))))))
  refine Zq rfl (QW.eql (.tmp rfl) (.tmp rfl)) (Zn ?_)
  refine J.cond (.tmp rfl) (fun c2=>?_) (fun c2=>?_)
  · skip
    obtain rfl:i=xs.length:=by simp at c2;omega
    exact Zs (Zq rfl (QW.move (.tmp rfl)) (Zq rfl (QW.move (.tmp rfl)) (JL.append 0 UC el9 rfl (.tmp rfl) rfl (UL UC (.tmp rfl)) (by omega) rfl fun v25=>JL.isSlice 0 rfl fun hs1=>Zq rfl (QW.assign (.tmp rfl)) (Zn (J.ret (thenQ.r (Zr [.p] (RetEv.one rfl (REv.tmp rfl lr)) rfl ⟨_,rfl,_,rfl,hs1,by simp;rfl⟩)))))))
  have hlt:i<xs.length:=by simp at c2;omega
  refine Zk (J.seq (J.seq (J.lay 0 rfl (fun a0 hv hx=>absurd hlt (by rw[hx];simp)) fun b cap sp hv hcap hsz hfl=>?_)))
  subst hv
  have hX:xs.flatten.length=xs.length*1:=QP xs hsz
  have hBl:(xs.flatten++sp.map AV.c).length=(cap+1)*1:=by rw[List.length_append,List.length_map];exact hfl
  refine Qg (Zq rfl (QW.move (.tmp rfl)) (Zq rfl (QW.move (.tmp rfl)) (Zq rfl (QW.add (.tmp rfl) (.tmp rfl) (U5 (m:=xs.length+1) rfl (by omega))) (Zq rfl (QW.move (.tmp rfl)) (Zq rfl (TG UC (.tmp rfl)) (Zq rfl (QW.gtr (.tmp rfl) (.tmp rfl)) (Zn ?_)))))))
  refine J.cond (.tmp rfl) (fun c3=>?_) (fun c3=>?_)
  · skip
    have hgr:cap+1<xs.length+1:=by simp at c3;omega
    refine Zs (Zq rfl (QW.move (.tmp rfl)) (Zq rfl (QW.move (.tmp rfl)) (Zq rfl (Lo (h:=i) UC U9 (.tmp rfl) (.tmp rfl) rfl (by omega)) (Zq rfl (QW.move (.tmp rfl)) (Zq rfl (QW.move (.tmp rfl)) (Zq rfl (QW.add (.tmp rfl) (.tmp rfl) (U5 (m:=xs.length+1) rfl (by omega))) (Zq rfl (QW.move (.tmp rfl)) (Zq rfl (QW.sub (.tmp rfl) (.tmp rfl) (U5 (m:=xs.length+1-i) (by omega) (by omega))) (Mu 0 UC iu3 el9 rfl (.tmp rfl) rfl (.tmp rfl) (by omega) (by omega) (by show 0+i*1≤_;rw[hBl];omega) (by rw[show i+(xs.length+1-i)=xs.length+1 by omega];exact hr) (by unfold Qu;omega) rfl fun b2 cap2 tl hc2 hhl htl=>?_)))))))))
    have hNl:(((xs.flatten++sp.map AV.c).drop 0).take (i*1)++tl).length=(cap2+1)*1:=by rw[List.length_append];exact(congrArg (·+tl.length) hhl).trans htl
    have htl2:i*1+tl.length=(cap2+1)*1:=htl
    have hml:(((xs.flatten++sp.map AV.c).drop (i*1)).take (xs.flatten.length-i*1)).length=xs.flatten.length-i*1:=by rw[List.length_take,List.length_drop,hBl];omega
    refine Zq rfl (QW.assign (.tmp rfl)) (Zn (Zs (Zq rfl (QW.move (.tmp rfl)) (Zq rfl (QW.move (.tmp rfl)) (Zq rfl (WF (l:=i) (off':=i*1) UC U9 (.tmp rfl) (.tmp rfl) rfl (by omega) (by omega) (by rw[if_neg (by omega)];omega)) ?_)))))
    refine Zq rfl (QW.move (.tmp rfl)) (YM 0 UC U9 (.tmp rfl) rfl (SrcN.one (.tmp rfl) rfl hy) (Nat.min_eq_left (by omega)) (by rw[hNl,hy];omega) rfl ?_)
    refine Zn (J.seq (QY 8 Uc (by kernel_rfl) (by kernel_rfl) (by kernel_rfl) rfl ?_))
    refine .cons [] rfl rfl rfl (.q rfl (QW.move (.tmp rfl))) ?_
    refine .cons [] rfl rfl rfl (.q rfl (QW.move (.tmp rfl))) ?_
    refine .cons [] rfl rfl rfl (.q rfl (QW.move (.tmp rfl))) ?_
    refine .cons [47,48] rfl rfl rfl (.q rfl (QW.add (.tmp rfl) (.tmp rfl) (U5 (m:=i+1) rfl (by omega)))) ?_
    refine .cons [46,49] rfl rfl rfl (.q rfl (WF (l:=i+1) (off':=i*1+1) UC U9 (.tmp rfl) (.tmp rfl) rfl (by omega) (by omega) (by rw[if_neg (by omega)];omega))) ?_
    refine .cons [] rfl rfl rfl (.q rfl (QW.move (.tmp rfl))) ?_
    refine .cons [] rfl rfl rfl (.q rfl (QW.move (.tmp rfl))) ?_
    refine .cons [51,52] rfl rfl rfl (.q rfl (WF (l:=i) (off':=i*1) UC U9 (.tmp rfl) (.tmp rfl) rfl (by omega) (by omega) (by rw[if_neg (by omega)];omega))) ?_
    refine .nil ?_
    refine YM 0 UC U9 (.tmp rfl) rfl (K2 (i2:=1) (mm:=xs.length-i) (q:=xs.flatten.length-i*1) (.tmp rfl) rfl (by omega) (Nat.le_refl _) (by rw[hBl];omega)) (Nat.min_eq_left (by omega)) (by rw[QF (by rw[hNl,hy];omega),hNl,hml];omega) rfl ?_
    refine Zn (J.seq (J.fold 0 (xs.take i++[ys]++xs.drop i) rfl (v:=sv b2 0 (i+(xs.length+1-i)) (cap2+1)) (by rw[Xn hi,show i+(xs.length+1-i)=xs.length+1 by omega]) (by rw[Xn hi];omega) (NU hsz hy) (by rw[QF (by rw[QF (by rw[hNl,hy];omega),hNl,hml];omega),QF (by rw[hNl,hy];omega),hNl];rfl) (by rw[GS hsz hy,KA hsz];exact R1 (X:=xs.flatten) (sp:=sp.map AV.c) (tl:=tl) (a:=i*1) (m:=1) (by omega) hy (by omega)) rfl ?_))
    exact Qg (Zq rfl (QW.move (.tmp rfl)) (Zq rfl (QW.assign (.tmp rfl)) (Zn (J.ret (thenQ.r (Zr [.p,.k] (RetEv.one rfl (REv.tmp rfl lr)) rfl ⟨_,rfl,_,rfl,rfl,rfl⟩))))))
  have hroom:xs.length+1≤cap+1:=by simp at c3;omega
  refine Zk (Zs (Zq rfl (QW.move (.tmp rfl)) (Zq rfl (QW.move (.tmp rfl)) (Zq rfl (QW.move (.tmp rfl)) (Zq rfl (QW.add (.tmp rfl) (.tmp rfl) (U5 (m:=xs.length+1) rfl (by omega))) (Zq rfl (Lo (h:=xs.length+1) UC U9 (.tmp rfl) (.tmp rfl) rfl (by omega)) (Zq rfl (QW.assign (.tmp rfl)) (Zn (J.seq ?_)))))))))
  refine Zs (Zq rfl (QW.move (.tmp rfl)) (Zq rfl (QW.move (.tmp rfl)) (Zq rfl (QW.move (.tmp rfl)) (Zq rfl (QW.move (.tmp rfl)) (Zq rfl (QW.add (.tmp rfl) (.tmp rfl) (U5 (m:=i+1) rfl (by omega))) (Zq rfl (WF (l:=i+1) (off':=i*1+1) UC U9 (.tmp rfl) (.tmp rfl) rfl (by omega) (by omega) (by rw[if_neg (by omega)];omega)) ?_))))))
  refine Zq rfl (TH 0 UC U9 Sl (.tmp rfl) (.tmp rfl) rfl (by intro h0;simp at h0;subst h0;simp at hy) (by intro h0;have:=congrArg List.length h0;rw[hBl]at this;simp at this)) ?_
  refine Zq rfl (QW.not (.tmp rfl)) (Zn ?_)
  refine J.cond (.tmp rfl) (fun c4=>?_) (fun c4=>absurd c4 (by simp))
  refine J.seq ?_
  have hml:(((xs.flatten++sp.map AV.c).drop (i*1)).take (xs.flatten.length-i*1)).length=xs.flatten.length-i*1:=by rw[List.length_take,List.length_drop,hBl];omega
  refine QY 8 Uc (by kernel_rfl) (by kernel_rfl) (by kernel_rfl) rfl ?_
  refine .cons [] rfl rfl rfl (.q rfl (QW.move (.tmp rfl))) ?_
  refine .cons [] rfl rfl rfl (.q rfl (QW.move (.tmp rfl))) ?_
  refine .cons [] rfl rfl rfl (.q rfl (QW.move (.tmp rfl))) ?_
  refine .cons [70,71] rfl rfl rfl (.q rfl (QW.add (.tmp rfl) (.tmp rfl) (U5 (m:=i+1) rfl (by omega)))) ?_
  refine .cons [69,72] rfl rfl rfl (.q rfl (WF (l:=i+1) (off':=i*1+1) UC U9 (.tmp rfl) (.tmp rfl) rfl (by omega) (by omega) (by rw[if_neg (by omega)];omega))) ?_
  refine .cons [] rfl rfl rfl (.q rfl (QW.move (.tmp rfl))) ?_
  refine .cons [] rfl rfl rfl (.q rfl (QW.move (.tmp rfl))) ?_
  refine .cons [74,75] rfl rfl rfl (.q rfl (WF (l:=i) (off':=i*1) UC U9 (.tmp rfl) (.tmp rfl) rfl (by omega) (by omega) (by rw[if_neg (by omega)];omega))) ?_
  refine .nil ?_
  refine YM 0 UC U9 (.tmp rfl) rfl (K2 (i2:=0) (mm:=xs.length-i) (q:=xs.flatten.length-i*1) (.tmp rfl) rfl (by omega) (by omega) (by rw[hBl];omega)) (by show min _ _=_;omega) (by rw[hBl,hml];omega) rfl ?_
  refine Zn (Zs (Zq rfl (QW.move (.tmp rfl)) (Zq rfl (QW.move (.tmp rfl)) (Zq rfl (WF (l:=i) (off':=i*1) UC U9 (.tmp rfl) (.tmp rfl) rfl (by omega) (by omega) (by rw[if_neg (by omega)];omega)) ?_))))
  refine Zq rfl (QW.move (.tmp rfl)) (YM 0 UC U9 (.tmp rfl) rfl (SrcN.one (.tmp rfl) rfl hy) (Nat.min_eq_left (by omega)) (by rw[QF (by rw[hBl,hml];omega),hBl,hy];omega) rfl ?_)
  refine Zn (J.seq (J.fold 0 (xs.take i++[ys]++xs.drop i) rfl (v:=sv b 0 (xs.length+1) (cap+1)) (by rw[Xn hi]) (by rw[Xn hi];omega) (NU hsz hy) (by rw[QF (by rw[QF (by rw[hBl,hml];omega),hBl,hy];omega),QF (by rw[hBl,hml];omega),hBl];rfl) (by rw[GS hsz hy,KA hsz];exact M6 (X:=xs.flatten) (sp:=sp.map AV.c) (a:=i*1) (m:=1) (by omega) hy (by rw[hBl];omega)) rfl ?_))
  exact Qg (Zq rfl (QW.move (.tmp rfl)) (Zq rfl (QW.assign (.tmp rfl)) (Zn (J.ret (thenQ.r (Zr [.p] (RetEv.one rfl (REv.tmp rfl lr)) rfl ⟨_,rfl,_,rfl,rfl,rfl⟩))))))
theorem Sk:∀u v w,(callFunc 103 #[u,v]).run Tryz.prog w=((Extern.SlicesOverlaps.overlaps #[24,24] #[4] #[u,v]).run Tryz.prog w).andThen fun v w'=>.ok (.value v) w':=fun u v w=>run_callFunc_extern (P:=Tryz.prog) Tryz.func103 (by kernel_rfl) (by kernel_rfl) (by kernel_rfl) (by kernel_rfl) _ w
theorem CK{v:Value}{xs:List (List AV)}{ys:List AV}{i:Nat}{fr clip:Bool}(hi:i≤xs.length)(hy:ys.length=5)(hr:(xs.length+1)*80≤Qu):AC Tryz.prog 89 [.arr v eV xs] [.c v,.c (.int .i64 (i:Int)),.sl fr clip eV [ys]] (Ww (GC eV (xs.take i++[ys]++xs.drop i))):=by
  have hr2:=hr
  unfold Qu at hr2
  refine AC.of_J Tryz.func89 rfl Tryz.ntmps89 rfl fun w0 A0=>?_
  refine Zs (Zq rfl (QW.assign .const) (Zn (Zs (Zq rfl (QW.move (.tmp rfl)) (Zq rfl (QW.move (.tmp rfl)) (Nv 0 QO Qj (.tmp rfl) rfl (.tmp rfl) rfl hi rfl fun u12=>Zn (Zs (Zq rfl (QW.move (.tmp rfl)) ?_))))))))
  refine Zq rfl (Qr QO (.tmp rfl)) (Zq rfl (QW.assign (.tmp rfl)) (Zn (J.seq (Zs (Zq rfl (QW.move (.tmp rfl)) (Zq rfl (QW.eql (.tmp rfl) .const) (Zn ?_)))))))
  refine J.cond (.tmp rfl) (fun c1=>absurd c1 (by simp)) (fun c1=>?_)
  refine Zk (Zs (Zq rfl (QW.move (.tmp rfl)) (Zq rfl (Yc 0 QO (.tmp rfl) rfl) (Zq rfl (QW.assign (.tmp rfl)) (Zn (J.seq (Zs (Zq rfl (QW.move (.tmp rfl)) (Zq rfl (QW.move (.tmp rfl)) ?_)))))))))
  refine Zq rfl (QW.eql (.tmp rfl) (.tmp rfl)) (Zn ?_)
  refine J.cond (.tmp rfl) (fun c2=>?_) (fun c2=>?_)
  · skip
    obtain rfl:i=xs.length:=by simp at c2;omega
    exact Zs (Zq rfl (QW.move (.tmp rfl)) (Zq rfl (QW.move (.tmp rfl)) (JL.append 0 QO K6 rfl (.tmp rfl) rfl (UL QO (.tmp rfl)) (by omega) rfl fun v25=>JL.isSlice 0 rfl fun hs1=>Zq rfl (QW.assign (.tmp rfl)) (Zn (J.ret (thenQ.r (Zr [.p] (RetEv.one rfl (REv.tmp rfl lr)) rfl ⟨_,rfl,_,rfl,hs1,by simp;rfl⟩)))))))
  have hlt:i<xs.length:=by simp at c2;omega
  refine Zk (J.seq (J.seq (J.lay 0 rfl (fun a0 hv hx=>absurd hlt (by rw[hx];simp)) fun b cap sp hv hcap hsz hfl=>?_)))
  subst hv
  have hX:xs.flatten.length=xs.length*5:=QP xs hsz
  have hBl:(xs.flatten++sp.map AV.c).length=(cap+1)*5:=by rw[List.length_append,List.length_map];exact hfl
  refine Qg (Zq rfl (QW.move (.tmp rfl)) (Zq rfl (QW.move (.tmp rfl)) (Zq rfl (QW.add (.tmp rfl) (.tmp rfl) (U5 (m:=xs.length+1) rfl (by omega))) (Zq rfl (QW.move (.tmp rfl)) (Zq rfl (TG QO (.tmp rfl)) (Zq rfl (QW.gtr (.tmp rfl) (.tmp rfl)) (Zn ?_)))))))
  refine J.cond (.tmp rfl) (fun c3=>?_) (fun c3=>?_)
  · skip
    have hgr:cap+1<xs.length+1:=by simp at c3;omega
    refine Zs (Zq rfl (QW.move (.tmp rfl)) (Zq rfl (QW.move (.tmp rfl)) (Zq rfl (Lo (h:=i) QO Qj (.tmp rfl) (.tmp rfl) rfl (by omega)) (Zq rfl (QW.move (.tmp rfl)) (Zq rfl (QW.move (.tmp rfl)) (Zq rfl (QW.add (.tmp rfl) (.tmp rfl) (U5 (m:=xs.length+1) rfl (by omega))) (Zq rfl (QW.move (.tmp rfl)) (Zq rfl (QW.sub (.tmp rfl) (.tmp rfl) (U5 (m:=xs.length+1-i) (by omega) (by omega))) (Mu 0 QO iu3 K6 rfl (.tmp rfl) rfl (.tmp rfl) (by omega) (by omega) (by show 0+i*5≤_;rw[hBl];omega) (by rw[show i+(xs.length+1-i)=xs.length+1 by omega];exact hr) (by unfold Qu;omega) rfl fun b2 cap2 tl hc2 hhl htl=>?_)))))))))
    have hNl:(((xs.flatten++sp.map AV.c).drop 0).take (i*5)++tl).length=(cap2+1)*5:=by rw[List.length_append];exact(congrArg (·+tl.length) hhl).trans htl
    have htl2:i*5+tl.length=(cap2+1)*5:=htl
    have hml:(((xs.flatten++sp.map AV.c).drop (i*5)).take (xs.flatten.length-i*5)).length=xs.flatten.length-i*5:=by rw[List.length_take,List.length_drop,hBl];omega
    refine Zq rfl (QW.assign (.tmp rfl)) (Zn (Zs (Zq rfl (QW.move (.tmp rfl)) (Zq rfl (QW.move (.tmp rfl)) (Zq rfl (WF (l:=i) (off':=i*5) QO Qj (.tmp rfl) (.tmp rfl) rfl (by omega) (by omega) (by rw[if_neg (by omega)];omega)) ?_)))))
    refine Zq rfl (QW.move (.tmp rfl)) (YM 0 QO Qj (.tmp rfl) rfl (SrcN.one (.tmp rfl) rfl hy) (Nat.min_eq_left (by omega)) (by rw[hNl,hy];omega) rfl ?_)
    refine Zn (J.seq (QY 8 Uc (by kernel_rfl) (by kernel_rfl) (by kernel_rfl) rfl ?_))
    refine .cons [] rfl rfl rfl (.q rfl (QW.move (.tmp rfl))) ?_
    refine .cons [] rfl rfl rfl (.q rfl (QW.move (.tmp rfl))) ?_
    refine .cons [] rfl rfl rfl (.q rfl (QW.move (.tmp rfl))) ?_
    refine .cons [47,48] rfl rfl rfl (.q rfl (QW.add (.tmp rfl) (.tmp rfl) (U5 (m:=i+1) rfl (by omega)))) ?_
    refine .cons [46,49] rfl rfl rfl (.q rfl (WF (l:=i+1) (off':=i*5+5) QO Qj (.tmp rfl) (.tmp rfl) rfl (by omega) (by omega) (by rw[if_neg (by omega)];omega))) ?_
    refine .cons [] rfl rfl rfl (.q rfl (QW.move (.tmp rfl))) ?_
    refine .cons [] rfl rfl rfl (.q rfl (QW.move (.tmp rfl))) ?_
    refine .cons [51,52] rfl rfl rfl (.q rfl (WF (l:=i) (off':=i*5) QO Qj (.tmp rfl) (.tmp rfl) rfl (by omega) (by omega) (by rw[if_neg (by omega)];omega))) ?_
    refine .nil ?_
    refine YM 0 QO Qj (.tmp rfl) rfl (K2 (i2:=1) (mm:=xs.length-i) (q:=xs.flatten.length-i*5) (.tmp rfl) rfl (by omega) (Nat.le_refl _) (by rw[hBl];omega)) (Nat.min_eq_left (by omega)) (by rw[QF (by rw[hNl,hy];omega),hNl,hml];omega) rfl ?_
    refine Zn (J.seq (J.fold 0 (xs.take i++[ys]++xs.drop i) rfl (v:=sv b2 0 (i+(xs.length+1-i)) (cap2+1)) (by rw[Xn hi,show i+(xs.length+1-i)=xs.length+1 by omega]) (by rw[Xn hi];omega) (NU hsz hy) (by rw[QF (by rw[QF (by rw[hNl,hy];omega),hNl,hml];omega),QF (by rw[hNl,hy];omega),hNl];rfl) (by rw[GS hsz hy,KA hsz];exact R1 (X:=xs.flatten) (sp:=sp.map AV.c) (tl:=tl) (a:=i*5) (m:=5) (by omega) hy (by omega)) rfl ?_))
    exact Qg (Zq rfl (QW.move (.tmp rfl)) (Zq rfl (QW.assign (.tmp rfl)) (Zn (J.ret (thenQ.r (Zr [.p,.k] (RetEv.one rfl (REv.tmp rfl lr)) rfl ⟨_,rfl,_,rfl,rfl,rfl⟩))))))
  have hroom:xs.length+1≤cap+1:=by simp at c3;omega
  refine Zk (Zs (Zq rfl (QW.move (.tmp rfl)) (Zq rfl (QW.move (.tmp rfl)) (Zq rfl (QW.move (.tmp rfl)) (Zq rfl (QW.add (.tmp rfl) (.tmp rfl) (U5 (m:=xs.length+1) rfl (by omega))) (Zq rfl (Lo (h:=xs.length+1) QO Qj (.tmp rfl) (.tmp rfl) rfl (by omega)) (Zq rfl (QW.assign (.tmp rfl)) (Zn (J.seq ?_)))))))))
  refine Zs (Zq rfl (QW.move (.tmp rfl)) (Zq rfl (QW.move (.tmp rfl)) (Zq rfl (QW.move (.tmp rfl)) (Zq rfl (QW.move (.tmp rfl)) (Zq rfl (QW.add (.tmp rfl) (.tmp rfl) (U5 (m:=i+1) rfl (by omega))) (Zq rfl (WF (l:=i+1) (off':=i*5+5) QO Qj (.tmp rfl) (.tmp rfl) rfl (by omega) (by omega) (by rw[if_neg (by omega)];omega)) ?_))))))
  refine Zq rfl (TH 0 QO Qj Sk (.tmp rfl) (.tmp rfl) rfl (by intro h0;simp at h0;subst h0;simp at hy) (by intro h0;have:=congrArg List.length h0;rw[hBl]at this;simp at this)) ?_
  refine Zq rfl (QW.not (.tmp rfl)) (Zn ?_)
  refine J.cond (.tmp rfl) (fun c4=>?_) (fun c4=>absurd c4 (by simp))
  refine J.seq ?_
  have hml:(((xs.flatten++sp.map AV.c).drop (i*5)).take (xs.flatten.length-i*5)).length=xs.flatten.length-i*5:=by rw[List.length_take,List.length_drop,hBl];omega
  refine QY 8 Uc (by kernel_rfl) (by kernel_rfl) (by kernel_rfl) rfl ?_
  refine .cons [] rfl rfl rfl (.q rfl (QW.move (.tmp rfl))) ?_
  refine .cons [] rfl rfl rfl (.q rfl (QW.move (.tmp rfl))) ?_
  refine .cons [] rfl rfl rfl (.q rfl (QW.move (.tmp rfl))) ?_
  refine .cons [70,71] rfl rfl rfl (.q rfl (QW.add (.tmp rfl) (.tmp rfl) (U5 (m:=i+1) rfl (by omega)))) ?_
  refine .cons [69,72] rfl rfl rfl (.q rfl (WF (l:=i+1) (off':=i*5+5) QO Qj (.tmp rfl) (.tmp rfl) rfl (by omega) (by omega) (by rw[if_neg (by omega)];omega))) ?_
  refine .cons [] rfl rfl rfl (.q rfl (QW.move (.tmp rfl))) ?_
  refine .cons [] rfl rfl rfl (.q rfl (QW.move (.tmp rfl))) ?_
  refine .cons [74,75] rfl rfl rfl (.q rfl (WF (l:=i) (off':=i*5) QO Qj (.tmp rfl) (.tmp rfl) rfl (by omega) (by omega) (by rw[if_neg (by omega)];omega))) ?_
  refine .nil ?_
  refine YM 0 QO Qj (.tmp rfl) rfl (K2 (i2:=0) (mm:=xs.length-i) (q:=xs.flatten.length-i*5) (.tmp rfl) rfl (by omega) (by omega) (by rw[hBl];omega)) (by show min _ _=_;omega) (by rw[hBl,hml];omega) rfl ?_
  refine Zn (Zs (Zq rfl (QW.move (.tmp rfl)) (Zq rfl (QW.move (.tmp rfl)) (Zq rfl (WF (l:=i) (off':=i*5) QO Qj (.tmp rfl) (.tmp rfl) rfl (by omega) (by omega) (by rw[if_neg (by omega)];omega)) ?_))))
  refine Zq rfl (QW.move (.tmp rfl)) (YM 0 QO Qj (.tmp rfl) rfl (SrcN.one (.tmp rfl) rfl hy) (Nat.min_eq_left (by omega)) (by rw[QF (by rw[hBl,hml];omega),hBl,hy];omega) rfl ?_)
  refine Zn (J.seq (J.fold 0 (xs.take i++[ys]++xs.drop i) rfl (v:=sv b 0 (xs.length+1) (cap+1)) (by rw[Xn hi]) (by rw[Xn hi];omega) (NU hsz hy) (by rw[QF (by rw[QF (by rw[hBl,hml];omega),hBl,hy];omega),QF (by rw[hBl,hml];omega),hBl];rfl) (by rw[GS hsz hy,KA hsz];exact M6 (X:=xs.flatten) (sp:=sp.map AV.c) (a:=i*5) (m:=5) (by omega) hy (by rw[hBl];omega)) rfl ?_))
  exact Qg (Zq rfl (QW.move (.tmp rfl)) (Zq rfl (QW.assign (.tmp rfl)) (Zn (J.ret (thenQ.r (Zr [.p] (RetEv.one rfl (REv.tmp rfl lr)) rfl ⟨_,rfl,_,rfl,rfl,rfl⟩))))))

end
section
/- Walks: a new item in an owned value. -/
set_option maxRecDepth 10000
set_option maxHeartbeats 4000000
theorem Nc{v:V}{s:StT}{i:Nat}{e:Int}(h:v.fnd s=(i,e)):e=0∨(e=71∧s.isKey=true∧v.kind=5∧i≤v.keys.length)∨(e=82∧s.isKey=false∧v.kind=4∧i=0)∨(e=81∧i=0):=by
  unfold V.fnd at h
  split at h
  · rename_i h1
    split at h
    · rename_i h2
      split at h
      · exact .inl (congrArg Prod.snd h).symm
      · cases h;exact .inr (.inl ⟨rfl,h1,h2,Dd _ _⟩)
    · cases h;exact .inr (.inr (.inr ⟨rfl,rfl⟩))
  · rename_i h1
    split at h
    · rename_i h2
      split at h
      · cases h;exact .inr (.inr (.inl ⟨rfl,by simpa using h1,h2,rfl⟩))
      · exact .inl (congrArg Prod.snd h).symm
    · cases h;exact .inr (.inr (.inr ⟨rfl,rfl⟩))
def V.stp(u:V)(s:StT)(last:Bool):V×Nat×Int:=
  if(u.fnd s).2=0 then(u,(u.fnd s).1,0)else if last=true then(if(u.grw s (u.fnd s).1 (u.fnd s).2).2=0 then(u.ins s (u.grw s (u.fnd s).1 (u.fnd s).2).1 .nil,(u.grw s (u.fnd s).1 (u.fnd s).2).1,0)else(u,(u.grw s (u.fnd s).1 (u.fnd s).2).1,(u.grw s (u.fnd s).1 (u.fnd s).2).2))
  else(u,(u.fnd s).1,(u.fnd s).2)
def GrowR(z:At)(s:StT):AV→List Own→Prop:=fun x o=>∃kv iv ok oi,x=.tup [.c (.int .i64 ((z.u.stp s true).2.1:Int)),.c (.int .i64 (z.u.stp s true).2.2)]∧o=[.box z.b (Yk z (z.u.stp s true).1 kv iv),ok,oi]∧VTr (z.u.stp s true).1 kv iv ok oi
theorem GrowR.no{z:At}{s:StT}{i m:Nat}{e f:Int}{ok oi:Own}{o:List Own}(h:z.u.fnd s=(i,e))(he:e≠0)(hg:z.u.grw s i e=(m,f))(hf:f≠0)(ho:o=[.box z.b (Yk z z.u z.kv z.iv),ok,oi])(hV:VTr z.u z.kv z.iv ok oi):GrowR z s (.tup [.c (.int .i64 (m:Int)),.c (.int .i64 f)]) o:=by
  have:z.u.stp s true=(z.u,m,f):=by simp[V.stp,h,he,hg,hf]
  exact⟨z.kv,z.iv,ok,oi,by rw[this],by rw[this];exact ho,by rw[this];exact hV⟩
theorem GrowR.yes{z:At}{s:StT}{i m:Nat}{e:Int}{kv iv:Value}{ok oi:Own}{o:List Own}(h:z.u.fnd s=(i,e))(he:e≠0)(hg:z.u.grw s i e=(m,0))(ho:o=[.box z.b (Yk z z.u kv iv),ok,oi])(hV:VTr (z.u.ins s m .nil) kv iv ok oi):GrowR z s (.tup [.c (.int .i64 (m:Int)),.c (.int .i64 0)]) o:=by
  have:z.u.stp s true=(z.u.ins s m .nil,m,0):=by simp[V.stp,h,he,hg]
  exact⟨kv,iv,ok,oi,by rw[this],by rw[this];exact ho,by rw[this];exact hV⟩
theorem CN{z:At}{u:V}{kv kv2 iv:Value}(h:z.pre.length=z.off):QT (Yk z u kv iv) (z.off+3) [.c kv2]=Yk z u kv2 iv:=(R2 h (by decide)).trans (by rw[YI];rfl)
theorem CO{z:At}{u:V}{kv iv iv2:Value}(h:z.pre.length=z.off):QT (Yk z u kv iv) (z.off+4) [.c iv2]=Yk z u kv iv2:=(R2 h (by decide)).trans (by rw[YI];rfl)
theorem RA:∀{ks:List Ui} {us:List Value} {o:Own},TrL (Q6 ks).flatten us o→us=ks.map Um
  |[],us,o,h=>by cases h;rfl
  |s::ks,us,o,h=>by
    simp only[Q6,List.map_cons,List.flatten_cons,List.singleton_append]at h
    cases h with
    |cons h1 h2 ho=>rw[h1.c_inv,RA h2];rfl
theorem MW:∀{cs:List (List AV)} {ks:List Ui},(∀x∈cs,x.length=1)→cs.flatten=(ks.map Um).map AV.c→cs=Q6 ks
  |[],[],_,_=>rfl
  |[],_::_,_,h=>by simp at h
  |c::cs,ks,h1,h=>by
    obtain⟨x,rfl⟩:=List.length_eq_one_iff.1 (h1 c (by simp))
    cases ks with
    |nil=>simp at h
    |cons k ks=>
      simp only[List.flatten_cons,List.singleton_append,List.map_cons,List.cons.injEq]at h
      rw[MW (fun x hx=>h1 x (by simp[hx])) h.2,h.1]
      rfl
theorem Sy{cs:List (List AV)}{ks:List Ui}{us:List Value}{o:Own}(h1:cs.flatten=us.map AV.c)(h3:∀x∈cs,x.length=1)(h:TrL (Q6 ks).flatten us o):cs=Q6 ks:=by
  rw[RA h]at h1
  exact MW h3 h1
def Su:List AV:=[.c (.int .i64 0),.c (.int .u64 0),.c (Um []),.c (.slice none 0 0),.c (.slice none 0 0)]
theorem TI(e:We):OwnEq (.grp [.arr (.slice none 0 0) e [],.grp []]) (.grp []):=⟨fun b=>by simp[Own.fp,Yp,Gd],fun w A=>by
  simp only[Xb,List.forall_mem_cons,List.not_mem_nil,false_implies,implies_true,and_true,iff_true]
  exact .inl ⟨_,rfl,rfl⟩⟩
theorem RS(e:We):Tr (.sl true false e []) (.slice none 0 0) (.grp []):=.sl (us:=[]) (o:=.grp []) rfl rfl (fun _ h=>by cases h) (fun _ h=>by cases h) rfl (by simp) (.nil (.refl _)) (TI e)
theorem El:VTr .nil (.slice none 0 0) (.slice none 0 0) (.grp []) (.grp []):=⟨rfl,rfl,RS WZ,RS eV⟩
theorem ins_tr{is:List V}{cs:List (List AV)}{us:List Value}{o:Own}{m:Nat}{v:Value}(hm:m≤is.length)(hl:cs.length=is.length)(h3:∀x∈cs,x.length=5)(hf:cs.flatten=us.map AV.c)(h1:us.all (·.oneCell')=true)(h:TrL (V.css true is).flatten us o)(h6:(is.length+1)*80≤Qu):
    Tr (.sl true false eV (V.css true (is.take m++[V.nil]++is.drop m))) v (.grp [.arr v eV (cs.take m++[Su]++cs.drop m),o]):=by
  have hsp:(V.css true is).flatten=(V.css true (is.take m)).flatten++(V.css true (is.drop m)).flatten:=by
    rw[← List.flatten_append,← V.css_append,List.take_append_drop]
  rw[hsp]at h
  obtain⟨u1,u2,o1,o2,rfl,g1,g2,g3⟩:=h.split
  rw[List.all_append,Bool.and_eq_true]at h1
  have hlen:(cs.take m).flatten.length=u1.length:=by
    rw[← g1.length,QP (sz:=5) _ (fun x hx=>h3 x (List.mem_of_mem_take hx)),QP (sz:=5) _ (V.css_sz true _),V.css_length,List.length_take,List.length_take,hl]
  have hf2:(cs.take m).flatten++(cs.drop m).flatten=u1.map AV.c++u2.map AV.c:=by
    rw[← List.flatten_append,List.take_append_drop,hf,List.map_append]
  obtain⟨k1,k2⟩:=List.append_inj hf2 (by simpa using hlen)
  have htl:TrL (V.css true (is.take m++[V.nil]++is.drop m)).flatten (u1++V.vals .nil (.slice none 0 0) (.slice none 0 0)++u2) o:=by
    rw[V.css_append,V.css_append,List.flatten_append,List.flatten_append]
    have hn:(V.css true [V.nil]).flatten=V.nil.cs true:=by simp[V.css]
    rw[hn]
    refine(g1.append El.trL (o'':=o1) ?_).append g2 g3
    refine(OwnEq.grp_perm (List.Perm.swap _ _ _)).trans (OwnEq.trans (.cons ?_ (.refl _)) (OwnEq.drops _))
    exact(Yd [] [.grp []]).trans (OwnEq.one _)
  refine GQ (us:=u1++V.vals .nil (.slice none 0 0) (.slice none 0 0)++u2) ?_ ?_ ?_ ?_ ?_ htl
  · rw[List.flatten_append,List.flatten_append,k1,k2,List.map_append,List.map_append]
    rfl
  · simp only[List.length_append,List.length_take,List.length_drop,List.length_singleton];omega
  · intro x hx
    simp only[List.mem_append,List.mem_singleton]at hx
    rcases hx with (hx|rfl)|hx
    · exact h3 x (List.mem_of_mem_take hx)
    · rfl
    · exact h3 x (List.mem_of_mem_drop hx)
  · rw[List.all_append,List.all_append,h1.1,h1.2,El.ones];rfl
  · simp only[List.length_append,List.length_take,List.length_drop,List.length_singleton];unfold Qu at h6⊢;omega
theorem Dg(ks:List Ui)(s:Ui)(m:Nat):(Q6 ks).take m++[[.c (Um s)]]++(Q6 ks).drop m=Q6 (ks.take m++[s]++ks.drop m):=by simp[Q6,List.map_take,List.map_drop]
theorem SD{z:At}{s:StT}{zs:List AV}{i:Nat}{e:Int}(hs:Sc s zs)(ho:z.pre.length=z.off)(hV:VTr z.u z.kv z.iv z.ok z.oi)(hp:Ub z.u=true)(hw:z.u.wf)(hsw:s.wf)(hie:z.u.fnd s=(i,e))(he0:e≠0):AC Tryz.prog 77 [.box z.b (Yk z z.u z.kv z.iv),z.ok,z.oi] [.c (.pointer (some ⟨z.b,z.off,none⟩)),.agg zs,.c (.int .i64 (i:Int)),.c (.int .i64 e)] (Ww (GrowR z s)):=by
  subst hs
  obtain⟨l1,l2⟩:=Xa hp
  have hcs:=(Nc hie).resolve_left he0
  obtain⟨ck,uk,o1,p1,p2,p3,p4,p5,p6⟩:=hV.ks.inv
  obtain⟨ci,ui,o2,q1,q2,q3,q4,q5,q6⟩:=hV.is.inv
  obtain rfl:=Sy p1 p3 p5
  rw[V.css_length]at q2
  have hkr:z.u.keys.length*16≤Qu:=by unfold Qu;omega
  have hir:z.u.items.length*80≤Qu:=by unfold Qu;omega
  have hV2:VTr z.u z.kv z.iv (.arr z.kv WZ (Q6 z.u.keys)) (.grp [.arr z.iv eV ci,o2]):=⟨hV.k1,hV.i1,H9 hkr,GQ q1 q2 q3 q4 hir q5⟩
  refine AC.of_J Tryz.func77 rfl Tryz.ntmps77 rfl fun w0 A0=>?_
  refine J.seq (J.reown (Reown.cons (TA p6 q6)) (Qg (Qp (.tmp rfl) rfl fun b5=>Zq rfl (QW.assign .const) (Zq rfl (QW.assign .const) (Zn (Rq (ι:=Nat) [0,5] (fun m=>[(2,.c (.int .i64 (m:Int)))]) (fun m oo=>oo) (fun m=>z.u.grw s i e=(if 32≤z.u.items.length then(0,3)else(m,0))∧m≤z.u.items.length∧(s.isKey=true→m≤z.u.keys.length)) ?_ ?_))))))
  · skip
    refine J.block (Zs (Zq rfl (QW.move (.tmp rfl)) (Zq rfl (QW.eql (.tmp rfl) .const) (Zq rfl (QW.move (.tmp rfl)) (Zg rfl (fun hg=>(Qa Dx (.tmp rfl) rfl)) (Zg rfl (fun hg=>(Qb 0 U9 (.when rfl hg) rfl rfl)) (Zg rfl (fun hg=>(QW.call BG (.cons (.when rfl hg) .nil) (Bu _))) (Zg rfl (fun hg=>(QW.not (.when rfl hg))) (Zq rfl (QW.pick_and (.tmp rfl) (.tmp rfl)) ?_)))))))))
    refine Zq rfl (QW.assign (.tmp rfl)) (Zn ?_)
    refine J.cond (.tmp rfl) (fun c1=>?_) (fun c1=>?_)
    · skip
      have ht1:e=71∧Kh s.key=false:=by simpa using c1
      exact J.seq (J.reown (Reown.cons (Reown.cons (Reown.cons (Yb _ _ _)))) (Qg (Zq rfl (QW.assign .const) (Zq rfl (QW.assign .const) (Zn (J.ret (blkQ.r (thenQ.r (Zr [.k,.p,.p,.p] (QB rfl (REv.tmp rfl lr) (REv.tmp rfl lr)) rfl ⟨_,rfl,GrowR.no (m:=0) (f:=31) hie he0 (by unfold V.grw;rw[if_pos ht1]) (by decide) rfl hV2⟩)))))))))
    have hf1:¬(e=71∧Kh s.key=false):=by intro hh;simp[hh.1,hh.2]at c1
    refine J.seq (QY 10 Uc (by kernel_rfl) (by kernel_rfl) (by kernel_rfl) rfl ?_)
    refine .cons [] rfl rfl rfl (.q rfl (QW.move (.tmp rfl))) ?_
    refine .cons [20] rfl rfl rfl (.q rfl (QW.eql (.tmp rfl) .const)) ?_
    refine .cons [21] rfl rfl rfl (.q rfl (QW.move (.tmp rfl))) ?_
    refine .cons [22] rfl rfl rfl (.g rfl rfl rfl (fun hg=>(Qa L3 (.tmp rfl) rfl))) ?_
    refine .cons [23,22] rfl rfl rfl (.g rfl rfl rfl (fun hg=>(Qb 0 UQ (.when rfl hg) rfl rfl))) ?_
    refine .cons [22] rfl rfl rfl (.g rfl rfl rfl (fun hg=>(QW.move (.tmp rfl)))) ?_
    refine .cons [25,22] rfl rfl rfl (.g rfl rfl rfl (fun hg=>(QG (.when rfl hg)))) ?_
    refine .cons [26,22] rfl rfl rfl (.g rfl rfl rfl (fun hg=>(Qa Ud (.when rfl hg) rfl))) ?_
    refine .cons [27,22] rfl rfl rfl (.g rfl rfl rfl (fun hg=>(Qb 1 U4 (.when rfl hg) rfl ((KU ho 4 (by decide)).trans rfl)))) ?_
    refine .cons [28,22] rfl rfl rfl (.g rfl rfl rfl (fun hg=>(Yc 3 QO (.when rfl hg) rfl))) ?_
    refine .nil ?_
    refine Zg rfl (fun hg=>(QW.eql (.when rfl hg) (.when rfl hg))) (Zq rfl (QW.pick_and (.tmp rfl) (.tmp rfl)) (Zq rfl (QW.assign (.tmp rfl)) (Zn ?_)))
    refine J.cond (.tmp rfl) (fun c2=>?_) (fun c2=>?_)
    · skip
      have ht2:e=82∧s.index=(z.u.items.length:Int):=by simpa[q2]using c2
      refine Qg (Zq rfl (Qa L3 (.tmp rfl) rfl) (Zq rfl (Qb 0 UQ (.tmp rfl) rfl rfl) (Zq rfl (QW.assign (.tmp rfl)) (JL.nil (blkQ.n (thenQ.n ?_))))))
      exact⟨z.u.items.length,⟨by unfold V.grw;rw[if_neg hf1,if_pos ht2],Nat.le_refl _,fun hk=>absurd hk (by rcases hcs with h|h|h;(exact absurd (h.1.symm.trans ht2.1) (by decide));(rw[h.2.1];decide);(exact absurd (h.1.symm.trans ht2.1) (by decide)))⟩,QK (.cons rfl (Rn ht2.2) (.cons rfl lr (.cons rfl lr .nil))) (Reown.refl _) (fun _ h=>by first|exact h|simp[h])⟩
    have hf2:¬(e=82∧s.index=(z.u.items.length:Int)):=by intro hh;simp[hh.1,hh.2,q2]at c2
    refine Zs (Zq rfl (QW.move (.tmp rfl)) (Zq rfl (QW.neq (.tmp rfl) .const) (Zq rfl (QW.assign (.tmp rfl)) (Zn ?_))))
    refine J.cond (.tmp rfl) (fun c3=>?_) (fun c3=>?_)
    · skip
      have ht3:e≠71:=by simpa using c3
      exact J.seq (J.reown (Reown.cons (Reown.cons (Reown.cons (Yb _ _ _)))) (Qg (Zq rfl (QW.move (.tmp rfl)) (Zq rfl (QW.assign .const) (Zq rfl (QW.assign (.tmp rfl)) (Zn (J.ret (blkQ.r (thenQ.r (Zr [.k,.p,.p,.p] (QB rfl (REv.tmp rfl lr) (REv.tmp rfl lr)) rfl ⟨_,rfl,GrowR.no (m:=0) (f:=e) hie he0 (by unfold V.grw;rw[if_neg hf1,if_neg hf2,if_pos ht3]) (by assumption) rfl hV2⟩))))))))))
    have h71:e=71:=by simpa using c3
    have h5:s.isKey=true∧z.u.kind=5∧i≤z.u.keys.length:=by
      rcases hcs with h|h|h
      · exact h.2
      · exact absurd (h.1.symm.trans h71) (by decide)
      · exact absurd (h.1.symm.trans h71) (by decide)
    have hkl:=(XZ hp h5.2.1).1
    refine J.skip (blkQ.n (thenQ.n ?_))
    exact⟨i,⟨by unfold V.grw;rw[if_neg hf1,if_neg hf2,if_neg (by simp[h71])],by omega,fun _=>h5.2.2⟩,QK (.cons rfl lr (.cons rfl lr (.cons rfl lr .nil))) (Reown.refl _) (fun _ h=>by first|exact h|simp[h])⟩
  · intro m ⟨hgm,hmi,hmk⟩
    refine J.conv (by(try simp only[nl,Qk,Qz,QA,Qy,QR,AV.cellsOf,Qd,Qe,Nat.reduceAdd]);rfl) ?_
    refine J.seq (Zs (Zq rfl (QW.move (.tmp rfl)) (Zq rfl (QG (.tmp rfl)) (Zq rfl (Qa Ud (.tmp rfl) rfl) (Zq rfl (Qb 1 U4 (.tmp rfl) rfl ((KU ho 4 (by decide)).trans rfl)) ?_)))))
    refine Zq rfl (Yc 3 QO (.tmp rfl) rfl) (Zq rfl (QW.geq (.tmp rfl) .const) (Zn ?_))
    refine J.cond (.tmp rfl) (fun c1=>?_) (fun c1=>?_)
    · skip
      have h32:32≤z.u.items.length:=by(simp[q2]at c1;omega)
      exact J.seq (J.reown (Reown.cons (Reown.cons (Reown.cons (Yb _ _ _)))) (Qg (Zq rfl (QW.assign .const) (Zq rfl (QW.assign .const) (Zn (J.ret (thenQ.r (Zr [.k,.p,.p,.p] (QB rfl (REv.tmp rfl lr) (REv.tmp rfl lr)) rfl ⟨_,rfl,GrowR.no (m:=0) (f:=3) hie he0 (by rw[hgm,if_pos h32]) (by decide) rfl hV2⟩))))))))
    have h32:¬32≤z.u.items.length:=by(simp[q2]at c1;omega)
    refine Zk (Rq (ι:=Value×List Ui) [0,2] (fun⟨kv2,ks2⟩=>[]) (fun⟨kv2,ks2⟩ oo=>List.set (List.set oo 1 (.box z.b (Yk z z.u kv2 z.iv))) 2 (.arr kv2 WZ (Q6 ks2))) (fun⟨kv2,ks2⟩=>kv2.oneCell'=true∧ks2=(if s.isKey=true then z.u.keys.take m++[s.key]++z.u.keys.drop m else z.u.keys)) ?_ ?_)
    · skip
      refine Zs (Zq rfl (Qa N5 (.tmp rfl) rfl) (Zq rfl (Qb 0 PZ (.tmp rfl) rfl rfl) (Zn ?_)))
      refine J.cond (.tmp rfl) (fun c2=>?_) (fun c2=>?_)
      · skip
        have hK:s.isKey=true:=c2
        refine W6 10 1 (fun os_ ow_ x_ o_=>match os_ with|[]=>(∃o2_,(GC WZ ((Q6 z.u.keys).take m++[[.c (Um s.key)]]++(Q6 z.u.keys).drop m)) x_ o2_∧o_=QR [.k,.k,.p] o2_ ow_)|_=>False) Uc (by kernel_rfl) (by kernel_rfl) (by kernel_rfl) rfl ?_
        refine OutK.quiet [] rfl rfl rfl (fun qs_ qv_ ql_=>(.q rfl (QW.move (.tmp rfl)))) ?_
        refine OutK.quiet [] rfl rfl rfl (fun qs_ qv_ ql_=>(.q rfl (QW.move (.tmp rfl)))) ?_
        refine OutK.quiet [47] rfl rfl rfl (fun qs_ qv_ ql_=>(.q rfl (QG (.tmp rfl)))) ?_
        refine OutK.quiet [48] rfl rfl rfl (fun qs_ qv_ ql_=>(.q rfl (Qa U6 (.tmp rfl) rfl))) ?_
        refine OutK.quiet [49] rfl rfl rfl (fun qs_ qv_ ql_=>by
            rcases qs_ with _|⟨⟨y0,p0⟩,qs_⟩
            · skip
              exact(.q rfl (Qb 1 YO (.tmp rfl) rfl ((KU ho 3 (by decide)).trans rfl)))
            rcases qs_ with _|⟨⟨y1,p1⟩,qs_⟩
            · skip
              obtain⟨hr0,_⟩:=qv_
              obtain⟨o55,⟨v55,rfl,hs55,rfl⟩,rfl⟩:=hr0
              exact(.q rfl (Qb 1 YO (.tmp rfl) rfl ((KU ho 3 (by decide)).trans rfl)))
            exact absurd ql_ (by simp)) ?_
        refine OutK.quiet [] rfl rfl rfl (fun qs_ qv_ ql_=>(.q rfl (QW.move (.tmp rfl)))) ?_
        refine OutK.quiet [] rfl rfl rfl (fun qs_ qv_ ql_=>(.q rfl (Qa Dx (.tmp rfl) rfl))) ?_
        refine OutK.quiet [52] rfl rfl rfl (fun qs_ qv_ ql_=>by
            rcases qs_ with _|⟨⟨y0,p0⟩,qs_⟩
            · skip
              exact(.q rfl (Qb 0 U9 (.tmp rfl) rfl rfl))
            rcases qs_ with _|⟨⟨y1,p1⟩,qs_⟩
            · skip
              obtain⟨hr0,_⟩:=qv_
              obtain⟨o55,⟨v55,rfl,hs55,rfl⟩,rfl⟩:=hr0
              exact(.q rfl (Qb 0 U9 (.tmp rfl) rfl rfl))
            exact absurd ql_ (by simp)) ?_
        refine OutK.quiet [53] rfl rfl rfl (fun qs_ qv_ ql_=>(.q rfl (QW.buildSlice (idx:=[0]) (xs:=[[.c (Um s.key)]]) UC el9 z9 rfl (.cons (.tmp rfl) .nil) rfl rfl rfl rfl rfl rfl rfl rfl rfl))) ?_
        refine OutK.loud [50,51,54] rfl rfl rfl rfl rfl (fun qs_ qv_ ql_=>by
            obtain rfl:qs_=[]:=List.length_eq_zero_iff.1 ql_
            exact LStepR.callRF (d:=55) [.k,.k,.p] gofn88 Lent.nil (fun _=>(.cons (.tmp rfl) (.cons (.tmp rfl) (.cons (.tmp rfl) .nil)))) (CL (xs:=Q6 z.u.keys) (i:=m) (by rw[Qo];exact hmk hK) rfl (by rw[Qo];unfold Qu;omega)) (.inl rfl)) ?_
        refine .nil fun qs_ qv_ ql_=>?_
        obtain⟨⟨y0,p0⟩,qs_,rfl⟩:∃p t,qs_=p::t:=by(cases qs_ with|nil=>simp at ql_|cons p t=>exact⟨p,t,rfl⟩)
        obtain rfl:qs_=[]:=List.length_eq_zero_iff.1 (by simpa using ql_)
        obtain⟨hr0,_⟩:=qv_
        obtain⟨o55,⟨v55,rfl,hs55,rfl⟩,rfl⟩:=hr0
        refine JL.conv (by(try simp only[nl,Qk,Qz,QA,Qy,QR,AV.cellsOf,Qd,Qe,Nat.reduceAdd]);rfl) ?_
        refine Zq rfl (QG (.tmp rfl)) (Zq rfl (Qa U6 (.tmp rfl) rfl) (JL.store_box 1 YO (.tmp rfl) rfl (.tmp rfl) (by assumption) rfl (by rw[LR _ _ _ _ ho];exact Nat.ble_eq_true_of_le (by omega)) (CN ho) rfl ?_))
        refine Zn ?_
        exact⟨⟨v55,z.u.keys.take m++[s.key]++z.u.keys.drop m⟩,⟨hs55,by rw[if_pos hK]⟩,QK (.cons rfl lr (.cons rfl lr .nil)) (Reown.ofEq (by show [_,Own.box z.b _,Own.arr v55 WZ _,_,_]=_;rw[Dg];rfl)) (fun _ h=>by first|exact h|simp[h])⟩
      have hK:s.isKey=false:=c2
      refine Zk ?_
      exact⟨⟨z.kv,z.u.keys⟩,⟨hV.k1,by rw[if_neg (by simp[hK])]⟩,QK (.cons rfl lr (.cons rfl lr .nil)) (Reown.refl _) (fun _ h=>by first|exact h|simp[h])⟩
    · intro⟨kv2,ks2⟩ ⟨hk2,hks2⟩
      refine J.conv (by(try simp only[nl,Qk,Qz,QA,Qy,QR,AV.cellsOf,Qd,Qe,Nat.reduceAdd]);rfl) ?_
      refine Zs (Zq rfl (QW.move (.tmp rfl)) (Zq rfl (QW.move (.tmp rfl)) (Zq rfl (QG (.tmp rfl)) (Zq rfl (Qa Ud (.tmp rfl) rfl) (Zq rfl (Qb 1 U4 (.tmp rfl) rfl ((KU ho 4 (by decide)).trans rfl)) ?_)))))
      refine Zq rfl (QW.move (.tmp rfl)) (Zq rfl (QW.build (idx:=[]) Xt WQ rfl .nil rfl rfl rfl rfl) (Zq rfl (QW.buildSlice (idx:=[0]) (xs:=[Su]) QO K6 WQ rfl (.cons (.tmp rfl) .nil) rfl rfl rfl rfl rfl rfl rfl rfl rfl) (JL.callRF [.k,.k,.k,.p] gofn89 rfl Lent.nil (fun _=>(.cons (.tmp rfl) (.cons (.tmp rfl) (.cons (.tmp rfl) .nil)))) (CK (xs:=ci) (i:=m) (by omega) rfl (by unfold Qu;omega)) (.inl rfl) fun x66 o66 h66=>?_)))
      obtain⟨v66,rfl,hs66,rfl⟩:=h66
      refine Zq rfl (QG (.tmp rfl)) (Zq rfl (Qa Ud (.tmp rfl) rfl) (JL.store_box 1 U4 (.tmp rfl) rfl (.tmp rfl) (by assumption) rfl (by rw[LR _ _ _ _ ho];exact Nat.ble_eq_true_of_le (by omega)) (CO ho) rfl ?_))
      exact Zn (J.seq (J.reown (Reown.cons (Reown.cons (Reown.cons (Yb _ _ _)))) (Qg (Zq rfl (QW.move (.tmp rfl)) (Zq rfl (QW.assign (.tmp rfl)) (Zq rfl (QW.assign .const) (Zn (J.ret (Zr [.k,.p,.p,.p] (QB rfl (REv.tmp rfl lr) (REv.tmp rfl lr)) rfl ⟨_,rfl,GrowR.yes (m:=m) hie he0 (by rw[hgm,if_neg h32]) rfl ⟨hk2,hs66,by(rw[show(z.u.ins s m .nil).keys=ks2 from hks2.symm];exact H9 (by rw[hks2];split<;>((try simp only[List.length_append,List.length_take,List.length_drop,List.length_singleton]);unfold Qu;omega))),ins_tr hmi q2 q3 q1 q4 q5 (by unfold Qu;omega)⟩⟩)))))))))

end
section
/- Walks: a part of a value is another one. -/
set_option maxRecDepth 10000
set_option maxHeartbeats 4000000
theorem DV:V.nil.Fine:=.mk rfl fun _ h=>by cases h
theorem Fh{u:V}{s:StT}{m:Nat}(hm:m≤u.items.length):∃h:m<(u.ins s m .nil).items.length,(u.ins s m .nil).items[m]=.nil:=by
  have hl:m<(u.items.take m++[V.nil]++u.items.drop m).length:=by simp;omega
  refine⟨hl,?_⟩
  show(u.items.take m++[V.nil]++u.items.drop m)[m]'hl=.nil
  simp[List.getElem_append,Nat.min_eq_left hm]
theorem Fg{u x:V}{s:StT}{m:Nat}(hm:m≤u.items.length):(u.ins s m .nil).setAt m x=u.ins s m x:=by
  obtain⟨k,b,t,ks,is⟩:=u
  simp only[V.items]at hm
  simp only[V.setAt,V.ins,V.kind,V.bits,V.text,V.keys,V.items]
  congr 1
  rw[List.append_assoc,List.set_append_right _ _ (by simp;omega)]
  simp[Nat.min_eq_left hm]
theorem PI{u:V}{s:StT}{i m:Nat}{e:Int}(hp:Ub u=true)(h:u.fnd s=(i,e))(he:e≠0)(hg:u.grw s i e=(m,0)):m≤u.items.length:=by
  unfold V.grw at hg
  split at hg
  · cases hg
  · split at hg
    · split at hg
      · cases hg
      · cases hg;exact Nat.le_refl _
    · split at hg
      · rename_i h1 h2 h3
        cases hg;exact absurd rfl he
      · rename_i h3
        split at hg
        · cases hg
        · cases hg
          have h71:e=71:=Decidable.byContradiction h3
          rcases Nc h with h|h|h|h
          · exact absurd h he
          · have:=(XZ hp h.2.2.1).1;omega
          · omega
          · omega
theorem PG{u u2 x:V}{s:StT}{r:List StT}{i2:Nat}{e2:Int}(h:u.stp s (decide (r=[]))=(u2,i2,e2))(he:e2≠0):u.set (s::r) x=(.nil,e2):=by
  unfold V.stp at h
  split at h
  · cases h;exact absurd rfl he
  · rename_i h0
    split at h
    · rename_i hr
      have hr:r=[]:=by simpa using hr
      subst hr
      split at h
      · cases h;exact absurd rfl he
      · rename_i hg
        cases h
        show u.put s x=_
        rw[V.put,if_neg h0,if_neg hg]
    · rename_i hr
      cases h
      cases r with
      |nil=>simp at hr
      |cons t r=>rw[V.set,if_pos h0]
theorem Fc{u u2 x:V}{s:StT}{r:List StT}{i2:Nat}(hf:u.Fine)(hw:u.wf)(hs:s.wf)(h:u.stp s (decide (r=[]))=(u2,i2,0)):
    ∃hlt:i2<u2.items.length,u2.wf∧u2.items[i2].Fine∧u.set (s::r) x=if(u2.items[i2].set r x).2≠0 then(.nil,(u2.items[i2].set r x).2)else(u2.setAt i2 (u2.items[i2].set r x).1,0):=by
  unfold V.stp at h
  split at h
  · rename_i h0
    cases h
    have hlt:=G8 hf.part h0
    refine⟨hlt,hw,hf.kid (List.getElem_mem hlt),?_⟩
    cases r with
    |nil=>show u.put s x=_;rw[V.put,if_pos h0];rfl
    |cons t r=>rw[V.set,if_neg (by simp[h0]),Tx hlt]
  · rename_i h0
    split at h
    · rename_i hr
      have hr:r=[]:=by simpa using hr
      subst hr
      split at h
      · rename_i hg
        cases h
        have hm:=PI (m:=(u.grw s (u.fnd s).1 (u.fnd s).2).1) hf.part (i:=(u.fnd s).1) (e:=(u.fnd s).2) rfl h0 (Prod.ext rfl hg)
        obtain⟨hlt,hnil⟩:=Fh (s:=s) hm
        refine⟨hlt,Ty hw hf.part hs Wv,by rw[hnil];exact DV,?_⟩
        show u.put s x=if(V.set _ [] x).2≠0 then _ else(V.setAt _ _ x,0)
        rw[V.put,if_neg h0,if_pos hg,Fg hm]
        rfl
      · rename_i hg
        have:=congrArg (·.2.2) h
        exact absurd this hg
    · have:=congrArg (·.2.2) h
      exact absurd this h0
def LH(f:V→V)(w:V×Int):V×Int:=if w.2≠0 then(.nil,w.2)else(f w.1,0)
theorem F1(w:V×Int)(h:w.2≠0→w.1=.nil):LH id w=w:=by
  unfold LH
  split
  · rename_i h0;rw[← h h0]
  · rename_i h0
    have:w.2=0:=Decidable.byContradiction h0
    exact Prod.ext rfl this.symm
theorem Fe:∀{p:List StT} {v x:V},(v.set p x).2≠0→(v.set p x).1=.nil
  |[],v,x,h=>absurd rfl h
  |[s],v,x,h=>by
    change (v.put s x).2≠0 at h
    show(v.put s x).1=.nil
    unfold V.put at h⊢
    split
    · rename_i h0;rw[if_pos h0]at h;exact absurd rfl h
    · rename_i h0
      rw[if_neg h0]at h
      split
      · rename_i h1;rw[if_pos h1]at h;exact absurd rfl h
      · rfl
  |s::t::r,v,x,h=>by
    unfold V.set at h⊢
    split
    · rfl
    · rename_i h0
      rw[if_neg h0]at h
      split
      · rfl
      · rename_i h1;rw[if_neg h1]at h;exact absurd rfl h
theorem F0(f:V→V)(u:V)(i:Nat)(w:V×Int):LH f (if w.2≠0 then(.nil,w.2)else(u.setAt i w.1,0))=LH (fun z=>f (u.setAt i z)) w:=by
  unfold LH
  by_cases h:w.2=0
  · simp[h]
  · simp[h]
theorem FG{v x w:V}{p:List StT}{e:Int}(hv:v.err=0)(hx:x.err=0)(h:v.set p x=(w,e))(he:e≠0):v.setv p x=(.nil,e):=by rw[V.setv,if_neg (by simp[hv]),if_neg (by simp[hx]),h,if_pos he]
theorem FH{v x w:V}{p:List StT}(hv:v.err=0)(hx:x.err=0)(h:v.set p x=(w,0))(he:w.err≠0):v.setv p x=(.nil,w.err):=by rw[V.setv,if_neg (by simp[hv]),if_neg (by simp[hx]),h,if_neg (by simp),if_pos he]
theorem P7{v x w:V}{p:List StT}(hv:v.err=0)(hx:x.err=0)(h:v.set p x=(w,0))(he:w.err=0):v.setv p x=(w,0):=by rw[V.setv,if_neg (by simp[hv]),if_neg (by simp[hx]),h,if_neg (by simp),if_neg (by simp[he])]
def FK(v:V)(p:List StT)(x:V):AV:=.tup [.agg ((v.setv p x).1.cs true),.c (.int .i64 (v.setv p x).2)]
theorem GK{v u x:V}{p:List StT}{e:Int}(h:v.setv p x=(u,e)):FK v p x=.tup [.agg (u.cs true),.c (.int .i64 e)]:=by rw[FK,h]
theorem R6(v:V)(s:StT):TM (EP v s):=.tup (FlL.cons (.c _) (FlL.cons (.c _) .nil))
theorem DX(a b c d:Own)(l:List Own):Reown (a::b::c::d::l) (b::c::d::a::l):=.perm (List.perm_middle (l₁:=[b,c,d])).symm
theorem Reown.step{cur ok bx ctx kids ok3 oi3 ob oa:Own}(h:Reown [kids] [ok3,oi3,ob,oa]):Reown [cur,ok,bx,ctx,kids] [bx,ok3,oi3,.grp [cur,ok,ob,oa,ctx]]:=by
  refine(Reown.left (c:=[cur,ok,bx,ctx]) h).trans ⟨fun y=>by simp only[QV,UT,Xx,List.count_append,List.count_nil,List.cons_append,List.nil_append];omega,fun w A h=>?_⟩
  simp only[List.forall_mem_cons,List.cons_append,List.nil_append,Xb,List.not_mem_nil,false_implies,implies_true,and_true]at h⊢
  obtain⟨q1,q2,q3,q4,q5,q6,q7,q8⟩:=h
  exact⟨q3,q5,q6,q1,q2,q7,q8,q4⟩
theorem Reown.fin{cur ok oi ctx okx oix:Own}{l:List Own}(h:Reown [cur,okx,oix,ctx] l):Reown [cur,ok,oi,ctx,okx,oix] l:=by
  refine Reown.trans ⟨fun y=>by simp only[QV,UT,List.count_append,List.count_nil];omega,fun w A h=>?_⟩ h
  simp only[List.forall_mem_cons,List.not_mem_nil,false_implies,implies_true,and_true]at h⊢
  exact⟨h.1,h.2.2.2.2.1,h.2.2.2.2.2,h.2.2.2.1⟩
theorem Si{fr:Bool}{v x:V}{j:Nat}(h:j<2):((v.cs fr++x.cs fr).drop (j*5)).take 5=(if j=0 then v else x).cs fr:=by
  have h1:=V.cs_length fr v
  have h2:=V.cs_length fr x
  rcases Nat.lt_or_ge j 1 with h0|h0
  · obtain rfl:j=0:=by omega
    rw[Nat.zero_mul,List.drop_zero,List.take_left' h1];rfl
  · obtain rfl:j=1:=by omega
    rw[Nat.one_mul,List.drop_left' h1,List.take_of_length_le (by omega)];rfl
theorem PB{cs:List (List AV)}{sp:List Value}{i:Nat}{c:List AV}(h:cs[i]? =some c):cs.flatten++sp.map AV.c=(cs.take i).flatten++c++((cs.drop (i+1)).flatten++sp.map AV.c):=by
  obtain⟨hi,rfl⟩:=List.getElem?_eq_some_iff.1 h
  have h2:=congrArg List.flatten (show cs=cs.take i++cs[i]::cs.drop (i+1) by rw[← List.drop_eq_getElem_cons hi,List.take_append_drop])
  rw[List.flatten_append,List.flatten_cons]at h2
  rw[h2]
  simp only[List.append_assoc]
theorem T0{fr fr2 c2:Bool}{v x:V}{p:List StT}{ys zs:List AV}(hv:Vc fr v ys)(hx:Vc fr x zs)(hw:v.wf)(hxw:x.wf)(hp:p.length*32≤Qu∧∀s∈p,s.wf):Fn Tryz.prog 64 [.agg ys,.sl fr2 c2 eSt (StT.css p),.agg zs] (FK v p x):=by
  obtain⟨hp80,hpw⟩:=hp
  have hpl:p.length≤4398046511104:=by unfold Qu at hp80;omega
  subst hv hx
  refine AC.of_J Tryz.func64 rfl Tryz.ntmps64 rfl fun w0 A0=>?_
  refine Zs (Qp (.tmp rfl) rfl fun b3=>Qp (.tmp rfl) rfl fun b5=>JL.alloc WQ rfl rfl fun b6=>Zq rfl (QW.assign .const) (Zn (J.seq (Zs (Zq rfl (Qf 2 Qj (.tmp rfl) rfl (Qm vl rfl) vl) (Zq rfl (Qf 1 Qj (.tmp rfl) rfl (Qm vl rfl) vl) ?_))))))
  refine Zq rfl (Fm (idx:=[0,1]) (sz:=5) (by kernel_rfl) z142 rfl (.cons (.tmp rfl) (.cons (.tmp rfl) .nil)) rfl rfl rfl (Pe (z0:=Su) (z1:=Su) rfl rfl (by exact vl) (by exact vl))) ?_
  refine Zq rfl (QW.move .const) (Zn (J.block (Q0 (ι:=Nat) [1,3,5,6,20] (fun j=>[(21,.c (.int .i64 (j:Int)))]) (fun _ oo=>oo) (fun j=>j≤2∧(0<j→v.err=0)∧(1<j→x.err=0)) (fun j=>2-j) 0 (⟨by decide,fun h=>absurd h (by decide),fun h=>absurd h (by decide)⟩) (QK (.cons rfl lr (.cons rfl lr (.cons rfl lr (.cons rfl lr (.cons rfl lr (.cons rfl lr .nil)))))) (Reown.refl _) (fun _ h=>by first|exact h|simp[h])) ?_)))
  intro j ⟨hj2,he1,he2⟩
  refine J.conv (by(try simp only[nl,Qk,Qz,QA,Qy,QR,AV.cellsOf,Qd,Qe,Nat.reduceAdd]);rfl) ?_
  refine Zs (Zq rfl (QW.lss (.tmp rfl) .const) (Zn (J.seq ?_)))
  refine J.cond (.tmp rfl) (fun c1=>?_) (fun c1=>?_)
  · skip
    have hj1:j<2:=by(simp at c1;omega)
    have hwj:(if j=0 then v else x).wf:=by split<;>assumption
    refine Zk (J.seq (J.block (Zs (Zq rfl (Fk (zs:=(if j=0 then v else x).cs fr) (ln:=2) (et:=26) (by kernel_rfl) Qj (.tmp rfl) (.tmp rfl) rfl (by omega) (Si hj1) vl) ?_))))
    refine JL.alloc WQ rfl rfl fun b9=>Qc 0 Qj (.tmp rfl) rfl (.tmp rfl) rfl vl rfl rfl (Zn (Zs (Zq rfl (Qf 0 Qj (.tmp rfl) rfl (Qm vl rfl) vl) (Zq rfl (QW.call Xw (.cons (.tmp rfl) .nil) (W5 Vc.self hwj)) (Zq rfl (QW.assign (.tmp rfl)) (Zn (Zs (Zq rfl (QW.move (.tmp rfl)) ?_))))))))
    refine Zq rfl (QW.neq (.tmp rfl) .const) (Zn ?_)
    refine J.cond (.tmp rfl) (fun c2=>?_) (fun c2=>?_)
    · skip
      simp at c2
      have hbad:v.setv p x=(.nil,(if j=0 then v else x).err):=by
        by_cases h0:j=0
        · rw[if_pos h0]at c2⊢
          rw[V.setv,if_pos c2]
        · rw[if_neg h0]at c2⊢
          rw[V.setv,if_neg (by simp[he1 (by omega)]),if_pos c2]
      refine Zs (Zq rfl (QW.build (idx:=[]) Xt WQ rfl .nil rfl rfl rfl rfl) (Zq rfl (QW.move (.tmp rfl)) (Qc 1 Qj (.tmp rfl) rfl (.tmp rfl) rfl rfl rfl rfl (Zq rfl (QW.assign (.tmp rfl)) (Zn (J.ret (blkQ.r (thenQ.r (thenQ.r ?_)))))))))
      exact blkQ.r (thenQ.r (Zr [.k,.k,.k,.k] (QB rfl (REv.cell 1 Qj rfl rfl rfl rfl (.aggL (.cons lr (.cons lr (.cons lr (.cons (.nil true false _) (.cons (.nil true false _) .nil))))))) (REv.tmp rfl lr)) rfl ⟨congrArg W1.ret (GK hbad).symm,rfl⟩))
    simp at c2
    have he1b:v.err=0:=by
      by_cases h0:j=0
      · rw[if_pos h0]at c2;exact c2
      · exact he1 (by omega)
    have he2b:1<j+1→x.err=0:=fun h=>by
      rw[if_neg (by omega)]at c2;exact c2
    refine J.skip (blkQ.n (thenQ.n (Qg (Zq rfl (QW.add (.tmp rfl) .const (WW (by omega))) (Zq rfl (QW.move (.tmp rfl)) (Zn ?_))))))
    exact⟨j+1,⟨by omega,fun _=>he1b,he2b⟩,by omega,QK (.cons rfl lr (.cons rfl lr (.cons rfl lr (.cons rfl lr (.cons rfl lr (.cons rfl lr .nil)))))) (Q9 1 _ rfl) (fun _ h=>by first|exact h|simp[h])⟩
  obtain rfl:j=2:=by(simp at c1;omega)
  have hv0:=he1 (by decide)
  have hx0:=he2 (by decide)
  have hfv:=V.fine_of hv0
  refine J.exit (Qv (Qv (QM (thenQ.n (Zs (Zq rfl (Qf 2 Qj (.tmp rfl) rfl (Qm vl rfl) vl) (JL.callRF [] Gu rfl Lent.nil (fun _=>(.cons (.tmp rfl) .nil)) (Mc Vc.self hw) (.inl rfl) fun x32 o32 h32=>?_)))))))
  obtain⟨kv32,iv32,ok32,oi32,rfl,rfl,hV32⟩:=h32
  refine JL.alloc WQ rfl rfl fun b11=>Qc 0 Qj (.tmp rfl) rfl (.tmp rfl) rfl rfl rfl rfl (Zn (Zs (Zq rfl (QW.assign (.tmp rfl)) (Zn (J.seq (Zs (Zq rfl (QW.move (.tmp rfl)) (Zq rfl (Qh NG (.tmp rfl) (StT.css_length _)) ?_))))))))
  refine Zq rfl (QW.move .const) (Zn (J.block (J.reown ((DX _ _ _ _ _).trans (YB _)) (Q0 (ι:=Nat×At) [1,5,6,11,33,34] (fun⟨j,z⟩=>[(35,.c (.int .i64 (j:Int))),(12,.c (.pointer (some ⟨z.b,z.off,none⟩)))]) (fun⟨j,z⟩ oo=>List.set (List.set (List.set (List.set oo 3 (.box z.b (Yk z z.u z.kv z.iv))) 4 (z.ok)) 5 (z.oi)) 6 (z.ctx)) (fun⟨j,z⟩=>j≤p.length∧z.Ok b11∧v.set p x=LH z.plug (z.u.set (p.drop j) x)) (fun⟨j,z⟩=>p.length-j) ⟨0,⟨b11,0,[],[],v,kv32,iv32,ok32,oi32,.grp [],id⟩⟩ (⟨Nat.zero_le _,⟨rfl,hV32,PR b11,hfv,hw⟩,(F1 _ Fe).symm⟩) (QK (.cons rfl lr (.cons rfl lr (.cons rfl lr (.cons rfl lr (.cons rfl lr (.cons rfl lr (.cons rfl lr (.cons rfl lr .nil)))))))) (Reown.ofEq rfl) (fun _ h=>by first|exact h|simp[h])) ?_))))
  intro⟨j,z⟩ ⟨hj,hz,hset⟩
  refine J.conv (by(try simp only[nl,Qk,Qz,QA,Qy,QR,AV.cellsOf,Qd,Qe,Nat.reduceAdd]);rfl) ?_
  refine Zs (Zq rfl (QW.lss (.tmp rfl) (.tmp rfl)) (Zn (J.seq ?_)))
  refine J.cond (.tmp rfl) (fun c2=>?_) (fun c2=>?_)
  · skip
    have hlt:j<p.length:=by simpa using c2
    have hsw:=hpw _ (List.getElem_mem hlt)
    refine Zk (J.seq (J.block (Zs (Zq rfl (QW.move (.tmp rfl)) (Zq rfl (Qi NG Mz rfl (.tmp rfl) (.tmp rfl) rfl (by exact StT.css_getE hlt)) ?_)))))
    refine Zq rfl (Ql Mz (.tmp rfl) rfl rfl) (JL.alloc Fu rfl rfl fun b14=>Zq rfl (QW.assign (.tmp rfl)) (Qc 0 Mz (.tmp rfl) rfl (.tmp rfl) rfl rfl rfl rfl (Zn (J.seq (QY 9 Uc (by kernel_rfl) (by kernel_rfl) (by kernel_rfl) rfl ?_)))))
    refine .cons [] rfl rfl rfl (.q rfl (QW.move (.tmp rfl))) ?_
    refine .cons [41] rfl rfl rfl (.q rfl (QG (.tmp rfl))) ?_
    refine .cons [42] rfl rfl rfl (.q rfl (Qf 4 Qj (.tmp rfl) rfl (CP hz.off) rfl)) ?_
    refine .cons [] rfl rfl rfl (.q rfl (Qf 0 Mz (.tmp rfl) rfl rfl rfl)) ?_
    refine .cons [43,44] rfl rfl rfl (.q rfl (Nt [.k,.k,.k,.k,.k,.l,.l] BU (Lent.cons (hz.tr.lentK) (Lent.cons (hz.tr.lentI) Lent.nil)) rfl rfl (fun _=>(.cons (Ev.le (.tmp rfl) (V.raw_le (by simp) (by simp))) (.cons (.tmp rfl) .nil))) (EQ (fr:=false) (v:=z.u) (s:=p[j]'hlt) Vc.self Sc.self hz.fine.part (hpw _ (List.getElem_mem hlt))) (R6 _ _))) ?_
    refine .cons [45] rfl rfl rfl (.q rfl (QW.move (.tmp rfl))) ?_
    refine .cons [40] rfl rfl rfl (.q rfl (QW.extract (.tmp rfl) rfl)) ?_
    refine .cons [40] rfl rfl rfl (.q rfl (QW.extract (.tmp rfl) rfl)) ?_
    refine .cons [46] rfl rfl rfl (.q rfl (QW.assign (.tmp rfl))) ?_
    refine .nil ?_
    refine Zq rfl (QW.assign (.tmp rfl)) (Zn (Rq (ι:=V×Nat×Int×Value×Value×Own×Own) [1,5,6,11,12,13,14,33,34,35,36,37,38,39,40,41,42,43,44,45,46,47] (fun⟨u2,i2,e2,kv2,iv2,ok2,oi2⟩=>[(15,.c (.int .i64 (i2:Int))),(16,.c (.int .i64 e2))]) (fun⟨u2,i2,e2,kv2,iv2,ok2,oi2⟩ oo=>List.set (List.set (List.set oo 4 (.box z.b (Yk z u2 kv2 iv2))) 5 (ok2)) 6 (oi2)) (fun⟨u2,i2,e2,kv2,iv2,ok2,oi2⟩=>z.u.stp (p[j]'hlt) (decide (p.drop (j+1)=[]))=(u2,i2,e2)∧VTr u2 kv2 iv2 ok2 oi2) ?_ ?_))
    · skip
      refine Zs (Zq rfl (QW.move (.tmp rfl)) (Zq rfl (QW.neq (.tmp rfl) .const) (Zq rfl (QW.move (.tmp rfl)) (Zg rfl (fun hg=>(QW.move (.tmp rfl))) (Zg rfl (fun hg=>(QW.move (.tmp rfl))) (Zg rfl (fun hg=>(Qh NG (.when rfl hg) (StT.css_length _))) (Zg rfl (fun hg=>(QW.sub (.when rfl hg) .const (WW (by omega)))) (Zg rfl (fun hg=>(QW.eql (.when rfl hg) (.when rfl hg))) (Zq rfl (QW.pick_and (.tmp rfl) (.tmp rfl)) ?_)))))))))
      refine Zn ?_
      refine J.cond (.tmp rfl) (fun c3=>?_) (fun c3=>?_)
      · skip
        have he0:(z.u.fnd (p[j]'hlt)).2≠0:=by(simp at c3;exact c3.1)
        have hlast:p.drop (j+1)=[]:=by(simp at c3;exact List.drop_of_length_le (by omega))
        refine Qg (Zq rfl (QW.move (.tmp rfl)) (Zq rfl (Qf 0 Mz (.tmp rfl) rfl rfl rfl) (Zq rfl (QW.move (.tmp rfl)) (Zq rfl (QW.move (.tmp rfl)) (JL.callRF [.k,.k,.k,.k,.p,.p,.p] gofn77 rfl Lent.nil (fun _=>(.cons (.tmp rfl) (.cons (.tmp rfl) (.cons (.tmp rfl) (.cons (.tmp rfl) .nil))))) (SD (z:=z) (s:=p[j]'hlt) (i:=(z.u.fnd (p[j]'hlt)).1) (e:=(z.u.fnd (p[j]'hlt)).2) Sc.self hz.off hz.tr hz.fine.part hz.wf (hpw _ (List.getElem_mem hlt)) rfl he0) (.inl rfl) fun x62 o62 h62=>?_)))))
        obtain⟨kv62,iv62,ok62,oi62,rfl,rfl,hV62⟩:=h62
        refine Zq rfl (QW.move (.tmp rfl)) (Zq rfl (QW.extract (.tmp rfl) rfl) (Zq rfl (QW.extract (.tmp rfl) rfl) (Zq rfl (QW.assign (.tmp rfl)) (Zq rfl (QW.assign (.tmp rfl)) (Zn ?_)))))
        exact⟨⟨_,_,_,kv62,iv62,ok62,oi62⟩,⟨by rw[hlast];rfl,hV62⟩,QK (.cons rfl lr (.cons rfl lr (.cons rfl lr (.cons rfl lr (.cons rfl lr (.cons rfl lr (.cons rfl lr (.cons rfl lr (.cons rfl lr (.cons rfl lr (.cons rfl lr (.cons rfl lr (.cons rfl lr (.cons rfl lr (.cons rfl lr (.cons rfl lr (.cons rfl lr (.cons rfl lr (.cons rfl lr (.cons rfl lr (.cons rfl lr (.cons rfl lr (.cons rfl lr (.cons rfl lr .nil)))))))))))))))))))))))) (Reown.refl _) (fun _ h=>by first|exact h|simp[h])⟩
      have hno:(z.u.fnd (p[j]'hlt)).2=0∨p.drop (j+1)≠[]:=by
        simp at c3
        by_cases h0:(z.u.fnd (p[j]'hlt)).2=0
        · exact .inl h0
        · refine .inr fun hd=>?_
          have:=c3 h0
          rw[List.drop_eq_nil_iff]at hd
          omega
      refine Zk ?_
      exact⟨⟨z.u,(z.u.fnd (p[j]'hlt)).1,(z.u.fnd (p[j]'hlt)).2,z.kv,z.iv,z.ok,z.oi⟩,⟨by unfold V.stp;by_cases h0:(z.u.fnd (p[j]'hlt)).2=0;(rw[if_pos h0,h0]);(rw[if_neg h0,if_neg (by simpa using hno.resolve_left h0)]),hz.tr⟩,QK (.cons rfl lr (.cons rfl lr (.cons rfl lr (.cons rfl lr (.cons rfl lr (.cons rfl lr (.cons rfl lr (.cons rfl lr (.cons rfl lr (.cons rfl lr (.cons rfl lr (.cons rfl lr (.cons rfl lr (.cons rfl lr (.cons rfl lr (.cons rfl lr (.cons rfl lr (.cons rfl lr (.cons rfl lr (.cons rfl lr (.cons rfl lr (.cons rfl lr (.cons rfl lr (.cons rfl lr .nil)))))))))))))))))))))))) (Reown.refl _) (fun _ h=>by first|exact h|simp[h])⟩
    · intro⟨u2,i2,e2,kv2,iv2,ok2,oi2⟩ ⟨hst,hV2⟩
      refine J.conv (by(try simp only[nl,Qk,Qz,QA,Qy,QR,AV.cellsOf,Qd,Qe,Nat.reduceAdd]);rfl) ?_
      refine J.seq (Zs (Zq rfl (QW.move (.tmp rfl)) (Zq rfl (QW.neq (.tmp rfl) .const) (Zn ?_))))
      refine J.cond (.tmp rfl) (fun c3=>?_) (fun c3=>?_)
      · skip
        have he2:e2≠0:=by simpa using c3
        refine Zs (Zq rfl (QW.build (idx:=[]) Xt WQ rfl .nil rfl rfl rfl rfl) (Zq rfl (QW.move (.tmp rfl)) (Qc 1 Qj (.tmp rfl) rfl (.tmp rfl) rfl rfl rfl rfl (Zq rfl (QW.assign (.tmp rfl)) (Zn (J.ret (thenQ.r (blkQ.r (thenQ.r ?_)))))))))
        exact thenQ.r (blkQ.r (thenQ.r (Zr [.k,.k,.k,.k,.k,.k,.k,.k] (QB rfl (REv.cell 1 Qj rfl rfl rfl rfl (.aggL (.cons lr (.cons lr (.cons lr (.cons (.nil true false _) (.cons (.nil true false _) .nil))))))) (REv.tmp rfl lr)) rfl ⟨congrArg W1.ret (GK (FG hv0 hx0 (e:=e2) (w:=.nil) (by rw[hset,Ll hlt,PG hst he2];simp[LH,he2]) he2)).symm,rfl⟩)))
      obtain rfl:e2=0:=by simpa using c3
      obtain⟨hlt2,huw2,hfk,hset3⟩:=Fc (x:=x) hz.fine hz.wf hsw hst
      refine Zk ?_
      obtain⟨ci,ui,o2,q1,q2,q3,q4,q5,q6⟩:=hV2.is.inv
      rw[V.css_length]at q2
      refine J.reown (Rl (i:=6) rfl q6) (J.lay 6 rfl (fun a0 hv hx=>absurd hlt2 (by rw[← q2,hx];simp)) fun b2 cap sp hiv hcap hsz5 hfl=>?_)
      subst hiv
      refine Qg (Zq rfl (QW.move (.tmp rfl)) (Zq rfl (QG (.tmp rfl)) (Zq rfl (Qa Ud (.tmp rfl) rfl) (Zq rfl (Qb 4 U4 (.tmp rfl) rfl ((KU hz.off 4 (by decide)).trans rfl)) ?_))))
      refine Zq rfl (QW.move (.tmp rfl)) (Zq rfl (D1 (m:=i2) QO Qj (.tmp rfl) (.tmp rfl) rfl (by omega)) (Zq rfl (QW.assign (.tmp rfl)) (JL.nil (blkQ.n (thenQ.n ?_)))))
      obtain⟨kv3,iv3,ok3,oi3,ob,oa,u1,u3,e1,e3,e4,e5,e6,e7,e8,e9,e10⟩:=Sx hlt2 q2 q3 q1 q4 q5
      refine J.reown (Reown.cons (Reown.cons (Reown.cons (Reown.cons (Reown.step e10))))) (Qg (Zq rfl (QW.add (.tmp rfl) .const (WW (by omega))) (Zq rfl (QW.move (.tmp rfl)) (Zn ?_))))
      exact⟨⟨j+1,⟨b2,0+i2*5,(ci.take i2).flatten,(ci.drop (i2+1)).flatten++sp.map AV.c,u2.items[i2],kv3,iv3,ok3,oi3,.grp [.box z.b (Yk z u2 kv2 (sv b2 0 ci.length (cap+1))),ok2,ob,oa,z.ctx],fun w=>z.plug (u2.setAt i2 w)⟩⟩,⟨hlt,⟨by rw[QP (sz:=5) _ (fun x hx=>q3 x (List.mem_of_mem_take hx)),List.length_take,Nat.min_eq_left (by omega)];exact(Nat.zero_add _).symm,e3,hz.law.into huw2 hV2.k1 hV2.i1 hV2.ks hlt2 q2 q3 rfl hcap hfl e4 e5 e6 e7 e8 e9,hfk,huw2.kid (List.getElem_mem hlt2)⟩,by rw[hset,Ll hlt,hset3,F0]⟩,by show p.length-(j+1)<p.length-j;omega,QK (.cons rfl lr (.cons rfl lr (.cons rfl lr (.cons rfl lr (.cons rfl lr (.cons rfl lr (.cons rfl lr (.cons rfl lr .nil)))))))) ((Q9 1 _ rfl).trans (Reown.ofEq (by show [_,_,_,Own.box b2 _,_,_,_]=[_,_,_,Own.box b2 _,_,_,_];rw[PB e1];rfl))) (fun _ h=>by first|exact h|simp[h])⟩
  have hge:p.length≤j:=by simpa using c2
  rw[List.drop_of_length_le hge]at hset
  have hset2:v.set p x=(z.plug x,0):=hset
  have hww:(z.plug x).wf:=by have:=Mf hw hfv hpw hxw;rwa [hset2]at this
  refine J.exit (Qv (Qv (QM (thenQ.n (Zs (Zq rfl (QW.move (.tmp rfl)) (Zq rfl (Qf 1 Qj (.tmp rfl) rfl (Qm vl rfl) vl) (JL.callRF [] Gu rfl Lent.nil (fun _=>(.cons (.tmp rfl) .nil)) (Mc Vc.self hxw) (.inl rfl) fun x78 o78 h78=>?_))))))))
  obtain⟨kv78,iv78,ok78,oi78,rfl,rfl,hV78⟩:=h78
  refine Zq rfl (QG (.tmp rfl)) (JL.store_box 3 Qj (.tmp rfl) rfl (.tmp rfl) rfl rfl (by rw[LR _ _ _ _ hz.off];exact Nat.ble_eq_true_of_le (by omega)) (BC hz.off) rfl ?_)
  refine Zn (J.seq (J.seq ?_))
  obtain⟨kw,iw,okw,oiw,hW,hR⟩:=hz.law x kv78 iv78 ok78 oi78 hxw hV78
  refine J.reown (Reown.cons (Reown.cons (Reown.cons (Reown.fin hR)))) (Qg (Zq rfl (Qf 3 Qj (.tmp rfl) rfl rfl rfl) (Zq rfl (Nt [.k,.k,.k,.k,.l,.l] Xw (Lent.cons (hW.lentK) (Lent.cons (hW.lentI) Lent.nil)) rfl rfl (fun _=>(.cons (Ev.le (.tmp rfl) (V.raw_le (by simp) (by simp))) .nil)) (W5 (fr:=false) (v:=z.plug x) Vc.self hww) (Fl.c _)) ?_)))
  refine Zq rfl (QW.assign (.tmp rfl)) (Zn (Zs (Zq rfl (QW.move (.tmp rfl)) (Zq rfl (QW.neq (.tmp rfl) .const) (Zn ?_)))))
  refine J.cond (.tmp rfl) (fun c3=>?_) (fun c3=>?_)
  · skip
    have hbd:(z.plug x).err≠0:=by simpa using c3
    exact Zs (Zq rfl (QW.build (idx:=[]) Xt WQ rfl .nil rfl rfl rfl rfl) (Zq rfl (QW.move (.tmp rfl)) (Qc 0 Qj (.tmp rfl) rfl (.tmp rfl) rfl rfl rfl rfl (Zq rfl (QW.assign (.tmp rfl)) (Zn (J.ret (thenQ.r (Zr [.k,.k,.k,.k,.k,.k] (QB rfl (REv.cell 0 Qj rfl rfl rfl rfl (.aggL (.cons lr (.cons lr (.cons lr (.cons (.nil true false _) (.cons (.nil true false _) .nil))))))) (REv.tmp rfl lr)) rfl ⟨congrArg W1.ret (GK (FH hv0 hx0 hset2 hbd)).symm,rfl⟩))))))))
  have hgd:(z.plug x).err=0:=by simpa using c3
  refine Zk (J.seq (J.close 4 rfl hW.ks.clos rfl (fun _ h=>by cases h) ?_))
  refine J.close 4 rfl hW.is.clos rfl (fun _ h=>by cases h) ?_
  exact Qg (Zq rfl (Qf 3 Qj (.tmp rfl) rfl rfl rfl) (Qc 0 Qj (.tmp rfl) rfl (.tmp rfl) rfl rfl rfl rfl (Zq rfl (QW.assign .const) (Zn (J.ret (Zr [.k,.k,.k,.k] (QB rfl (REv.cell 0 Qj rfl rfl rfl rfl (V.raw_le (by simp) (by simp))) (REv.tmp rfl lr)) rfl ⟨congrArg W1.ret (GK (P7 hv0 hx0 hset2 hgd)).symm,rfl⟩))))))

end
section
/- Walks: operations of lists and records. -/
set_option maxRecDepth 10000
set_option maxHeartbeats 4000000
def XJ{α:Type}:Except Int α→Int
  |.ok _=>0
  |.error c=>c
def PlR(r:Except Int V):W1→List Own→Prop:=PanR (XJ r=0) (YR (XJ r)) fun x o=>∃v,r=.ok v∧x=.agg (v.cs false)∧o=[]
theorem PlR.ok{r:Except Int V}{v:V}(h:r=.ok v):PlR r (.ret (.agg (v.cs false))) []:=.inl ⟨by rw[h];rfl,_,rfl,v,h,rfl,rfl⟩
theorem PlR.er{r:Except Int V}{c:Int}(h:r=.error c)(hc:¬c=0):PlR r (.pan (.iface 33 (.int .i64 c))) []:=.inr ⟨by rw[h];exact hc,by rw[h];rfl,rfl⟩
theorem Xq{l:List V}(h:l.length=2):∃a b,l=[a,b]:=by
  match l,h with
  |[a,b],_=>exact⟨a,b,rfl⟩
theorem LJ{l:List V}(h:l.length=1):∃a,l=[a]:=by
  match l,h with
  |[a],_=>exact⟨a,rfl⟩
theorem Gi{v:V}(h:Ub v=true):v.text.length≤128:=by
  obtain⟨k,b,t,ks,is⟩:=v
  show t.length≤128
  unfold Ub at h
  have hz:t=[]→t.length≤128:=fun h=>by subst h;simp
  by_cases h3:k=3
  · subst h3;simp at h;omega
  · refine hz ?_
    simp only[h3,if_false]at h
    repeat' split at h
    all_goals simp at h
    all_goals simp[h]
theorem li_wf{l:List V}(hl:∀x∈l,x.good)(hn:l.length≤8):(V.li l).wf:=.mk (by decide) (by decide) (by decide) (by decide) (by unfold Qu;omega) (fun _ h=>by cases h) (fun x hx=>(hl x hx).wf)
theorem pe8(t:Ui)(a:V):UR 8 t [a]=K5 a ⟨true,t,0⟩:=rfl
theorem pe9(t:Ui)(a b:V):UR 9 t [a,b]=if a.kind≠4∨b.kind≠2 then .error 81 else if XG b.bits≠0 then .error 82 else K5 a ⟨false,[],Xv b.bits⟩:=rfl
theorem pe10(t:Ui)(a:V):UR 10 t [a]=if a.kind<3 then .error 81 else .ok (.nu (Ss ((a.text.length:Int)+(a.items.length:Int)))):=rfl
theorem pe23(t:Ui)(l:List V):UR 23 t l=Gb (.li l):=rfl
theorem pe24(t:Ui)(a b:V):UR 24 t [a,b]=if a.kind≠4 then .error 81 else NI a ⟨false,[],a.items.length⟩ b:=rfl
theorem pe25(t:Ui)(a b:V):UR 25 t [a,b]=if a.kind≠5 then .error 81 else NI a ⟨true,t,0⟩ b:=rfl
theorem EI{v:V}{s:StT}(h:(v.getv [s]).2=0):K5 v s=.ok (v.getv [s]).1:=if_pos h
theorem EK{v:V}{s:StT}(h:¬(v.getv [s]).2=0):K5 v s=.error (v.getv [s]).2:=if_neg h
theorem H6{v x:V}{s:StT}(h:(v.setv [s] x).2=0):NI v s x=.ok (v.setv [s] x).1:=if_pos h
theorem Ed{v x:V}{s:StT}(h:¬(v.setv [s] x).2=0):NI v s x=.error 84:=if_neg h
theorem ND{s:StT}(h:s.wf):[s].length*32≤Qu∧∀x∈[s],x.wf:=⟨by unfold Qu;simp,fun x hx=>by rw[List.mem_singleton.1 hx];exact h⟩
theorem Kd{F:List (Value×AV)}(v:V):Le F (.agg (v.cs true)) (.agg (v.cs false)):=.aggL (V.cs_le true false (fun h=>by cases h) v)
theorem Bs{fr:Bool}{o:Int}{bb:Nat}{t:Ui}{args:List EX}{l:List V}{ys:List AV}(he:Xc fr (.mk o bb t args) ys)(ht:t.length≤Qu)(hl:∀x∈l,x.good)(hn:l.length≤8∧(o=23∨((o=8∨o=10)∧l.length=1)∨((o=9∨o=24∨o=25)∧l.length=2))):
    AC Tryz.prog 116 [] [.agg ys,.sl false false eV (V.css false l)] (PlR (UR o t l)):=by
  subst he
  obtain⟨hn8,hn⟩:=hn
  refine AC.of_J Tryz.func116 rfl Tryz.ntmps116 rfl fun w0 A0=>?_
  refine Zs (Qp (.tmp rfl) rfl fun b2=>JL.alloc WQ rfl rfl fun b4=>Zn (J.seq (Zs (Zq rfl (Qa YQ (.tmp rfl) rfl) (Zq rfl (Qb 1 UQ (.tmp rfl) rfl rfl) (Zn (J.block ?_)))))))
  refine Zs (Zq rfl (QW.eql (.tmp rfl) .const) (Zq rfl (QW.assign (.tmp rfl)) (Zn ?_)))
  refine J.cond (.tmp rfl) (fun c1=>?_) (fun c1=>?_)
  · skip
    obtain rfl:o=8:=by simpa using c1
    obtain⟨a,rfl⟩:=LJ (l:=l) (by omega)
    have ha:=hl a (by simp)
    refine J.seq (QU Uc (Zf 0 [] rfl (fun _=>QW.move (.tmp rfl)) (Zf 1 [17] rfl (fun _=>Qi QO Qj rfl (.tmp rfl) .const rfl rfl) (Zf 2 [18] rfl (fun _=>Ql Qj (.tmp rfl) (QH vl rfl) vl) (Zf 3 [] rfl (fun _=>Qa N3 (.tmp rfl) rfl) (Zo 4 1 [20] rfl (fun _ ho_=>Qb 1 U9 (.tmp rfl) ho_ rfl) (Zf 5 [21] rfl (fun _=>QW.build (idx:=[0,1]) F4 Fu rfl (.cons .const (.cons (.tmp rfl) .nil)) rfl rfl rfl rfl) (JX.one 6 [true,true,true,true,true,true] rfl (by kernel_rfl) (by kernel_rfl) rfl rfl (by kernel_rfl) rfl fun bs6_ pe_ ex_=>?_))))))))
    refine JL.conv (by(try simp only[Ua,Uj,Q5,QS,Flt.val,Flt.bx,nx,nl,Qk,Qz,QA,Qy,QR,AV.cellsOf,Qd,Qe,Nat.reduceAdd]);rfl) ?_
    refine Qs [] EE rfl Lent.nil (fun _=>(.cons (.tmp rfl) (.cons (.tmp rfl) .nil))) (E0 (v:=a) (s:=⟨true,t,0⟩) Vc.self ha.wf ⟨ht,show(-9223372036854775808:Int)≤0∧(0:Int)≤9223372036854775807 by decide⟩) (.inl rfl) (fun k23 x23 o23 h23=>?_) (fun k23=>?_)
    rotate_left
    · skip
      refine thenQ.p (thenQ.p (blkQ.p (thenQ.p ?_)))
      exact⟨_,QN [.k,.k] _,_,rfl,rfl,Qn [.k,.k] _,PlR.er ((pe8 t a).trans (EK k23)) k23⟩
    obtain⟨rfl,rfl⟩:=h23
    refine JL.nil ?_
    refine thenQ.n ⟨[_],_,rfl,rfl,rfl,rfl,rfl,Wp 2 rfl rfl,⟨rfl,rfl⟩,trivial,?_⟩
    refine JX.conv (S':=[6,5,4,3,2,1,0]) rfl (by(try simp only[QS]);rfl) (by(try simp only[Ua,Uj,Q5,QS,Flt.val,Flt.bx,nx,nl,Qk,Qz,QA,Qy,QR,AV.cellsOf,Qd,Qe,Nat.reduceAdd]);rfl) ?_
    refine JX.one 7 [] rfl (by kernel_rfl) (by kernel_rfl) rfl rfl (by kernel_rfl) rfl fun bs7_ pe_ ex_=>?_
    refine JL.conv (by(try simp only[Ua,Uj,Q5,QS,Flt.val,Flt.bx,nx,nl,Qk,Qz,QA,Qy,QR,AV.cellsOf,Qd,Qe,Nat.reduceAdd]);rfl) ?_
    refine Qc 0 Qj (.tmp rfl) rfl (.tmp rfl) rfl vl rfl rfl (JL.nil ?_)
    refine thenQ.n ⟨[],_,rfl,rfl,rfl,rfl,rfl,QJ 2 rfl,trivial,trivial,?_⟩
    refine JX.conv (S':=[7,6,5,4,3,2,1,0]) rfl (by(try simp only[QS]);rfl) (by(try simp only[Ua,Uj,Q5,QS,Flt.val,Flt.bx,nx,nl,Qk,Qz,QA,Qy,QR,AV.cellsOf,Qd,Qe,Nat.reduceAdd]);rfl) ?_
    refine JX.fin (by kernel_rfl) (by kernel_rfl) fun bs_=>?_
    refine QX.conv (by(try simp only[Ua,Uj,Q5,QS,Flt.val,Flt.bx,nx,nl,Qk,Qz,QA,Qy,QR,AV.cellsOf,Qd,Qe,Nat.reduceAdd]);rfl) ?_
    exact thenQ.n (J.ret (blkQ.r (thenQ.r (Zr [.k,.k] (RetEv.one rfl (REv.cell 0 Qj rfl rfl (Qm vl rfl) vl (Kd _))) rfl (PlR.ok ((pe8 t a).trans (EI k23)))))))
  have n8:¬o=8:=by simpa using c1
  refine Zs (Zq rfl (QW.eql (.tmp rfl) .const) (Zq rfl (QW.assign (.tmp rfl)) (Zn ?_)))
  refine J.cond (.tmp rfl) (fun c2=>?_) (fun c2=>?_)
  · skip
    obtain rfl:o=9:=by simpa using c2
    obtain⟨a,b,rfl⟩:=Xq (l:=l) (by omega)
    have ha:=hl a (by simp)
    have hb:=hl b (by simp)
    have hb64:=hb.bits
    refine Zs (Zq rfl (QW.move (.tmp rfl)) (Zq rfl (QW.buildSlice (idx:=[0,1]) (xs:=WB [4,2]) YF C2 z3 rfl (.cons .const (.cons .const .nil)) rfl rfl rfl rfl rfl rfl rfl rfl rfl) ?_))
    refine Qs [] W9 rfl Lent.nil (fun _=>(.cons (.tmp rfl) (.cons (.tmp rfl) .nil))) (Wt _ [4,2] (by simp) (by simp)) (.inl rfl) (fun k28 x28 o28 h28=>?_) (fun k28=>?_)
    rotate_left
    · skip
      refine thenQ.p (blkQ.p (thenQ.p ?_))
      exact⟨_,QN [.k,.k] _,_,rfl,rfl,Qn [.k,.k] _,PlR.er (c:=81) ((pe9 t a b).trans (if_pos (by simp[Ug]at k28;omega))) (by decide)⟩
    obtain⟨rfl,rfl⟩:=h28
    refine Zn (Zs (Zq rfl (QW.move (.tmp rfl)) (Zq rfl (Qi QO Qj rfl (.tmp rfl) .const rfl rfl) (Zq rfl (Qt Uu (.tmp rfl) rfl) (Zq rfl (Qq Wi (.tmp rfl) (YS _ _)) (Zq rfl (QW.call EF (.cons (.tmp rfl) .nil) (BB _ (by assumption))) ?_))))))
    refine Zq rfl (QW.move (.tmp rfl)) (Zq rfl (QW.extract (.tmp rfl) rfl) (Zq rfl (QW.extract (.tmp rfl) rfl) (Zq rfl (QW.assign (.tmp rfl)) (Zq rfl (QW.assign (.tmp rfl)) (Zn (Zs (Zq rfl (QW.move (.tmp rfl)) (Zq rfl (QW.eql (.tmp rfl) .const) ?_))))))))
    refine Qs [] Yx rfl Lent.nil (fun _=>(.cons (.tmp rfl) (.cons .const .nil))) (XE _ _) (.inl rfl) (fun k39 x39 o39 h39=>?_) (fun k39=>?_)
    rotate_left
    · skip
      refine thenQ.p (blkQ.p (thenQ.p ?_))
      exact⟨_,QN [.k,.k] _,_,rfl,rfl,Qn [.k,.k] _,PlR.er (c:=82) (by rw[pe9,if_neg (by simp[Ug]at k28;omega),if_pos (by simpa using k39)]) (by decide)⟩
    obtain⟨rfl,rfl⟩:=h39
    refine Zn (Zs (Zq rfl (QW.move (.tmp rfl)) (Zq rfl (Qi QO Qj rfl (.tmp rfl) .const rfl rfl) (Zq rfl (Ql Qj (.tmp rfl) (QH vl rfl) vl) (Zq rfl (QW.move (.tmp rfl)) (Zq rfl (QW.build (idx:=[2]) F4 Fu rfl (.cons (.tmp rfl) .nil) rfl rfl rfl rfl) ?_))))))
    refine Qs [] EE rfl Lent.nil (fun _=>(.cons (.tmp rfl) (.cons (.tmp rfl) .nil))) (E0 (v:=a) (s:=⟨false,[],Xv b.bits⟩) Vc.self ha.wf ⟨by unfold Qu;simp,by have:=Kz b.bits (by simpa using k39);show(-9223372036854775808:Int)≤Xv b.bits∧Xv b.bits≤9223372036854775807;omega⟩) (.inl rfl) (fun k45 x45 o45 h45=>?_) (fun k45=>?_)
    rotate_left
    · skip
      refine thenQ.p (blkQ.p (thenQ.p ?_))
      exact⟨_,QN [.k,.k] _,_,rfl,rfl,Qn [.k,.k] _,PlR.er (by rw[pe9,if_neg (by simp[Ug]at k28;omega),if_neg (by simpa using k39)];exact EK k45) k45⟩
    obtain⟨rfl,rfl⟩:=h45
    exact Qc 0 Qj (.tmp rfl) rfl (.tmp rfl) rfl vl rfl rfl (Zn (J.ret (blkQ.r (thenQ.r (Zr [.k,.k] (RetEv.one rfl (REv.cell 0 Qj rfl rfl (Qm vl rfl) vl (Kd _))) rfl (PlR.ok (by rw[pe9,if_neg (by simp[Ug]at k28;omega),if_neg (by simpa using k39)];exact EI k45)))))))
  have n9:¬o=9:=by simpa using c2
  refine Zs (Zq rfl (QW.eql (.tmp rfl) .const) (Zq rfl (QW.assign (.tmp rfl)) (Zn ?_)))
  refine J.cond (.tmp rfl) (fun c3=>?_) (fun c3=>?_)
  · skip
    obtain rfl:o=10:=by simpa using c3
    obtain⟨a,rfl⟩:=LJ (l:=l) (by omega)
    have ha:=hl a (by simp)
    have ha32:=ha.len
    have hat:=Gi ha.fine.part
    refine Zs (Zq rfl (QW.move (.tmp rfl)) (Zq rfl (Qi QO Qj rfl (.tmp rfl) .const rfl rfl) (Zq rfl (Qt UJ (.tmp rfl) rfl) (Zq rfl (Qq UQ (.tmp rfl) (DW _ _)) (Zq rfl (QW.geq (.tmp rfl) .const) ?_)))))
    refine Qs [] Yx rfl Lent.nil (fun _=>(.cons (.tmp rfl) (.cons .const .nil))) (XE _ _) (.inl rfl) (fun k53 x53 o53 h53=>?_) (fun k53=>?_)
    rotate_left
    · skip
      refine thenQ.p (blkQ.p (thenQ.p ?_))
      exact⟨_,QN [.k,.k] _,_,rfl,rfl,Qn [.k,.k] _,PlR.er (c:=81) ((pe10 t a).trans (if_pos (by simp at k53;omega))) (by decide)⟩
    obtain⟨rfl,rfl⟩:=h53
    refine Zn (J.seq (QU Uc (Zf 0 [] rfl (fun _=>QW.move (.tmp rfl)) (Zf 1 [55] rfl (fun _=>Qi QO Qj rfl (.tmp rfl) .const rfl rfl) (Zf 2 [56] rfl (fun _=>Qt Yl (.tmp rfl) rfl) (Zf 3 [57] rfl (fun _=>Qq U9 (.tmp rfl) (Mj _ _)) (Zf 4 [58] rfl (fun _=>U1 TW (.tmp rfl)) (Zf 5 [] rfl (fun _=>QW.move (.tmp rfl)) (Zf 6 [60] rfl (fun _=>Qi QO Qj rfl (.tmp rfl) .const rfl rfl) ?_)))))))))
    refine Zf 7 [61] rfl (fun _=>Qt Ud (.tmp rfl) rfl) (Zf 8 [62] rfl (fun _=>Qq U4 (.tmp rfl) (PJ _ _)) (Zf 9 [63] rfl (fun _=>Qh QO (.tmp rfl) wl) (Zf 10 [59,64] rfl (fun _=>QW.add (.tmp rfl) (.tmp rfl) (WW (by omega))) (Zf 11 [65] rfl (fun _=>QW.call SR (.cons (.tmp rfl) .nil) (Bi _ (by omega))) (Zf 12 [66] rfl (fun _=>QW.move (.tmp rfl)) (Zf 13 [54] rfl (fun _=>QW.extract (.tmp rfl) rfl) (Zf 14 [54] rfl (fun _=>QW.extract (.tmp rfl) rfl) (Zf 15 [67] rfl (fun _=>QW.assign (.tmp rfl)) (Zf 16 [68] rfl (fun _=>QW.assign (.tmp rfl)) ?_)))))))))
    refine JX.fin (by kernel_rfl) (by kernel_rfl) fun bs_=>?_
    refine QX.conv (by(try simp only[Ua,Uj,Q5,QS,Flt.val,Flt.bx,nx,nl,Qk,Qz,QA,Qy,QR,AV.cellsOf,Qd,Qe,Nat.reduceAdd]);rfl) ?_
    exact thenQ.n (Zs (Zq rfl (QW.move (.tmp rfl)) (Zq rfl (QW.call Gs (.cons (.tmp rfl) .nil) (Gk _)) (Qc 0 Qj (.tmp rfl) rfl (.tmp rfl) rfl rfl rfl rfl (Zn (J.ret (blkQ.r (thenQ.r (Zr [.k,.k] (RetEv.one rfl (REv.cell 0 Qj rfl rfl rfl rfl lr)) rfl (PlR.ok ((pe10 t a).trans (if_neg (by simp at k53;omega)))))))))))))
  have n10:¬o=10:=by simpa using c3
  refine Zs (Zq rfl (QW.eql (.tmp rfl) .const) (Zq rfl (QW.assign (.tmp rfl)) (Zn ?_)))
  refine J.cond (.tmp rfl) (fun c4=>?_) (fun c4=>?_)
  · skip
    obtain rfl:o=23:=by simpa using c4
    refine Zs (Zq rfl (QW.move (.tmp rfl)) (Zq rfl (QW.build (idx:=[0,4]) Xt WQ rfl (.cons .const (.cons (.tmp rfl) .nil)) rfl rfl rfl rfl) ?_))
    refine Qs [] N1 rfl Lent.nil (fun _=>(.cons (Ev.le (.tmp rfl) (.aggL (.cons lr (.cons lr (.cons lr (.cons (.nil false false _) (.cons lr .nil))))))) .nil)) (NT (fr:=false) (v:=.li l) Vc.self (li_wf hl hn8)) (.inl rfl) (fun k75 x75 o75 h75=>?_) (fun k75=>?_)
    rotate_left
    · skip
      refine thenQ.p (blkQ.p (thenQ.p ?_))
      exact⟨_,QN [.k,.k] _,_,rfl,rfl,Qn [.k,.k] _,PlR.er (c:=84) ((pe23 t l).trans (if_neg k75)) (by decide)⟩
    obtain⟨rfl,rfl⟩:=h75
    exact Qc 0 Qj (.tmp rfl) rfl (.tmp rfl) rfl rfl rfl rfl (Zn (J.ret (blkQ.r (thenQ.r (Zr [.k,.k] (RetEv.one rfl (REv.cell 0 Qj rfl rfl rfl rfl lr)) rfl (PlR.ok (v:=.li l) ((pe23 t l).trans (if_pos k75))))))))
  have n23:¬o=23:=by simpa using c4
  refine Zs (Zq rfl (QW.eql (.tmp rfl) .const) (Zq rfl (QW.assign (.tmp rfl)) (Zn ?_)))
  refine J.cond (.tmp rfl) (fun c5=>?_) (fun c5=>?_)
  · skip
    obtain rfl:o=24:=by simpa using c5
    obtain⟨a,b,rfl⟩:=Xq (l:=l) (by omega)
    have ha:=hl a (by simp)
    have hb:=hl b (by simp)
    have ha32:=ha.len
    refine Zs (Zq rfl (QW.move (.tmp rfl)) (Zq rfl (QW.buildSlice (idx:=[0]) (xs:=WB [4]) YF C2 z3 rfl (.cons .const .nil) rfl rfl rfl rfl rfl rfl rfl rfl rfl) ?_))
    refine Qs [] W9 rfl Lent.nil (fun _=>(.cons (.tmp rfl) (.cons (.tmp rfl) .nil))) (Wt _ [4] (by simp) (by simp)) (.inl rfl) (fun k80 x80 o80 h80=>?_) (fun k80=>?_)
    rotate_left
    · skip
      refine thenQ.p (blkQ.p (thenQ.p ?_))
      exact⟨_,QN [.k,.k] _,_,rfl,rfl,Qn [.k,.k] _,PlR.er (c:=81) ((pe24 t a b).trans (if_pos (by simpa[Ug]using k80))) (by decide)⟩
    obtain⟨rfl,rfl⟩:=h80
    refine Zn (J.seq (QU Uc (Zf 0 [] rfl (fun _=>QW.move (.tmp rfl)) (Zf 1 [82] rfl (fun _=>Qi QO Qj rfl (.tmp rfl) .const rfl rfl) (Zf 2 [83] rfl (fun _=>Ql Qj (.tmp rfl) (QH vl rfl) vl) (Zf 3 [] rfl (fun _=>QW.move (.tmp rfl)) (Zf 4 [85] rfl (fun _=>Qi QO Qj rfl (.tmp rfl) .const rfl rfl) (Zf 5 [86] rfl (fun _=>Qt Ud (.tmp rfl) rfl) (Zf 6 [87] rfl (fun _=>Qq U4 (.tmp rfl) (PJ _ _)) ?_)))))))))
    refine Zf 7 [88] rfl (fun _=>Qh QO (.tmp rfl) wl) (Zf 8 [89] rfl (fun _=>QW.build (idx:=[2]) F4 Fu rfl (.cons (.tmp rfl) .nil) rfl rfl rfl rfl) (Zf 9 [90] rfl (fun _=>QW.buildSlice (idx:=[0]) (xs:=StT.css [⟨false,[],(a.items.length:Int)⟩]) NG Qan Fu rfl (.cons (.tmp rfl) .nil) rfl rfl rfl rfl rfl rfl rfl rfl rfl) (Zf 10 [] rfl (fun _=>QW.move (.tmp rfl)) (Zf 11 [92] rfl (fun _=>Qi QO Qj rfl (.tmp rfl) .const rfl rfl) (Zf 12 [93] rfl (fun _=>Ql Qj (.tmp rfl) (QH vl rfl) vl) (Zf 13 [84,91,94] rfl (fun _=>QW.call Dp (.cons (.tmp rfl) (.cons (.tmp rfl) (.cons (.tmp rfl) .nil))) (T0 (v:=a) (x:=b) (p:=[⟨false,[],a.items.length⟩]) Vc.self Vc.self ha.wf hb.wf (ND ⟨by unfold Qu;simp,by show(-9223372036854775808:Int)≤(a.items.length:Int)∧(a.items.length:Int)≤9223372036854775807;omega⟩))) ?_))))))
    refine Zf 14 [95] rfl (fun _=>QW.move (.tmp rfl)) (Zf 15 [81] rfl (fun _=>QW.extract (.tmp rfl) rfl) (Zf 16 [81] rfl (fun _=>QW.extract (.tmp rfl) rfl) (JX.a 17 rfl (AllocOp.mk WQ rfl) rfl rfl rfl rfl rfl (JX.one 18 [true,false,true,true,true,true,true,true,true,true,true,true,true,true,true,true,true,true] rfl (by kernel_rfl) (by kernel_rfl) rfl rfl (by kernel_rfl) rfl fun bs18_ pe_ ex_=>?_))))
    refine JL.conv (by(try simp only[Ua,Uj,Q5,QS,Flt.val,Flt.bx,nx,nl,Qk,Qz,QA,Qy,QR,AV.cellsOf,Qd,Qe,Nat.reduceAdd]);rfl) ?_
    refine Qc 2 Qj (.tmp rfl) rfl (.tmp rfl) rfl vl rfl rfl (JL.nil ?_)
    refine thenQ.n ⟨[],_,rfl,rfl,rfl,rfl,rfl,QJ 3 rfl,trivial,⟨trivial,trivial⟩,?_⟩
    refine JX.conv (S':=[18,17,15,14,13,12,11,10,9,8,7,6,5,4,3,2,1,0]) rfl (by(try simp only[QS]);rfl) (by(try simp only[Ua,Uj,Q5,QS,Flt.val,Flt.bx,nx,nl,Qk,Qz,QA,Qy,QR,AV.cellsOf,Qd,Qe,Nat.reduceAdd]);rfl) ?_
    refine Zf 19 [97] rfl (fun _=>QW.assign (.tmp rfl)) (JX.fin (by kernel_rfl) (by kernel_rfl) fun bs_=>?_)
    refine QX.conv (by(try simp only[Ua,Uj,Q5,QS,Flt.val,Flt.bx,nx,nl,Qk,Qz,QA,Qy,QR,AV.cellsOf,Qd,Qe,Nat.reduceAdd]);rfl) ?_
    refine thenQ.n (Zs (Zq rfl (QW.move (.tmp rfl)) (Zq rfl (QW.eql (.tmp rfl) .const) ?_)))
    refine Qs [] Yx rfl Lent.nil (fun _=>(.cons (.tmp rfl) (.cons .const .nil))) (XE _ _) (.inl rfl) (fun k100 x100 o100 h100=>?_) (fun k100=>?_)
    rotate_left
    · skip
      refine thenQ.p (blkQ.p (thenQ.p ?_))
      exact⟨_,QN [.k,.k,.k] _,_,rfl,rfl,Qn [.k,.k,.k] _,PlR.er (c:=84) (by rw[pe24,if_neg (by simpa[Ug]using k80)];exact Ed (by simpa using k100)) (by decide)⟩
    obtain⟨rfl,rfl⟩:=h100
    exact Zn (Zs (Zq rfl (Qf 2 Qj (.tmp rfl) rfl (Qm vl rfl) vl) (Qc 0 Qj (.tmp rfl) rfl (.tmp rfl) rfl vl rfl rfl (Zn (J.ret (blkQ.r (thenQ.r (Zr [.k,.k,.k] (RetEv.one rfl (REv.cell 0 Qj rfl rfl (Qm vl rfl) vl (Kd _))) rfl (PlR.ok (by rw[pe24,if_neg (by simpa[Ug]using k80)];exact H6 (by simpa using k100)))))))))))
  have n24:¬o=24:=by simpa using c5
  obtain rfl:o=25:=by omega
  obtain⟨a,b,rfl⟩:=Xq (l:=l) (by omega)
  have ha:=hl a (by simp)
  have hb:=hl b (by simp)
  refine J.skip (blkQ.n (thenQ.n (Zs (Zq rfl (QW.move (.tmp rfl)) (Zq rfl (QW.buildSlice (idx:=[0]) (xs:=WB [5]) YF C2 z3 rfl (.cons .const .nil) rfl rfl rfl rfl rfl rfl rfl rfl rfl) ?_)))))
  refine Qs [] W9 rfl Lent.nil (fun _=>(.cons (.tmp rfl) (.cons (.tmp rfl) .nil))) (Wt _ [5] (by simp) (by simp)) (.inl rfl) (fun k104 x104 o104 h104=>?_) (fun k104=>?_)
  rotate_left
  · skip
    refine thenQ.p ?_
    exact⟨_,QN [.k,.k] _,_,rfl,rfl,Qn [.k,.k] _,PlR.er (c:=81) ((pe25 t a b).trans (if_pos (by simpa[Ug]using k104))) (by decide)⟩
  obtain⟨rfl,rfl⟩:=h104
  refine Zn (J.seq (QU Uc (Zf 0 [] rfl (fun _=>QW.move (.tmp rfl)) (Zf 1 [106] rfl (fun _=>Qi QO Qj rfl (.tmp rfl) .const rfl rfl) (Zf 2 [107] rfl (fun _=>Ql Qj (.tmp rfl) (QH vl rfl) vl) (Zf 3 [] rfl (fun _=>Qa N3 (.tmp rfl) rfl) (Zo 4 1 [109] rfl (fun _ ho_=>Qb 1 U9 (.tmp rfl) ho_ rfl) (Zf 5 [110] rfl (fun _=>QW.build (idx:=[0,1]) F4 Fu rfl (.cons .const (.cons (.tmp rfl) .nil)) rfl rfl rfl rfl) (Zf 6 [111] rfl (fun _=>QW.buildSlice (idx:=[0]) (xs:=StT.css [⟨true,t,0⟩]) NG Qan Fu rfl (.cons (.tmp rfl) .nil) rfl rfl rfl rfl rfl rfl rfl rfl rfl) ?_)))))))))
  refine Zf 7 [] rfl (fun _=>QW.move (.tmp rfl)) (Zf 8 [113] rfl (fun _=>Qi QO Qj rfl (.tmp rfl) .const rfl rfl) (Zf 9 [114] rfl (fun _=>Ql Qj (.tmp rfl) (QH vl rfl) vl) (Zf 10 [108,112,115] rfl (fun _=>QW.call Dp (.cons (.tmp rfl) (.cons (.tmp rfl) (.cons (.tmp rfl) .nil))) (T0 (v:=a) (x:=b) (p:=[⟨true,t,0⟩]) Vc.self Vc.self ha.wf hb.wf (ND ⟨ht,show(-9223372036854775808:Int)≤0∧(0:Int)≤9223372036854775807 by decide⟩))) ?_)))
  refine Zf 11 [116] rfl (fun _=>QW.move (.tmp rfl)) (Zf 12 [105] rfl (fun _=>QW.extract (.tmp rfl) rfl) (Zf 13 [105] rfl (fun _=>QW.extract (.tmp rfl) rfl) (JX.a 14 rfl (AllocOp.mk WQ rfl) rfl rfl rfl rfl rfl (JX.one 15 [true,false,true,true,true,true,true,true,true,true,true,true,true,true,true] rfl (by kernel_rfl) (by kernel_rfl) rfl rfl (by kernel_rfl) rfl fun bs15_ pe_ ex_=>?_))))
  refine JL.conv (by(try simp only[Ua,Uj,Q5,QS,Flt.val,Flt.bx,nx,nl,Qk,Qz,QA,Qy,QR,AV.cellsOf,Qd,Qe,Nat.reduceAdd]);rfl) ?_
  refine Qc 2 Qj (.tmp rfl) rfl (.tmp rfl) rfl vl rfl rfl (JL.nil ?_)
  refine thenQ.n ⟨[],_,rfl,rfl,rfl,rfl,rfl,QJ 3 rfl,trivial,⟨trivial,trivial⟩,?_⟩
  refine JX.conv (S':=[15,14,12,11,10,9,8,7,6,5,4,3,2,1,0]) rfl (by(try simp only[QS]);rfl) (by(try simp only[Ua,Uj,Q5,QS,Flt.val,Flt.bx,nx,nl,Qk,Qz,QA,Qy,QR,AV.cellsOf,Qd,Qe,Nat.reduceAdd]);rfl) ?_
  refine Zf 16 [118] rfl (fun _=>QW.assign (.tmp rfl)) (JX.fin (by kernel_rfl) (by kernel_rfl) fun bs_=>?_)
  refine QX.conv (by(try simp only[Ua,Uj,Q5,QS,Flt.val,Flt.bx,nx,nl,Qk,Qz,QA,Qy,QR,AV.cellsOf,Qd,Qe,Nat.reduceAdd]);rfl) ?_
  refine thenQ.n (Zs (Zq rfl (QW.move (.tmp rfl)) (Zq rfl (QW.eql (.tmp rfl) .const) ?_)))
  refine Qs [] Yx rfl Lent.nil (fun _=>(.cons (.tmp rfl) (.cons .const .nil))) (XE _ _) (.inl rfl) (fun k121 x121 o121 h121=>?_) (fun k121=>?_)
  rotate_left
  · skip
    refine thenQ.p ?_
    exact⟨_,QN [.k,.k,.k] _,_,rfl,rfl,Qn [.k,.k,.k] _,PlR.er (c:=84) (by rw[pe25,if_neg (by simpa[Ug]using k104)];exact Ed (by simpa using k121)) (by decide)⟩
  obtain⟨rfl,rfl⟩:=h121
  exact Zn (Zs (Zq rfl (Qf 2 Qj (.tmp rfl) rfl (Qm vl rfl) vl) (Qc 0 Qj (.tmp rfl) rfl (.tmp rfl) rfl vl rfl rfl (Zn (J.ret (Zr [.k,.k,.k] (RetEv.one rfl (REv.cell 0 Qj rfl rfl (Qm vl rfl) vl (Kd _))) rfl (PlR.ok (by rw[pe25,if_neg (by simpa[Ug]using k104)];exact H6 (by simpa using k121)))))))))

end
section
/- Walks: orders of numbers, texts, lists. -/
set_option maxRecDepth 10000
set_option maxHeartbeats 4000000
theorem Qau(a b:Int):Fn Tryz.prog 137 [.c (.int .i64 a),.c (.int .i64 b)] (.c (.int .i64 (Hy a b))):=C8 a b
theorem Nj{a b:List Ui}{k:Nat}(ha:k<a.length)(hb:k<b.length):K7 (a.drop k) (b.drop k)=Ei (Ma a[k] b[k]) (K7 (a.drop (k+1)) (b.drop (k+1))):=by
  rw[List.drop_eq_getElem_cons ha,List.drop_eq_getElem_cons hb,K7]
theorem Qas{a b:List Ui}{k:Nat}(ha:k<a.length)(hb:b.length≤k):K7 (a.drop k) (b.drop k)=1:=by
  rw[List.drop_eq_getElem_cons ha,List.drop_of_length_le hb,K7]
theorem Qar{a b:List Ui}{k:Nat}(ha:a.length≤k)(hb:k<b.length):K7 (a.drop k) (b.drop k)= -1:=by
  rw[List.drop_eq_getElem_cons hb,List.drop_of_length_le ha,K7]
theorem Qat{a b:List Ui}{k:Nat}(ha:a.length≤k)(hb:b.length≤k):K7 (a.drop k) (b.drop k)=0:=by
  rw[List.drop_of_length_le hb,List.drop_of_length_le ha,K7]
theorem MV{a b:List V}{k:Nat}(ha:k<a.length)(hb:k<b.length):WE (a.drop k) (b.drop k)=Ei (a[k].ord b[k]) (WE (a.drop (k+1)) (b.drop (k+1))):=by
  rw[List.drop_eq_getElem_cons ha,List.drop_eq_getElem_cons hb,WE]
theorem So{a b:List V}{k:Nat}(ha:k<a.length)(hb:b.length≤k):WE (a.drop k) (b.drop k)=1:=by
  rw[List.drop_eq_getElem_cons ha,List.drop_of_length_le hb,WE]
theorem Sn{a b:List V}{k:Nat}(ha:a.length≤k)(hb:k<b.length):WE (a.drop k) (b.drop k)= -1:=by
  rw[List.drop_eq_getElem_cons hb,List.drop_of_length_le ha,WE]
theorem Sp{a b:List V}{k:Nat}(ha:a.length≤k)(hb:b.length≤k):WE (a.drop k) (b.drop k)=0:=by
  rw[List.drop_of_length_le hb,List.drop_of_length_le ha,WE]
theorem Eh{a b:Int}(h:a≠0):Ei a b=a:=if_pos h
theorem Eg{b:Int}:Ei 0 b=b:=if_neg (fun h=>h rfl)
def Fs:List Int→Int
  |[]=>0
  |x::r=>Ei x (Fs r)
theorem RQ{l:List Int}{k:Nat}(h:k<l.length):Fs (l.drop k)=Ei l[k] (Fs (l.drop (k+1))):=by
  rw[List.drop_eq_getElem_cons h,Fs]
theorem Sr{l:List Int}{k:Nat}(h:l.length≤k):Fs (l.drop k)=0:=by rw[List.drop_of_length_le h,Fs]
theorem Sq(a:Int):Fs [a]=a:=by simp only[Fs,Ei];split<;>omega
theorem Em(n:Int):Fn Tryz.prog 151 [.c (.int .u64 n)] (.c (.bool false)):=by
  refine AC.of_J Tryz.func151 rfl Tryz.ntmps151 rfl fun w0 A0=>?_
  exact Zs (Zq rfl (QW.assign .const) (Zn (Zs (Zq rfl (QW.move (.tmp rfl)) (Zq rfl (QW.move (.tmp rfl)) (Zq rfl (QW.neq (.tmp rfl) (.tmp rfl)) (Zq rfl (QW.assign (.tmp rfl)) (Zn (J.ret (Zr [] (RetEv.one rfl (REv.tmp rfl lr)) rfl ⟨WH (by simp),rfl⟩))))))))))
theorem Qaq(a b:Int):Fn Tryz.prog 140 [.c (.int .u64 a),.c (.int .u64 b)] (.c (.int .i64 (Hy a b))):=by
  refine AC.of_J Tryz.func140 rfl Tryz.ntmps140 rfl fun w0 A0=>?_
  refine Zs (Zq rfl (QW.assign .const) (Zn (Zs (Zq rfl (QW.move (.tmp rfl)) (Zq rfl (QW.call EA (.cons (.tmp rfl) .nil) (Em _)) (Zq rfl (QW.assign (.tmp rfl)) (Zn (Zs (Zq rfl (QW.move (.tmp rfl)) ?_)))))))))
  refine Zq rfl (QW.call EA (.cons (.tmp rfl) .nil) (Em _)) (Zq rfl (QW.assign (.tmp rfl)) (Zn (J.seq (Zs (Zq rfl (QW.move (.tmp rfl)) (Zn ?_))))))
  refine J.cond (.tmp rfl) (fun c1=>absurd c1 (by simp)) (fun c1=>?_)
  refine Zk (J.seq (Zs (Zq rfl (QW.move (.tmp rfl)) (Zn ?_))))
  refine J.cond (.tmp rfl) (fun c2=>absurd c2 (by simp)) (fun c2=>?_)
  refine Zk (J.seq (Zs (Zq rfl (QW.move (.tmp rfl)) (Zq rfl (QW.move (.tmp rfl)) (Zq rfl (QW.lss (.tmp rfl) (.tmp rfl)) (Zn ?_))))))
  refine J.cond (.tmp rfl) (fun c3=>?_) (fun c3=>?_)
  · skip
    simp at c3
    exact Zs (Zq rfl (QW.assign .const) (Zn (J.ret (thenQ.r (Zr [] (RetEv.one rfl (REv.tmp rfl lr)) rfl ⟨by rw[show Hy a b= -1 from if_pos c3],rfl⟩)))))
  simp at c3
  refine Zk (J.seq (Zs (Zq rfl (QW.move (.tmp rfl)) (Zq rfl (QW.move (.tmp rfl)) (Zq rfl (QW.gtr (.tmp rfl) (.tmp rfl)) (Zn ?_))))))
  refine J.cond (.tmp rfl) (fun c4=>?_) (fun c4=>?_)
  · skip
    simp at c4
    exact Zs (Zq rfl (QW.assign .const) (Zn (J.ret (thenQ.r (Zr [] (RetEv.one rfl (REv.tmp rfl lr)) rfl ⟨by rw[show Hy a b=1 by unfold Hy;rw[if_neg (by omega),if_pos (by omega)]],rfl⟩)))))
  simp at c4
  exact Zk (Zs (Zq rfl (QW.assign .const) (Zn (J.ret (Zr [] (RetEv.one rfl (REv.tmp rfl lr)) rfl ⟨by rw[show Hy a b=0 by unfold Hy;rw[if_neg (by omega),if_neg (by omega)]],rfl⟩)))))
theorem Ni(a b:Ui):Fn Tryz.prog 141 [.c (Um a),.c (Um b)] (.c (.int .i64 (Ma a b))):=by
  refine AC.of_J Tryz.func141 rfl Tryz.ntmps141 rfl fun w0 A0=>?_
  refine Zs (Zq rfl (QW.assign .const) (Zn (Zs (Zq rfl (QW.move (.tmp rfl)) (Zq rfl (QW.call NW (.cons (.tmp rfl) .nil) (Kc _)) (Zq rfl (QW.assign (.tmp rfl)) (Zn (Zs (Zq rfl (QW.move (.tmp rfl)) ?_)))))))))
  refine Zq rfl (QW.call NW (.cons (.tmp rfl) .nil) (Kc _)) (Zq rfl (QW.assign (.tmp rfl)) (Zn (J.seq (Zs (Zq rfl (QW.move (.tmp rfl)) (Zn ?_))))))
  refine J.cond (.tmp rfl) (fun c1=>absurd c1 (by simp)) (fun c1=>?_)
  refine Zk (J.seq (Zs (Zq rfl (QW.move (.tmp rfl)) (Zn ?_))))
  refine J.cond (.tmp rfl) (fun c2=>absurd c2 (by simp)) (fun c2=>?_)
  refine Zk (J.seq (Zs (Zq rfl (QW.move (.tmp rfl)) (Zq rfl (QW.move (.tmp rfl)) (Zq rfl (TE (.tmp rfl) (.tmp rfl)) (Zn ?_))))))
  refine J.cond (.tmp rfl) (fun c3=>?_) (fun c3=>?_)
  · skip
    exact Zs (Zq rfl (QW.assign .const) (Zn (J.ret (thenQ.r (Zr [] (RetEv.one rfl (REv.tmp rfl lr)) rfl ⟨by simp[Ma,c3],rfl⟩)))))
  refine Zk (J.seq (Zs (Zq rfl (QW.move (.tmp rfl)) (Zq rfl (QW.move (.tmp rfl)) (Zq rfl (TF (.tmp rfl) (.tmp rfl)) (Zn ?_))))))
  refine J.cond (.tmp rfl) (fun c4=>?_) (fun c4=>?_)
  · skip
    exact Zs (Zq rfl (QW.assign .const) (Zn (J.ret (thenQ.r (Zr [] (RetEv.one rfl (REv.tmp rfl lr)) rfl ⟨by rw[LV]at c4;simp[Ma,c3,c4],rfl⟩)))))
  exact Zk (Zs (Zq rfl (QW.assign .const) (Zn (J.ret (Zr [] (RetEv.one rfl (REv.tmp rfl lr)) rfl ⟨by rw[LV]at c4;simp[Ma,c3,c4],rfl⟩)))))
theorem or_ok{fr c:Bool}(l:List Int)(hl:l.length≤1000):Fn Tryz.prog 139 [.sl fr c eI64 (WB l)] (.c (.int .i64 (Fs l))):=by
  refine AC.of_J Tryz.func139 rfl Tryz.ntmps139 rfl fun w0 A0=>?_
  refine Zs (Zq rfl (QW.assign .const) (Zn (Zs (Zq rfl (QW.assign .const) (Zn (J.seq (Zs (Zq rfl (QW.move (.tmp rfl)) (Zq rfl (Qh YF (.tmp rfl) (YA _)) ?_)))))))))
  refine Zq rfl (QW.move .const) (Zn (J.block (Q0 (ι:=Nat) [3,6,7] (fun k=>[(8,.c (.int .i64 (k:Int)))]) (fun _ oo=>oo) (fun k=>k≤l.length∧Fs l=Fs (l.drop k)) (fun k=>l.length-k) 0 (⟨Nat.zero_le _,rfl⟩) (QK (.cons rfl lr (.cons rfl lr (.cons rfl lr (.cons rfl lr .nil)))) (Reown.refl _) (fun _ h=>by first|exact h|simp[h])) ?_)))
  intro k ⟨hk,hs⟩
  refine J.conv (by(try simp only[nl,Qk,Qz,QA,Qy,QR,AV.cellsOf,Qd,Qe,Nat.reduceAdd]);rfl) ?_
  refine Zs (Zq rfl (QW.lss (.tmp rfl) (.tmp rfl)) (Zn (J.seq ?_)))
  refine J.cond (.tmp rfl) (fun c1=>?_) (fun c1=>?_)
  · skip
    have hlt:k<l.length:=by simpa using c1
    refine Zk (J.seq (J.block (Zs (Zq rfl (Qi YF UQ rfl (.tmp rfl) (.tmp rfl) rfl (by exact HU hlt)) ?_))))
    refine Zq rfl (Qq UQ (.tmp rfl) rfl) (Zq rfl (QW.assign (.tmp rfl)) (Zn (Zs (Zq rfl (QW.move (.tmp rfl)) (Zq rfl (QW.move (.tmp rfl)) (Zq rfl (QW.neq (.tmp rfl) (.tmp rfl)) (Zn ?_)))))))
    refine J.cond (.tmp rfl) (fun c2=>?_) (fun c2=>?_)
    · skip
      have hz:l[k]'hlt≠0:=by simpa using c2
      exact Zs (Zq rfl (QW.move (.tmp rfl)) (Zq rfl (QW.assign (.tmp rfl)) (Zn (J.ret (blkQ.r (thenQ.r (thenQ.r (blkQ.r (thenQ.r (Zr [] (RetEv.one rfl (REv.tmp rfl lr)) rfl ⟨by rw[hs,RQ hlt,Eh hz],rfl⟩))))))))))
    have hz:l[k]'hlt=0:=by simpa using c2
    refine J.skip (blkQ.n (thenQ.n (Qg (Zq rfl (QW.add (.tmp rfl) .const (WW (by omega))) (Zq rfl (QW.move (.tmp rfl)) (Zn ?_))))))
    exact⟨k+1,⟨hlt,by rw[hs,RQ hlt,hz,Eg]⟩,by omega,QK (.cons rfl lr (.cons rfl lr (.cons rfl lr (.cons rfl lr .nil)))) (Reown.refl _) (fun _ h=>by first|exact h|simp[h])⟩
  have hge:l.length≤k:=by simpa using c1
  exact J.exit (Qv (Qv (QM (thenQ.n (Zs (Zq rfl (QW.move (.tmp rfl)) (Zq rfl (QW.assign (.tmp rfl)) (Zn (J.ret (Zr [] (RetEv.one rfl (REv.tmp rfl lr)) rfl ⟨by rw[hs,Sr hge],rfl⟩))))))))))
theorem DN{fr fr2 cl cl2:Bool}(a b:List Ui)(ha:a.length≤8796093022208)(hb:b.length≤8796093022208):Fn Tryz.prog 142 [.sl fr cl WZ (Q6 a),.sl fr2 cl2 WZ (Q6 b)] (.c (.int .i64 (K7 a b))):=by
  refine AC.of_J Tryz.func142 rfl Tryz.ntmps142 rfl fun w0 A0=>?_
  refine Zs (Zq rfl (QW.assign .const) (Zn (J.seq (Zs (Zq rfl (QW.move (.tmp rfl)) (Zq rfl (Qh UC (.tmp rfl) (Qo _)) (Zq rfl (QW.move .const) (Zn (J.block ?_)))))))))
  refine Q0 (ι:=Nat) [0,1,9,10] (fun k=>[(11,.c (.int .i64 (k:Int)))]) (fun _ oo=>oo) (fun k=>k≤a.length∧k≤b.length∧K7 a b=K7 (a.drop k) (b.drop k)) (fun k=>a.length-k) 0 (⟨Nat.zero_le _,Nat.zero_le _,rfl⟩) (QK (.cons rfl lr (.cons rfl lr (.cons rfl lr (.cons rfl lr (.cons rfl lr .nil))))) (Reown.refl _) (fun _ h=>by first|exact h|simp[h])) ?_
  intro k ⟨hk,hk2,hs⟩
  refine J.conv (by(try simp only[nl,Qk,Qz,QA,Qy,QR,AV.cellsOf,Qd,Qe,Nat.reduceAdd]);rfl) ?_
  refine Zs (Zq rfl (QW.lss (.tmp rfl) (.tmp rfl)) (Zn (J.seq ?_)))
  refine J.cond (.tmp rfl) (fun c1=>?_) (fun c1=>?_)
  · skip
    have hlt:k<a.length:=by simpa using c1
    refine Zk (J.seq (J.block (Zs (Zq rfl (QW.move (.tmp rfl)) (Zq rfl (Qi UC U9 rfl (.tmp rfl) (.tmp rfl) rfl (YH hlt)) (Zq rfl (Qq U9 (.tmp rfl) rfl) (Zq rfl (QW.assign (.tmp rfl)) (Zq rfl (QW.assign (.tmp rfl)) (Zn ?_)))))))))
    refine J.seq (Zs (Zq rfl (QW.move (.tmp rfl)) (Zq rfl (QW.move (.tmp rfl)) (Zq rfl (Qh UC (.tmp rfl) (Qo _)) (Zq rfl (QW.geq (.tmp rfl) (.tmp rfl)) (Zn ?_))))))
    refine J.cond (.tmp rfl) (fun c2=>?_) (fun c2=>?_)
    · skip
      have hg2:b.length≤k:=by simpa using c2
      exact Zs (Zq rfl (QW.assign .const) (Zn (J.ret (thenQ.r (blkQ.r (thenQ.r (thenQ.r (blkQ.r (thenQ.r (Zr [] (RetEv.one rfl (REv.tmp rfl lr)) rfl ⟨by rw[hs,Qas hlt hg2],rfl⟩))))))))))
    have hlt2:k<b.length:=by simpa using c2
    refine Zk (Zs (Zq rfl (QW.move (.tmp rfl)) (Zq rfl (QW.move (.tmp rfl)) (Zq rfl (Qi UC U9 rfl (.tmp rfl) (.tmp rfl) rfl (YH hlt2)) (Zq rfl (Qq U9 (.tmp rfl) rfl) (Zq rfl (QW.assign (.tmp rfl)) (Zn (Zs (Zq rfl (QW.move (.tmp rfl)) ?_)))))))))
    refine Zq rfl (QW.move (.tmp rfl)) (Zq rfl (QW.call EC (.cons (.tmp rfl) (.cons (.tmp rfl) .nil)) (Ni _ _)) (Zq rfl (QW.assign (.tmp rfl)) (Zn (Zs (Zq rfl (QW.move (.tmp rfl)) (Zq rfl (QW.neq (.tmp rfl) .const) (Zn ?_)))))))
    refine J.cond (.tmp rfl) (fun c3=>?_) (fun c3=>?_)
    · skip
      have hz:Ma (a[k]'hlt) (b[k]'hlt2)≠0:=by simpa using c3
      exact Zs (Zq rfl (QW.move (.tmp rfl)) (Zq rfl (QW.assign (.tmp rfl)) (Zn (J.ret (blkQ.r (thenQ.r (thenQ.r (blkQ.r (thenQ.r (Zr [] (RetEv.one rfl (REv.tmp rfl lr)) rfl ⟨by rw[hs,Nj hlt hlt2,Eh hz],rfl⟩))))))))))
    have hz:Ma (a[k]'hlt) (b[k]'hlt2)=0:=by simpa using c3
    refine J.skip (blkQ.n (thenQ.n (Qg (Zq rfl (QW.add (.tmp rfl) .const (WW (by omega))) (Zq rfl (QW.move (.tmp rfl)) (Zn ?_))))))
    exact⟨k+1,⟨hlt,hlt2,by rw[hs,Nj hlt hlt2,hz,Eg]⟩,by omega,QK (.cons rfl lr (.cons rfl lr (.cons rfl lr (.cons rfl lr (.cons rfl lr .nil))))) (Reown.refl _) (fun _ h=>by first|exact h|simp[h])⟩
  have hge:a.length≤k:=by simpa using c1
  refine J.exit (Qv (Qv (QM (thenQ.n (J.seq (Zs (Zq rfl (QW.move (.tmp rfl)) (Zq rfl (Qh UC (.tmp rfl) (Qo _)) (Zq rfl (QW.move (.tmp rfl)) ?_)))))))))
  refine Zq rfl (Qh UC (.tmp rfl) (Qo _)) (Zq rfl (QW.lss (.tmp rfl) (.tmp rfl)) (Zn ?_))
  refine J.cond (.tmp rfl) (fun c2=>?_) (fun c2=>?_)
  · skip
    have hx:a.length<b.length:=by simpa using c2
    exact Zs (Zq rfl (QW.assign .const) (Zn (J.ret (thenQ.r (Zr [] (RetEv.one rfl (REv.tmp rfl lr)) rfl ⟨by rw[hs,Qar hge (by omega)],rfl⟩)))))
  have hx:b.length≤a.length:=by simpa using c2
  exact Zk (Zs (Zq rfl (QW.assign .const) (Zn (J.ret (Zr [] (RetEv.one rfl (REv.tmp rfl lr)) rfl ⟨by rw[hs,Qat hge (by omega)],rfl⟩)))))
theorem DM{fr fr2 cl cl2:Bool}(a b:List V)(ha:a.length≤8796093022208)(hb:b.length≤8796093022208)(ih:∀x∈a,∀y∈b,Fn Tryz.prog 124 [.agg (x.cs fr),.agg (y.cs fr2)] (.c (.int .i64 (x.ord y)))):Fn Tryz.prog 143 [.sl fr cl eV (V.css fr a),.sl fr2 cl2 eV (V.css fr2 b),.c (.func (.func 124) #[] #[])] (.c (.int .i64 (WE a b))):=by
  refine AC.of_J Tryz.func143 rfl Tryz.ntmps143 rfl fun w0 A0=>?_
  refine Zs (Zq rfl (QW.assign .const) (Zn (J.seq (Zs (Zq rfl (QW.move (.tmp rfl)) (Zq rfl (Qh QO (.tmp rfl) wl) (Zq rfl (QW.move .const) (Zn (J.block ?_)))))))))
  refine Q0 (ι:=Nat) [0,1,2,11,12] (fun k=>[(13,.c (.int .i64 (k:Int)))]) (fun _ oo=>oo) (fun k=>k≤a.length∧k≤b.length∧WE a b=WE (a.drop k) (b.drop k)) (fun k=>a.length-k) 0 (⟨Nat.zero_le _,Nat.zero_le _,rfl⟩) (QK (.cons rfl lr (.cons rfl lr (.cons rfl lr (.cons rfl lr (.cons rfl lr (.cons rfl lr .nil)))))) (Reown.refl _) (fun _ h=>by first|exact h|simp[h])) ?_
  intro k ⟨hk,hk2,hs⟩
  refine J.conv (by(try simp only[nl,Qk,Qz,QA,Qy,QR,AV.cellsOf,Qd,Qe,Nat.reduceAdd]);rfl) ?_
  refine Zs (Zq rfl (QW.lss (.tmp rfl) (.tmp rfl)) (Zn (J.seq ?_)))
  refine J.cond (.tmp rfl) (fun c1=>?_) (fun c1=>?_)
  · skip
    have hlt:k<a.length:=by simpa using c1
    refine Zk (J.seq (J.block (Zs (Zq rfl (QW.move (.tmp rfl)) (Zq rfl (Qi QO Qj rfl (.tmp rfl) (.tmp rfl) rfl (V.css_getE _ hlt)) (Zq rfl (Ql Qj (.tmp rfl) (QH vl rfl) vl) (JL.alloc WQ rfl rfl fun b8=>Zq rfl (QW.assign (.tmp rfl)) (Qc 0 Qj (.tmp rfl) rfl (.tmp rfl) rfl vl rfl rfl ?_))))))))
    refine Zn (J.seq (Zs (Zq rfl (QW.move (.tmp rfl)) (Zq rfl (QW.move (.tmp rfl)) (Zq rfl (Qh QO (.tmp rfl) wl) (Zq rfl (QW.geq (.tmp rfl) (.tmp rfl)) (Zn ?_)))))))
    refine J.cond (.tmp rfl) (fun c2=>?_) (fun c2=>?_)
    · skip
      have hg2:b.length≤k:=by simpa using c2
      exact Zs (Zq rfl (QW.assign .const) (Zn (J.ret (thenQ.r (blkQ.r (thenQ.r (thenQ.r (blkQ.r (thenQ.r (Zr [.k] (RetEv.one rfl (REv.tmp rfl lr)) rfl ⟨by rw[hs,So hlt hg2],rfl⟩))))))))))
    have hlt2:k<b.length:=by simpa using c2
    refine Zk (Zs (Zq rfl (QW.move (.tmp rfl)) (Zq rfl (QW.move (.tmp rfl)) (Zq rfl (Qi QO Qj rfl (.tmp rfl) (.tmp rfl) rfl (V.css_getE _ hlt2)) (Zq rfl (Ql Qj (.tmp rfl) (QH vl rfl) vl) (JL.alloc WQ rfl rfl fun b9=>Qc 0 Qj (.tmp rfl) rfl (.tmp rfl) rfl vl rfl rfl (Zn (Zs ?_))))))))
    refine Zq rfl (QW.move (.tmp rfl)) (Zq rfl (Qf 1 Qj (.tmp rfl) rfl (Qm vl rfl) vl) (Zq rfl (Qf 0 Qj (.tmp rfl) rfl (Qm vl rfl) vl) (Zq rfl (QW.callV EG (.tmp rfl) (.cons (.tmp rfl) (.cons (.tmp rfl) .nil)) rfl (ih _ (List.getElem_mem hlt) _ (List.getElem_mem hlt2))) (Zq rfl (QW.assign (.tmp rfl)) (Zn (Zs (Zq rfl (QW.move (.tmp rfl)) (Zq rfl (QW.neq (.tmp rfl) .const) (Zn ?_)))))))))
    refine J.cond (.tmp rfl) (fun c3=>?_) (fun c3=>?_)
    · skip
      have hz:(a[k]'hlt).ord (b[k]'hlt2)≠0:=by simpa using c3
      exact Zs (Zq rfl (QW.move (.tmp rfl)) (Zq rfl (QW.assign (.tmp rfl)) (Zn (J.ret (blkQ.r (thenQ.r (thenQ.r (blkQ.r (thenQ.r (Zr [.k,.k] (RetEv.one rfl (REv.tmp rfl lr)) rfl ⟨by rw[hs,MV hlt hlt2,Eh hz],rfl⟩))))))))))
    have hz:(a[k]'hlt).ord (b[k]'hlt2)=0:=by simpa using c3
    refine J.skip (blkQ.n (thenQ.n (Qg (Zq rfl (QW.add (.tmp rfl) .const (WW (by omega))) (Zq rfl (QW.move (.tmp rfl)) (Zn ?_))))))
    exact⟨k+1,⟨hlt,hlt2,by rw[hs,MV hlt hlt2,hz,Eg]⟩,by omega,QK (.cons rfl lr (.cons rfl lr (.cons rfl lr (.cons rfl lr (.cons rfl lr (.cons rfl lr .nil)))))) (Q9 2 _ rfl) (fun _ h=>by first|exact h|simp[h])⟩
  have hge:a.length≤k:=by simpa using c1
  refine J.exit (Qv (Qv (QM (thenQ.n (J.seq (Zs (Zq rfl (QW.move (.tmp rfl)) (Zq rfl (Qh QO (.tmp rfl) wl) (Zq rfl (QW.move (.tmp rfl)) ?_)))))))))
  refine Zq rfl (Qh QO (.tmp rfl) wl) (Zq rfl (QW.lss (.tmp rfl) (.tmp rfl)) (Zn ?_))
  refine J.cond (.tmp rfl) (fun c2=>?_) (fun c2=>?_)
  · skip
    have hx:a.length<b.length:=by simpa using c2
    exact Zs (Zq rfl (QW.assign .const) (Zn (J.ret (thenQ.r (Zr [] (RetEv.one rfl (REv.tmp rfl lr)) rfl ⟨by rw[hs,Sn hge (by omega)],rfl⟩)))))
  have hx:b.length≤a.length:=by simpa using c2
  exact Zk (Zs (Zq rfl (QW.assign .const) (Zn (J.ret (Zr [] (RetEv.one rfl (REv.tmp rfl lr)) rfl ⟨by rw[hs,Sp hge (by omega)],rfl⟩)))))

end
section
/- Walks: the order of values. -/
set_option maxRecDepth 10000
set_option maxHeartbeats 4000000
theorem Fv:∀(n:Nat) {v u:V} {ys zs:List AV} {fr fr2:Bool},Vc fr v ys→Vc fr2 u zs→v.wf→u.wf→v.sz≤n→
    Fn Tryz.prog 124 [.agg ys,.agg zs] (.c (.int .i64 (v.ord u))):=by
  intro n
  induction n with
  |zero=>intro v u ys zs fr fr2 hv hu hw hw2 h;exact absurd h (by have:=V.sz_pos v;omega)
  |succ n ih=>
    intro v u ys zs fr fr2 hv hu hw hw2 hn
    obtain⟨k,b,t,ks,is⟩:=v
    obtain⟨k',b',t',ks',is'⟩:=u
    subst hv hu
    obtain⟨-,hb,-,hk16,hi80,-,hwi⟩:=hw.inv
    obtain⟨-,hb2,-,hk16',hi80',-,hwi'⟩:=hw2.inv
    have h1:is.length≤8796093022208:=by unfold Qu at hi80;omega
    have h2:is'.length≤8796093022208:=by unfold Qu at hi80';omega
    have h3:ks.length≤8796093022208:=by unfold Qu at hk16;omega
    have h4:ks'.length≤8796093022208:=by unfold Qu at hk16';omega
    refine AC.of_J Tryz.func124 rfl Tryz.ntmps124 rfl fun w0 A0=>?_
    refine Zs (Qp (.tmp rfl) rfl fun b2=>Qp (.tmp rfl) rfl fun b3=>Zq rfl (QW.assign .const) (Zn (J.seq (Zs (Zq rfl (Qa UJ (.tmp rfl) rfl) (Zq rfl (Qb 1 UQ (.tmp rfl) rfl rfl) (Zq rfl (Qa UJ (.tmp rfl) rfl) ?_)))))))
    refine Zq rfl (Qb 0 UQ (.tmp rfl) rfl rfl) (Zq rfl (QW.call SM (.cons (.tmp rfl) (.cons (.tmp rfl) .nil)) (Qau _ _)) (Zq rfl (QW.assign (.tmp rfl)) (Zn (Zs (Zq rfl (QW.move (.tmp rfl)) (Zq rfl (QW.neq (.tmp rfl) .const) (Zn ?_)))))))
    refine J.cond (.tmp rfl) (fun c1=>?_) (fun c1=>?_)
    · skip
      have hz:Hy k k'≠0:=by simpa using c1
      exact Zs (Zq rfl (QW.move (.tmp rfl)) (Zq rfl (QW.assign (.tmp rfl)) (Zn (J.ret (thenQ.r (Zr [.k,.k] (RetEv.one rfl (REv.tmp rfl lr)) rfl ⟨by simp only[V.ord];rw[Eh hz],rfl⟩))))))
    have hz:Hy k k'=0:=by simpa using c1
    refine Zk (J.seq (QU Uc (Zf 0 [] rfl (fun _=>Qa Uu (.tmp rfl) rfl) (Zo 1 1 [16] rfl (fun _ ho_=>Qb 1 Wi (.tmp rfl) ho_ rfl) (Zf 2 [] rfl (fun _=>Qa Uu (.tmp rfl) rfl) (Zo 3 0 [18] rfl (fun _ ho_=>Qb 0 Wi (.tmp rfl) ho_ rfl) (Zf 4 [17] rfl (fun _=>QW.assign (.tmp rfl)) (Zf 5 [19] rfl (fun _=>QW.assign (.tmp rfl)) (JX.fin (by kernel_rfl) (by kernel_rfl) fun bs_=>?_)))))))))
    refine QX.conv (by(try simp only[Ua,Uj,Q5,QS,Flt.val,Flt.bx,nx,nl,Qk,Qz,QA,Qy,QR,AV.cellsOf,Qd,Qe,Nat.reduceAdd]);rfl) ?_
    refine thenQ.n (Rq (ι:=Nat×Nat) [2,3,4] (fun⟨n1,n2⟩=>[(6,.c (.int .u64 (n1:Int))),(7,.c (.int .u64 (n2:Int)))]) (fun⟨n1,n2⟩ oo=>oo) (fun⟨n1,n2⟩=>n1=Rj k b∧n2=Rj k b') ?_ ?_)
    · skip
      refine Zs (Zq rfl (Qa UJ (.tmp rfl) rfl) (Zq rfl (Qb 1 UQ (.tmp rfl) rfl rfl) (Zq rfl (QW.eql (.tmp rfl) .const) (Zn ?_))))
      refine J.cond (.tmp rfl) (fun c2=>?_) (fun c2=>?_)
      · skip
        have hk2:k=2:=by simpa using c2
        refine Qg (Zq rfl (QW.move (.tmp rfl)) (Zq rfl (QW.call ED (.cons (.tmp rfl) .nil) (RP _ (by assumption))) ?_))
        refine Zq rfl (QW.move (.tmp rfl)) (Zq rfl (QW.call ED (.cons (.tmp rfl) .nil) (RP _ (by assumption))) ?_)
        refine Zq rfl (QW.assign (.tmp rfl)) (Zq rfl (QW.assign (.tmp rfl)) (Zn ?_))
        exact⟨⟨Gj b,Gj b'⟩,⟨(if_pos hk2).symm,(if_pos hk2).symm⟩,QK (.cons rfl lr (.cons rfl lr (.cons rfl lr (.cons rfl lr (.cons rfl lr .nil))))) (Reown.refl _) (fun _ h=>by first|exact h|simp[h])⟩
      have hk2:k≠2:=by simpa using c2
      refine Zk ?_
      exact⟨⟨b,b'⟩,⟨(if_neg hk2).symm,(if_neg hk2).symm⟩,QK (.cons rfl lr (.cons rfl lr (.cons rfl lr (.cons rfl lr (.cons rfl lr .nil))))) (Reown.refl _) (fun _ h=>by first|exact h|simp[h])⟩
    · intro⟨n1,n2⟩ ⟨hn1,hn2⟩
      refine J.conv (by(try simp only[nl,Qk,Qz,QA,Qy,QR,AV.cellsOf,Qd,Qe,Nat.reduceAdd]);rfl) ?_
      refine J.seq (QU Uc (Zf 0 [] rfl (fun _=>QW.move (.tmp rfl)) (Zf 1 [] rfl (fun _=>QW.move (.tmp rfl)) (Zf 2 [27,28] rfl (fun _=>QW.call SK (.cons (.tmp rfl) (.cons (.tmp rfl) .nil)) (Qaq _ _)) (Zf 3 [] rfl (fun _=>Qa Yl (.tmp rfl) rfl) (Zo 4 1 [30] rfl (fun _ ho_=>Qb 1 U9 (.tmp rfl) ho_ rfl) (Zf 5 [] rfl (fun _=>Qa Yl (.tmp rfl) rfl) (Zo 6 0 [32] rfl (fun _ ho_=>Qb 0 U9 (.tmp rfl) ho_ rfl) (Zf 7 [31,33] rfl (fun _=>QW.call EC (.cons (.tmp rfl) (.cons (.tmp rfl) .nil)) (Ni _ _)) ?_)))))))))
      refine Zf 8 [] rfl (fun _=>Qa U6 (.tmp rfl) rfl) (Zo 9 1 [35] rfl (fun _ ho_=>Qb 1 YO (.tmp rfl) ho_ rfl) (Zf 10 [] rfl (fun _=>Qa U6 (.tmp rfl) rfl) (Zo 11 0 [37] rfl (fun _ ho_=>Qb 0 YO (.tmp rfl) ho_ rfl) (Zf 12 [36,38] rfl (fun _=>QW.call SJ (.cons (.tmp rfl) (.cons (.tmp rfl) .nil)) (DN ks ks' h3 h4)) (Zf 13 [] rfl (fun _=>Qa Ud (.tmp rfl) rfl) (Zo 14 1 [40] rfl (fun _ ho_=>Qb 1 U4 (.tmp rfl) ho_ rfl) (Zf 15 [] rfl (fun _=>Qa Ud (.tmp rfl) rfl) (Zo 16 0 [42] rfl (fun _ ho_=>Qb 0 U4 (.tmp rfl) ho_ rfl) (Zf 17 [41,43] rfl (fun _=>QW.call SI (.cons (.tmp rfl) (.cons (.tmp rfl) (.cons .func .nil))) (DM is is' h1 h2 (fun x hx y hy=>(by obtain⟨i,hi,rfl⟩:=List.getElem_of_mem hx;exact ih Vc.self Vc.self (hwi _ hx) (hwi' _ hy) (V.sz_get hn hi))))) ?_)))))))))
      refine Zf 18 [29,34,39,44] rfl (fun _=>QW.buildSlice (idx:=[0,1,2,3]) (xs:=[[.c (.int .i64 (Hy (n1:Int) (n2:Int)))],[.c (.int .i64 (Ma t t'))],[.c (.int .i64 (K7 ks ks'))],[.c (.int .i64 (WE is is'))]]) YF C2 z3 rfl (.cons (.tmp rfl) (.cons (.tmp rfl) (.cons (.tmp rfl) (.cons (.tmp rfl) .nil)))) rfl rfl rfl rfl rfl rfl rfl rfl rfl) (Zf 19 [45] rfl (fun _=>QW.call SL (.cons (.tmp rfl) .nil) (or_ok [(Hy (n1:Int) (n2:Int)),(Ma t t'),(K7 ks ks'),(WE is is')] (by simp))) ?_)
      refine Zf 20 [46] rfl (fun _=>QW.assign (.tmp rfl)) (JX.fin (by kernel_rfl) (by kernel_rfl) fun bs_=>?_)
      refine QX.conv (by(try simp only[Ua,Uj,Q5,QS,Flt.val,Flt.bx,nx,nl,Qk,Qz,QA,Qy,QR,AV.cellsOf,Qd,Qe,Nat.reduceAdd]);rfl) ?_
      exact thenQ.n (J.ret (Zr [.k,.k] (RetEv.one rfl (REv.tmp rfl lr)) rfl ⟨by simp only[V.ord];rw[hz,Eg,← hn1,← hn2];simp only[Fs];rw[show Ei (WE is is') 0=WE is is' from Sq _],rfl⟩))
theorem Cb{v u:V}{ys zs:List AV}{fr fr2:Bool}(hv:Vc fr v ys)(hu:Vc fr2 u zs)(hw:v.wf)(hw2:u.wf):Fn Tryz.prog 124 [.agg ys,.agg zs] (.c (.int .i64 (v.ord u))):=Fv _ hv hu hw hw2 (Nat.le_refl _)

end
section
/- Walks: values compared; ValueOrders, ValueOrder. -/
set_option maxRecDepth 10000
set_option maxHeartbeats 4000000
def Pz(v u:V):AV:=.tup [.c (.int .i64 (v.cmp u).1),.c (.int .i64 (v.cmp u).2)]
theorem Mb{v u:V}{c e:Int}(h:v.cmp u=(c,e)):Pz v u=.tup [.c (.int .i64 c),.c (.int .i64 e)]:=by rw[Pz,h]
theorem D9{fr fr2:Bool}{v u:V}{ys zs:List AV}(hv:Vc fr v ys)(hu:Vc fr2 u zs)(hw:v.wf)(hw2:u.wf):Fn Tryz.prog 114 [.agg ys,.agg zs] (Pz v u):=by
  subst hv hu
  refine AC.of_J Tryz.func114 rfl Tryz.ntmps114 rfl fun w0 A0=>?_
  refine Zs (Qp (.tmp rfl) rfl fun b2=>Qp (.tmp rfl) rfl fun b3=>Zq rfl (QW.assign .const) (Zq rfl (QW.assign .const) (Zn (J.seq (Zs (Zq rfl (Qf 1 Qj (.tmp rfl) rfl (Qm vl rfl) vl) (Zq rfl (QW.call Xw (.cons (.tmp rfl) .nil) (W5 Vc.self hw)) ?_)))))))
  refine Zq rfl (QW.assign (.tmp rfl)) (Zn (Zs (Zq rfl (QW.move (.tmp rfl)) (Zq rfl (QW.neq (.tmp rfl) .const) (Zn ?_)))))
  refine J.cond (.tmp rfl) (fun c1=>?_) (fun c1=>?_)
  · skip
    simp at c1
    exact Zs (Zq rfl (QW.move (.tmp rfl)) (Zq rfl (QW.assign .const) (Zq rfl (QW.assign (.tmp rfl)) (Zn (J.ret (thenQ.r (Zr [.k,.k] (QB rfl (REv.tmp rfl lr) (REv.tmp rfl lr)) rfl ⟨congrArg W1.ret (Mb (c:=0) (e:=v.err) (by rw[V.cmp,if_pos c1])).symm,rfl⟩)))))))
  simp at c1
  have hf:=V.fine_of c1
  refine Zk (J.seq (Zs (Zq rfl (Qf 0 Qj (.tmp rfl) rfl (Qm vl rfl) vl) (Zq rfl (QW.call Xw (.cons (.tmp rfl) .nil) (W5 Vc.self hw2)) (Zq rfl (QW.assign (.tmp rfl)) (Zn (Zs (Zq rfl (QW.move (.tmp rfl)) (Zq rfl (QW.neq (.tmp rfl) .const) ?_)))))))))
  refine Zn ?_
  refine J.cond (.tmp rfl) (fun c2=>?_) (fun c2=>?_)
  · skip
    simp at c2
    exact Zs (Zq rfl (QW.move (.tmp rfl)) (Zq rfl (QW.assign .const) (Zq rfl (QW.assign (.tmp rfl)) (Zn (J.ret (thenQ.r (Zr [.k,.k] (QB rfl (REv.tmp rfl lr) (REv.tmp rfl lr)) rfl ⟨congrArg W1.ret (Mb (c:=0) (e:=u.err) (by rw[V.cmp,if_neg (by simp[c1]),if_pos c2])).symm,rfl⟩)))))))
  simp at c2
  have hg:=V.fine_of c2
  exact Zk (Zs (Zq rfl (Qf 1 Qj (.tmp rfl) rfl (Qm vl rfl) vl) (Zq rfl (Qf 0 Qj (.tmp rfl) rfl (Qm vl rfl) vl) (Zq rfl (QW.call EG (.cons (.tmp rfl) (.cons (.tmp rfl) .nil)) (Cb Vc.self Vc.self hw hw2)) (Zq rfl (QW.assign (.tmp rfl)) (Zq rfl (QW.assign .const) (Zn (J.ret (Zr [.k,.k] (QB rfl (REv.tmp rfl lr) (REv.tmp rfl lr)) rfl ⟨congrArg W1.ret (Mb (c:=v.ord u) (e:=0) (by rw[V.cmp,if_neg (by simp[c1]),if_neg (by simp[c2])])).symm,rfl⟩)))))))))
theorem P0{fr fr2:Bool}{v u:V}{ys zs:List AV}(hv:Vc fr v ys)(hu:Vc fr2 u zs)(hw:v.wf)(hw2:u.wf):Fn Tryz.prog 113 [.agg ys,.agg zs] (.c (.bool (v.one u))):=by
  subst hv hu
  refine AC.of_J Tryz.func113 rfl Tryz.ntmps113 rfl fun w0 A0=>?_
  refine Zs (Qp (.tmp rfl) rfl fun b2=>Qp (.tmp rfl) rfl fun b3=>Zq rfl (QW.assign .const) (Zn (Zs (Zq rfl (Qf 1 Qj (.tmp rfl) rfl (Qm vl rfl) vl) (Zq rfl (Qf 0 Qj (.tmp rfl) rfl (Qm vl rfl) vl) (Zq rfl (QW.call EH (.cons (.tmp rfl) (.cons (.tmp rfl) .nil)) (D9 Vc.self Vc.self hw hw2)) (Zq rfl (QW.move (.tmp rfl)) ?_)))))))
  refine Zq rfl (QW.extract (.tmp rfl) rfl) (Zq rfl (QW.extract (.tmp rfl) rfl) (Zq rfl (QW.assign (.tmp rfl)) (Zq rfl (QW.assign (.tmp rfl)) (Zn (Zs (Zq rfl (QW.move (.tmp rfl)) (Zq rfl (QW.eql (.tmp rfl) .const) (Zq rfl (QW.move (.tmp rfl)) (Zg rfl (fun hg=>(QW.move (.tmp rfl))) ?_)))))))))
  exact Zg rfl (fun hg=>(QW.eql (.when rfl hg) .const)) (Zq rfl (QW.pick_and (.tmp rfl) (.tmp rfl)) (Zq rfl (QW.assign (.tmp rfl)) (Zn (J.ret (Zr [.k,.k] (RetEv.one rfl (REv.tmp rfl lr)) rfl ⟨by unfold V.one;rfl,rfl⟩)))))

end
section
/- Walks: operations whose parts are all reckoned. -/
set_option maxRecDepth 10000
set_option maxHeartbeats 4000000
theorem RM{o:Int}(ho:o=11∨o=12∨o=13∨o=14)(t:Ui)(a b:V):UR o t [a,b]=if a.kind≠2∨b.kind≠2 then .error 81 else .ok (.nu (DR o a.bits b.bits)):=by
  rcases ho with rfl|rfl|rfl|rfl<;>rfl
theorem pe15(t:Ui)(a:V):UR 15 t [a]=if a.kind=2 then .ok (.nu (X8 a.bits))else .error 81:=rfl
theorem pe16(t:Ui)(a b:V):UR 16 t [a,b]=.ok (.tr (a.ord b==0)):=rfl
theorem pe17(t:Ui)(a b:V):UR 17 t [a,b]=if b.kind=a.kind then .ok (.tr (decide (a.ord b<0)))else .error 81:=rfl
theorem pe20(t:Ui)(a:V):UR 20 t [a]=if a.kind=1 then .ok (.tr (a.bits==0))else .error 81:=rfl
theorem pe22(t:Ui)(a b:V):UR 22 t [a,b]=if a.kind≠3∨b.kind≠3 then .error 81 else if 128<a.text.length+b.text.length then .error 84 else .ok (.tx (a.text++b.text)):=rfl
theorem pe26(t:Ui)(a:V):UR 26 t [a]=if a.kind≠2 then .error 81 else if XG a.bits≠0 then .error 7 else .ok (.tx (Dj (Xv a.bits))):=rfl
theorem F2{fr:Bool}{o:Int}{bb:Nat}{t:Ui}{args:List EX}{l:List V}{ys:List AV}(he:Xc fr (.mk o bb t args) ys)(ht:t.length≤Qu)(hl:∀x∈l,x.good)(hn:l.length≤8∧(o=23∨((o=8∨o=10∨o=15∨o=20∨o=26)∧l.length=1)∨((o=9∨o=11∨o=12∨o=13∨o=14∨o=16∨o=17∨o=22∨o=24∨o=25)∧l.length=2))):
    AC Tryz.prog 100 [] [.agg ys,.sl false false eV (V.css false l)] (PlR (UR o t l)):=by
  subst he
  obtain⟨hn8,hn⟩:=hn
  refine AC.of_J Tryz.func100 rfl Tryz.ntmps100 rfl fun w0 A0=>?_
  refine Zs (Qp (.tmp rfl) rfl fun b2=>JL.alloc WQ rfl rfl fun b4=>Zn (J.seq (Zs (Zq rfl (Qa YQ (.tmp rfl) rfl) (Zq rfl (Qb 1 UQ (.tmp rfl) rfl rfl) (Zn (J.block ?_)))))))
  refine J.seq (Zs (Zq rfl (QW.eql (.tmp rfl) .const) (Zq rfl (QW.assign (.tmp rfl)) (Zn ?_))))
  refine J.cond (.tmp rfl) (fun c1=>?_) (fun c1=>?_)
  · skip
    have ho:o=11∨o=12∨o=13∨o=14:=by(simp at c1;omega)
    obtain⟨a,b,rfl⟩:=Xq (l:=l) (by omega)
    have ha:=hl a (by simp)
    have hb:=hl b (by simp)
    refine Zk ?_
    refine J.cond (.tmp rfl) (fun c2=>?_) (fun c2=>absurd c2 (by rw[c1];decide))
    refine Zs (Zq rfl (QW.move (.tmp rfl)) (Zq rfl (QW.buildSlice (idx:=[0,1]) (xs:=WB [2,2]) YF C2 z3 rfl (.cons .const (.cons .const .nil)) rfl rfl rfl rfl rfl rfl rfl rfl rfl) ?_))
    refine Qs [] W9 rfl Lent.nil (fun _=>(.cons (.tmp rfl) (.cons (.tmp rfl) .nil))) (Wt _ [2,2] (by simp) (by simp)) (.inl rfl) (fun k18 x18 o18 h18=>?_) (fun k18=>?_)
    rotate_left
    · skip
      refine thenQ.p (blkQ.p (thenQ.p ?_))
      exact⟨_,QN [.k,.k] _,_,rfl,rfl,Qn [.k,.k] _,PlR.er (c:=81) ((RM ho t a b).trans (if_pos (by simp[Ug]at k18;omega))) (by decide)⟩
    obtain⟨rfl,rfl⟩:=h18
    refine Zn (J.seq (QU Uc (Zf 0 [] rfl (fun _=>Qa YQ (.tmp rfl) rfl) (Zo 1 1 [19] rfl (fun _ ho_=>Qb 1 UQ (.tmp rfl) ho_ rfl) (Zf 2 [] rfl (fun _=>QW.move (.tmp rfl)) (Zf 3 [21] rfl (fun _=>Qi QO Qj rfl (.tmp rfl) .const rfl rfl) (Zf 4 [22] rfl (fun _=>Qt Uu (.tmp rfl) rfl) (Zf 5 [23] rfl (fun _=>Qq Wi (.tmp rfl) (YS _ _)) (Zf 6 [] rfl (fun _=>QW.move (.tmp rfl)) ?_)))))))))
    refine Zf 7 [25] rfl (fun _=>Qi QO Qj rfl (.tmp rfl) .const rfl rfl) (Zf 8 [26] rfl (fun _=>Qt Uu (.tmp rfl) rfl) (Zf 9 [27] rfl (fun _=>Qq Wi (.tmp rfl) (YS _ _)) (Zf 10 [20,24,28] rfl (fun _=>QW.call Lc (.cons (.tmp rfl) (.cons (.tmp rfl) (.cons (.tmp rfl) .nil))) (G6 _ _ _)) (JX.one 11 [true,true,true,true,true,true,true,true,true,true,true] rfl (by kernel_rfl) (by kernel_rfl) rfl rfl (by kernel_rfl) rfl fun bs11_ pe_ ex_=>?_))))
    refine JL.conv (by(try simp only[Ua,Uj,Q5,QS,Flt.val,Flt.bx,nx,nl,Qk,Qz,QA,Qy,QR,AV.cellsOf,Qd,Qe,Nat.reduceAdd]);rfl) ?_
    refine Qc 0 Qj (.tmp rfl) rfl (.tmp rfl) rfl rfl rfl rfl (JL.nil ?_)
    refine thenQ.n ⟨[],_,rfl,rfl,rfl,rfl,rfl,QJ 2 rfl,trivial,trivial,?_⟩
    refine JX.conv (S':=[11,10,9,8,7,6,5,4,3,2,1,0]) rfl (by(try simp only[QS]);rfl) (by(try simp only[Ua,Uj,Q5,QS,Flt.val,Flt.bx,nx,nl,Qk,Qz,QA,Qy,QR,AV.cellsOf,Qd,Qe,Nat.reduceAdd]);rfl) ?_
    refine JX.fin (by kernel_rfl) (by kernel_rfl) fun bs_=>?_
    refine QX.conv (by(try simp only[Ua,Uj,Q5,QS,Flt.val,Flt.bx,nx,nl,Qk,Qz,QA,Qy,QR,AV.cellsOf,Qd,Qe,Nat.reduceAdd]);rfl) ?_
    exact thenQ.n (J.ret (blkQ.r (thenQ.r (Zr [.k,.k] (RetEv.one rfl (REv.cell 0 Qj rfl rfl rfl rfl lr)) rfl (PlR.ok ((RM ho t a b).trans (if_neg (by simp[Ug]at k18;omega))))))))
  have n11:¬o=11:=by simpa using c1
  refine Zs (Zq rfl (QW.eql (.tmp rfl) .const) (Zq rfl (QW.assign (.tmp rfl)) (Zn ?_)))
  refine J.cond (.tmp rfl) (fun c2=>?_) (fun c2=>?_)
  · skip
    have ho:o=11∨o=12∨o=13∨o=14:=by(simp at c2;omega)
    obtain⟨a,b,rfl⟩:=Xq (l:=l) (by omega)
    have ha:=hl a (by simp)
    have hb:=hl b (by simp)
    refine Zk ?_
    refine J.cond (.tmp rfl) (fun c3=>?_) (fun c3=>absurd c3 (by rw[c2];decide))
    refine Zs (Zq rfl (QW.move (.tmp rfl)) (Zq rfl (QW.buildSlice (idx:=[0,1]) (xs:=WB [2,2]) YF C2 z3 rfl (.cons .const (.cons .const .nil)) rfl rfl rfl rfl rfl rfl rfl rfl rfl) ?_))
    refine Qs [] W9 rfl Lent.nil (fun _=>(.cons (.tmp rfl) (.cons (.tmp rfl) .nil))) (Wt _ [2,2] (by simp) (by simp)) (.inl rfl) (fun k18 x18 o18 h18=>?_) (fun k18=>?_)
    rotate_left
    · skip
      refine thenQ.p (blkQ.p (thenQ.p ?_))
      exact⟨_,QN [.k,.k] _,_,rfl,rfl,Qn [.k,.k] _,PlR.er (c:=81) ((RM ho t a b).trans (if_pos (by simp[Ug]at k18;omega))) (by decide)⟩
    obtain⟨rfl,rfl⟩:=h18
    refine Zn (J.seq (QU Uc (Zf 0 [] rfl (fun _=>Qa YQ (.tmp rfl) rfl) (Zo 1 1 [19] rfl (fun _ ho_=>Qb 1 UQ (.tmp rfl) ho_ rfl) (Zf 2 [] rfl (fun _=>QW.move (.tmp rfl)) (Zf 3 [21] rfl (fun _=>Qi QO Qj rfl (.tmp rfl) .const rfl rfl) (Zf 4 [22] rfl (fun _=>Qt Uu (.tmp rfl) rfl) (Zf 5 [23] rfl (fun _=>Qq Wi (.tmp rfl) (YS _ _)) (Zf 6 [] rfl (fun _=>QW.move (.tmp rfl)) ?_)))))))))
    refine Zf 7 [25] rfl (fun _=>Qi QO Qj rfl (.tmp rfl) .const rfl rfl) (Zf 8 [26] rfl (fun _=>Qt Uu (.tmp rfl) rfl) (Zf 9 [27] rfl (fun _=>Qq Wi (.tmp rfl) (YS _ _)) (Zf 10 [20,24,28] rfl (fun _=>QW.call Lc (.cons (.tmp rfl) (.cons (.tmp rfl) (.cons (.tmp rfl) .nil))) (G6 _ _ _)) (JX.one 11 [true,true,true,true,true,true,true,true,true,true,true] rfl (by kernel_rfl) (by kernel_rfl) rfl rfl (by kernel_rfl) rfl fun bs11_ pe_ ex_=>?_))))
    refine JL.conv (by(try simp only[Ua,Uj,Q5,QS,Flt.val,Flt.bx,nx,nl,Qk,Qz,QA,Qy,QR,AV.cellsOf,Qd,Qe,Nat.reduceAdd]);rfl) ?_
    refine Qc 0 Qj (.tmp rfl) rfl (.tmp rfl) rfl rfl rfl rfl (JL.nil ?_)
    refine thenQ.n ⟨[],_,rfl,rfl,rfl,rfl,rfl,QJ 2 rfl,trivial,trivial,?_⟩
    refine JX.conv (S':=[11,10,9,8,7,6,5,4,3,2,1,0]) rfl (by(try simp only[QS]);rfl) (by(try simp only[Ua,Uj,Q5,QS,Flt.val,Flt.bx,nx,nl,Qk,Qz,QA,Qy,QR,AV.cellsOf,Qd,Qe,Nat.reduceAdd]);rfl) ?_
    refine JX.fin (by kernel_rfl) (by kernel_rfl) fun bs_=>?_
    refine QX.conv (by(try simp only[Ua,Uj,Q5,QS,Flt.val,Flt.bx,nx,nl,Qk,Qz,QA,Qy,QR,AV.cellsOf,Qd,Qe,Nat.reduceAdd]);rfl) ?_
    exact thenQ.n (J.ret (blkQ.r (thenQ.r (Zr [.k,.k] (RetEv.one rfl (REv.cell 0 Qj rfl rfl rfl rfl lr)) rfl (PlR.ok ((RM ho t a b).trans (if_neg (by simp[Ug]at k18;omega))))))))
  have n12:¬o=12:=by simpa using c2
  refine Zs (Zq rfl (QW.eql (.tmp rfl) .const) (Zq rfl (QW.assign (.tmp rfl)) (Zn ?_)))
  refine J.cond (.tmp rfl) (fun c3=>?_) (fun c3=>?_)
  · skip
    have ho:o=11∨o=12∨o=13∨o=14:=by(simp at c3;omega)
    obtain⟨a,b,rfl⟩:=Xq (l:=l) (by omega)
    have ha:=hl a (by simp)
    have hb:=hl b (by simp)
    refine Zk ?_
    refine J.cond (.tmp rfl) (fun c4=>?_) (fun c4=>absurd c4 (by rw[c3];decide))
    refine Zs (Zq rfl (QW.move (.tmp rfl)) (Zq rfl (QW.buildSlice (idx:=[0,1]) (xs:=WB [2,2]) YF C2 z3 rfl (.cons .const (.cons .const .nil)) rfl rfl rfl rfl rfl rfl rfl rfl rfl) ?_))
    refine Qs [] W9 rfl Lent.nil (fun _=>(.cons (.tmp rfl) (.cons (.tmp rfl) .nil))) (Wt _ [2,2] (by simp) (by simp)) (.inl rfl) (fun k18 x18 o18 h18=>?_) (fun k18=>?_)
    rotate_left
    · skip
      refine thenQ.p (blkQ.p (thenQ.p ?_))
      exact⟨_,QN [.k,.k] _,_,rfl,rfl,Qn [.k,.k] _,PlR.er (c:=81) ((RM ho t a b).trans (if_pos (by simp[Ug]at k18;omega))) (by decide)⟩
    obtain⟨rfl,rfl⟩:=h18
    refine Zn (J.seq (QU Uc (Zf 0 [] rfl (fun _=>Qa YQ (.tmp rfl) rfl) (Zo 1 1 [19] rfl (fun _ ho_=>Qb 1 UQ (.tmp rfl) ho_ rfl) (Zf 2 [] rfl (fun _=>QW.move (.tmp rfl)) (Zf 3 [21] rfl (fun _=>Qi QO Qj rfl (.tmp rfl) .const rfl rfl) (Zf 4 [22] rfl (fun _=>Qt Uu (.tmp rfl) rfl) (Zf 5 [23] rfl (fun _=>Qq Wi (.tmp rfl) (YS _ _)) (Zf 6 [] rfl (fun _=>QW.move (.tmp rfl)) ?_)))))))))
    refine Zf 7 [25] rfl (fun _=>Qi QO Qj rfl (.tmp rfl) .const rfl rfl) (Zf 8 [26] rfl (fun _=>Qt Uu (.tmp rfl) rfl) (Zf 9 [27] rfl (fun _=>Qq Wi (.tmp rfl) (YS _ _)) (Zf 10 [20,24,28] rfl (fun _=>QW.call Lc (.cons (.tmp rfl) (.cons (.tmp rfl) (.cons (.tmp rfl) .nil))) (G6 _ _ _)) (JX.one 11 [true,true,true,true,true,true,true,true,true,true,true] rfl (by kernel_rfl) (by kernel_rfl) rfl rfl (by kernel_rfl) rfl fun bs11_ pe_ ex_=>?_))))
    refine JL.conv (by(try simp only[Ua,Uj,Q5,QS,Flt.val,Flt.bx,nx,nl,Qk,Qz,QA,Qy,QR,AV.cellsOf,Qd,Qe,Nat.reduceAdd]);rfl) ?_
    refine Qc 0 Qj (.tmp rfl) rfl (.tmp rfl) rfl rfl rfl rfl (JL.nil ?_)
    refine thenQ.n ⟨[],_,rfl,rfl,rfl,rfl,rfl,QJ 2 rfl,trivial,trivial,?_⟩
    refine JX.conv (S':=[11,10,9,8,7,6,5,4,3,2,1,0]) rfl (by(try simp only[QS]);rfl) (by(try simp only[Ua,Uj,Q5,QS,Flt.val,Flt.bx,nx,nl,Qk,Qz,QA,Qy,QR,AV.cellsOf,Qd,Qe,Nat.reduceAdd]);rfl) ?_
    refine JX.fin (by kernel_rfl) (by kernel_rfl) fun bs_=>?_
    refine QX.conv (by(try simp only[Ua,Uj,Q5,QS,Flt.val,Flt.bx,nx,nl,Qk,Qz,QA,Qy,QR,AV.cellsOf,Qd,Qe,Nat.reduceAdd]);rfl) ?_
    exact thenQ.n (J.ret (blkQ.r (thenQ.r (Zr [.k,.k] (RetEv.one rfl (REv.cell 0 Qj rfl rfl rfl rfl lr)) rfl (PlR.ok ((RM ho t a b).trans (if_neg (by simp[Ug]at k18;omega))))))))
  have n13:¬o=13:=by simpa using c3
  refine Qg (Zq rfl (QW.eql (.tmp rfl) .const) (Zq rfl (QW.assign (.tmp rfl)) (Zn ?_)))
  refine J.cond (.tmp rfl) (fun c4=>?_) (fun c4=>?_)
  · skip
    have ho:o=11∨o=12∨o=13∨o=14:=by(simp at c4;omega)
    obtain⟨a,b,rfl⟩:=Xq (l:=l) (by omega)
    have ha:=hl a (by simp)
    have hb:=hl b (by simp)
    refine Zs (Zq rfl (QW.move (.tmp rfl)) (Zq rfl (QW.buildSlice (idx:=[0,1]) (xs:=WB [2,2]) YF C2 z3 rfl (.cons .const (.cons .const .nil)) rfl rfl rfl rfl rfl rfl rfl rfl rfl) ?_))
    refine Qs [] W9 rfl Lent.nil (fun _=>(.cons (.tmp rfl) (.cons (.tmp rfl) .nil))) (Wt _ [2,2] (by simp) (by simp)) (.inl rfl) (fun k18 x18 o18 h18=>?_) (fun k18=>?_)
    rotate_left
    · skip
      refine thenQ.p (blkQ.p (thenQ.p ?_))
      exact⟨_,QN [.k,.k] _,_,rfl,rfl,Qn [.k,.k] _,PlR.er (c:=81) ((RM ho t a b).trans (if_pos (by simp[Ug]at k18;omega))) (by decide)⟩
    obtain⟨rfl,rfl⟩:=h18
    refine Zn (J.seq (QU Uc (Zf 0 [] rfl (fun _=>Qa YQ (.tmp rfl) rfl) (Zo 1 1 [19] rfl (fun _ ho_=>Qb 1 UQ (.tmp rfl) ho_ rfl) (Zf 2 [] rfl (fun _=>QW.move (.tmp rfl)) (Zf 3 [21] rfl (fun _=>Qi QO Qj rfl (.tmp rfl) .const rfl rfl) (Zf 4 [22] rfl (fun _=>Qt Uu (.tmp rfl) rfl) (Zf 5 [23] rfl (fun _=>Qq Wi (.tmp rfl) (YS _ _)) (Zf 6 [] rfl (fun _=>QW.move (.tmp rfl)) ?_)))))))))
    refine Zf 7 [25] rfl (fun _=>Qi QO Qj rfl (.tmp rfl) .const rfl rfl) (Zf 8 [26] rfl (fun _=>Qt Uu (.tmp rfl) rfl) (Zf 9 [27] rfl (fun _=>Qq Wi (.tmp rfl) (YS _ _)) (Zf 10 [20,24,28] rfl (fun _=>QW.call Lc (.cons (.tmp rfl) (.cons (.tmp rfl) (.cons (.tmp rfl) .nil))) (G6 _ _ _)) (JX.one 11 [true,true,true,true,true,true,true,true,true,true,true] rfl (by kernel_rfl) (by kernel_rfl) rfl rfl (by kernel_rfl) rfl fun bs11_ pe_ ex_=>?_))))
    refine JL.conv (by(try simp only[Ua,Uj,Q5,QS,Flt.val,Flt.bx,nx,nl,Qk,Qz,QA,Qy,QR,AV.cellsOf,Qd,Qe,Nat.reduceAdd]);rfl) ?_
    refine Qc 0 Qj (.tmp rfl) rfl (.tmp rfl) rfl rfl rfl rfl (JL.nil ?_)
    refine thenQ.n ⟨[],_,rfl,rfl,rfl,rfl,rfl,QJ 2 rfl,trivial,trivial,?_⟩
    refine JX.conv (S':=[11,10,9,8,7,6,5,4,3,2,1,0]) rfl (by(try simp only[QS]);rfl) (by(try simp only[Ua,Uj,Q5,QS,Flt.val,Flt.bx,nx,nl,Qk,Qz,QA,Qy,QR,AV.cellsOf,Qd,Qe,Nat.reduceAdd]);rfl) ?_
    refine JX.fin (by kernel_rfl) (by kernel_rfl) fun bs_=>?_
    refine QX.conv (by(try simp only[Ua,Uj,Q5,QS,Flt.val,Flt.bx,nx,nl,Qk,Qz,QA,Qy,QR,AV.cellsOf,Qd,Qe,Nat.reduceAdd]);rfl) ?_
    exact thenQ.n (J.ret (blkQ.r (thenQ.r (Zr [.k,.k] (RetEv.one rfl (REv.cell 0 Qj rfl rfl rfl rfl lr)) rfl (PlR.ok ((RM ho t a b).trans (if_neg (by simp[Ug]at k18;omega))))))))
  have n14:¬o=14:=by simpa using c4
  refine Zs (Zq rfl (QW.eql (.tmp rfl) .const) (Zq rfl (QW.assign (.tmp rfl)) (Zn ?_)))
  refine J.cond (.tmp rfl) (fun c5=>?_) (fun c5=>?_)
  · skip
    obtain rfl:o=15:=by simpa using c5
    obtain⟨a,rfl⟩:=LJ (l:=l) (by omega)
    have ha:=hl a (by simp)
    refine Zs (Zq rfl (QW.move (.tmp rfl)) (Zq rfl (QW.buildSlice (idx:=[0]) (xs:=WB [2]) YF C2 z3 rfl (.cons .const .nil) rfl rfl rfl rfl rfl rfl rfl rfl rfl) ?_))
    refine Qs [] W9 rfl Lent.nil (fun _=>(.cons (.tmp rfl) (.cons (.tmp rfl) .nil))) (Wt _ [2] (by simp) (by simp)) (.inl rfl) (fun k34 x34 o34 h34=>?_) (fun k34=>?_)
    rotate_left
    · skip
      refine thenQ.p (blkQ.p (thenQ.p ?_))
      exact⟨_,QN [.k,.k] _,_,rfl,rfl,Qn [.k,.k] _,PlR.er (c:=81) ((pe15 t a).trans (if_neg (by simpa[Ug]using k34))) (by decide)⟩
    obtain⟨rfl,rfl⟩:=h34
    refine Zn (Zs (Zq rfl (QW.move (.tmp rfl)) (Zq rfl (Qi QO Qj rfl (.tmp rfl) .const rfl rfl) (Zq rfl (Qt Uu (.tmp rfl) rfl) (Zq rfl (Qq Wi (.tmp rfl) (YS _ _)) (Zq rfl (QW.call S0 (.cons (.tmp rfl) .nil) (Pd _)) (Zq rfl (QW.call Gs (.cons (.tmp rfl) .nil) (Gk _)) (Qc 0 Qj (.tmp rfl) rfl (.tmp rfl) rfl rfl rfl rfl (Zn ?_)))))))))
    exact J.ret (blkQ.r (thenQ.r (Zr [.k,.k] (RetEv.one rfl (REv.cell 0 Qj rfl rfl rfl rfl lr)) rfl (PlR.ok ((pe15 t a).trans (if_pos (by simpa[Ug]using k34)))))))
  have n15:¬o=15:=by simpa using c5
  refine Zs (Zq rfl (QW.eql (.tmp rfl) .const) (Zq rfl (QW.assign (.tmp rfl)) (Zn ?_)))
  refine J.cond (.tmp rfl) (fun c6=>?_) (fun c6=>?_)
  · skip
    obtain rfl:o=16:=by simpa using c6
    obtain⟨a,b,rfl⟩:=Xq (l:=l) (by omega)
    have ha:=hl a (by simp)
    have hb:=hl b (by simp)
    refine J.seq (QU Uc (Zf 0 [] rfl (fun _=>QW.move (.tmp rfl)) (Zf 1 [43] rfl (fun _=>Qi QO Qj rfl (.tmp rfl) .const rfl rfl) (Zf 2 [44] rfl (fun _=>Ql Qj (.tmp rfl) (QH vl rfl) vl) (Zf 3 [] rfl (fun _=>QW.move (.tmp rfl)) (Zf 4 [46] rfl (fun _=>Qi QO Qj rfl (.tmp rfl) .const rfl rfl) (Zf 5 [47] rfl (fun _=>Ql Qj (.tmp rfl) (QH vl rfl) vl) (Zf 6 [45,48] rfl (fun _=>QW.call SZ (.cons (.tmp rfl) (.cons (.tmp rfl) .nil)) (P0 Vc.self Vc.self ha.wf hb.wf)) (Zf 7 [49] rfl (fun _=>QW.call X3 (.cons (.tmp rfl) .nil) (Wm _)) ?_)))))))))
    refine JX.one 8 [true,true,true,true,true,true,true,true] rfl (by kernel_rfl) (by kernel_rfl) rfl rfl (by kernel_rfl) rfl fun bs8_ pe_ ex_=>?_
    refine JL.conv (by(try simp only[Ua,Uj,Q5,QS,Flt.val,Flt.bx,nx,nl,Qk,Qz,QA,Qy,QR,AV.cellsOf,Qd,Qe,Nat.reduceAdd]);rfl) ?_
    refine Qc 0 Qj (.tmp rfl) rfl (.tmp rfl) rfl rfl rfl rfl (JL.nil ?_)
    refine thenQ.n ⟨[],_,rfl,rfl,rfl,rfl,rfl,QJ 2 rfl,trivial,trivial,?_⟩
    refine JX.conv (S':=[8,7,6,5,4,3,2,1,0]) rfl (by(try simp only[QS]);rfl) (by(try simp only[Ua,Uj,Q5,QS,Flt.val,Flt.bx,nx,nl,Qk,Qz,QA,Qy,QR,AV.cellsOf,Qd,Qe,Nat.reduceAdd]);rfl) ?_
    refine JX.fin (by kernel_rfl) (by kernel_rfl) fun bs_=>?_
    refine QX.conv (by(try simp only[Ua,Uj,Q5,QS,Flt.val,Flt.bx,nx,nl,Qk,Qz,QA,Qy,QR,AV.cellsOf,Qd,Qe,Nat.reduceAdd]);rfl) ?_
    exact thenQ.n (J.ret (blkQ.r (thenQ.r (Zr [.k,.k] (RetEv.one rfl (REv.cell 0 Qj rfl rfl (Qm vl rfl) vl lr)) rfl (PlR.ok ((pe16 t a b).trans (by rw[V.one,V.cmp,if_neg (by simp[ha.err]),if_neg (by simp[hb.err])];simp)))))))
  have n16:¬o=16:=by simpa using c6
  refine Zs (Zq rfl (QW.eql (.tmp rfl) .const) (Zq rfl (QW.assign (.tmp rfl)) (Zn ?_)))
  refine J.cond (.tmp rfl) (fun c7=>?_) (fun c7=>?_)
  · skip
    obtain rfl:o=17:=by simpa using c7
    obtain⟨a,b,rfl⟩:=Xq (l:=l) (by omega)
    have ha:=hl a (by simp)
    have hb:=hl b (by simp)
    refine J.seq (QU Uc (Zf 0 [] rfl (fun _=>QW.move (.tmp rfl)) (Zf 1 [53] rfl (fun _=>Mp (l:=1) QO Qj rfl (.tmp rfl) .const rfl (by rw[V.css_length];simp)) ?_)))
    refine Zf 2 [] rfl (fun _=>QW.move (.tmp rfl)) (Zf 3 [55] rfl (fun _=>Qi QO Qj rfl (.tmp rfl) .const rfl rfl) (Zf 4 [56] rfl (fun _=>Qt UJ (.tmp rfl) rfl) (Zf 5 [57] rfl (fun _=>Qq UQ (.tmp rfl) (DW _ _)) (Zf 6 [58] rfl (fun _=>QW.buildSlice (idx:=[0]) (xs:=WB [a.kind]) YF C2 z3 rfl (.cons (.tmp rfl) .nil) rfl rfl rfl rfl rfl rfl rfl rfl rfl) (JX.one 7 [true,true,true,true,true,true,true] rfl (by kernel_rfl) (by kernel_rfl) rfl rfl (by kernel_rfl) rfl fun bs7_ pe_ ex_=>?_)))))
    refine JL.conv (by(try simp only[Ua,Uj,Q5,QS,Flt.val,Flt.bx,nx,nl,Qk,Qz,QA,Qy,QR,AV.cellsOf,Qd,Qe,Nat.reduceAdd]);rfl) ?_
    refine Qs [] W9 rfl Lent.nil (fun _=>(.cons (.tmp rfl) (.cons (.tmp rfl) .nil))) (Wt [b] [a.kind] (by simp) (by simp)) (.inl rfl) (fun k60 x60 o60 h60=>?_) (fun k60=>?_)
    rotate_left
    · skip
      refine thenQ.p (thenQ.p (blkQ.p (thenQ.p ?_)))
      exact⟨_,QN [.k,.k] _,_,rfl,rfl,Qn [.k,.k] _,PlR.er (c:=81) ((pe17 t a b).trans (if_neg (by simpa[Ug]using k60))) (by decide)⟩
    obtain⟨rfl,rfl⟩:=h60
    refine JL.nil ?_
    refine thenQ.n ⟨[_],_,rfl,rfl,rfl,rfl,rfl,Wp 2 rfl rfl,⟨rfl,rfl⟩,trivial,?_⟩
    refine JX.conv (S':=[7,6,5,4,3,2,1,0]) rfl (by(try simp only[QS]);rfl) (by(try simp only[Ua,Uj,Q5,QS,Flt.val,Flt.bx,nx,nl,Qk,Qz,QA,Qy,QR,AV.cellsOf,Qd,Qe,Nat.reduceAdd]);rfl) ?_
    refine JX.fin (by kernel_rfl) (by kernel_rfl) fun bs_=>?_
    refine QX.conv (by(try simp only[Ua,Uj,Q5,QS,Flt.val,Flt.bx,nx,nl,Qk,Qz,QA,Qy,QR,AV.cellsOf,Qd,Qe,Nat.reduceAdd]);rfl) ?_
    refine thenQ.n (J.seq (QU Uc (Zf 0 [] rfl (fun _=>QW.move (.tmp rfl)) (Zf 1 [62] rfl (fun _=>Qi QO Qj rfl (.tmp rfl) .const rfl rfl) (Zf 2 [63] rfl (fun _=>Ql Qj (.tmp rfl) (QH vl rfl) vl) (Zf 3 [] rfl (fun _=>QW.move (.tmp rfl)) (Zf 4 [65] rfl (fun _=>Qi QO Qj rfl (.tmp rfl) .const rfl rfl) (Zf 5 [66] rfl (fun _=>Ql Qj (.tmp rfl) (QH vl rfl) vl) (Zf 6 [64,67] rfl (fun _=>QW.call EH (.cons (.tmp rfl) (.cons (.tmp rfl) .nil)) (D9 Vc.self Vc.self ha.wf hb.wf)) ?_)))))))))
    refine Zf 7 [68] rfl (fun _=>QW.move (.tmp rfl)) (Zf 8 [61] rfl (fun _=>QW.extract (.tmp rfl) rfl) (Zf 9 [61] rfl (fun _=>QW.extract (.tmp rfl) rfl) (Zf 10 [69] rfl (fun _=>QW.assign (.tmp rfl)) (Zf 11 [70] rfl (fun _=>QW.assign (.tmp rfl)) (JX.fin (by kernel_rfl) (by kernel_rfl) fun bs_=>?_)))))
    refine QX.conv (by(try simp only[Ua,Uj,Q5,QS,Flt.val,Flt.bx,nx,nl,Qk,Qz,QA,Qy,QR,AV.cellsOf,Qd,Qe,Nat.reduceAdd]);rfl) ?_
    exact thenQ.n (Zs (Zq rfl (QW.move (.tmp rfl)) (Zq rfl (QW.lss (.tmp rfl) .const) (Zq rfl (QW.call X3 (.cons (.tmp rfl) .nil) (Wm _)) (Qc 0 Qj (.tmp rfl) rfl (.tmp rfl) rfl rfl rfl rfl (Zn (J.ret (blkQ.r (thenQ.r (Zr [.k,.k] (RetEv.one rfl (REv.cell 0 Qj rfl rfl (Qm vl rfl) vl lr)) rfl (PlR.ok ((pe17 t a b).trans (by rw[if_pos (by simpa[Ug]using k60),V.cmp,if_neg (by simp[ha.err]),if_neg (by simp[hb.err])])))))))))))))
  have n17:¬o=17:=by simpa using c7
  refine Zs (Zq rfl (QW.eql (.tmp rfl) .const) (Zq rfl (QW.assign (.tmp rfl)) (Zn ?_)))
  refine J.cond (.tmp rfl) (fun c8=>?_) (fun c8=>?_)
  · skip
    obtain rfl:o=20:=by simpa using c8
    obtain⟨a,rfl⟩:=LJ (l:=l) (by omega)
    have ha:=hl a (by simp)
    refine Zs (Zq rfl (QW.move (.tmp rfl)) (Zq rfl (QW.buildSlice (idx:=[0]) (xs:=WB [1]) YF C2 z3 rfl (.cons .const .nil) rfl rfl rfl rfl rfl rfl rfl rfl rfl) ?_))
    refine Qs [] W9 rfl Lent.nil (fun _=>(.cons (.tmp rfl) (.cons (.tmp rfl) .nil))) (Wt _ [1] (by simp) (by simp)) (.inl rfl) (fun k78 x78 o78 h78=>?_) (fun k78=>?_)
    rotate_left
    · skip
      refine thenQ.p (blkQ.p (thenQ.p ?_))
      exact⟨_,QN [.k,.k] _,_,rfl,rfl,Qn [.k,.k] _,PlR.er (c:=81) ((pe20 t a).trans (if_neg (by simpa[Ug]using k78))) (by decide)⟩
    obtain⟨rfl,rfl⟩:=h78
    refine Zn (Zs (Zq rfl (QW.move (.tmp rfl)) (Zq rfl (Qi QO Qj rfl (.tmp rfl) .const rfl rfl) (Zq rfl (Qt Uu (.tmp rfl) rfl) (Zq rfl (Qq Wi (.tmp rfl) (YS _ _)) (Zq rfl ((QW.eql (.tmp rfl) .const).conv (show _=AV.c (.bool (a.bits==0)) by rw[show((a.bits:Int)==0)=(a.bits==0) by rw[Bool.eq_iff_iff];simp])) ?_))))))
    exact Zq rfl (QW.call X3 (.cons (.tmp rfl) .nil) (Wm _)) (Qc 0 Qj (.tmp rfl) rfl (.tmp rfl) rfl rfl rfl rfl (Zn (J.ret (blkQ.r (thenQ.r (Zr [.k,.k] (RetEv.one rfl (REv.cell 0 Qj rfl rfl rfl rfl lr)) rfl (PlR.ok ((pe20 t a).trans (if_pos (by simpa[Ug]using k78))))))))))
  have n20:¬o=20:=by simpa using c8
  refine Zs (Zq rfl (QW.eql (.tmp rfl) .const) (Zq rfl (QW.assign (.tmp rfl)) (Zn ?_)))
  refine J.cond (.tmp rfl) (fun c9=>?_) (fun c9=>?_)
  · skip
    obtain rfl:o=22:=by simpa using c9
    obtain⟨a,b,rfl⟩:=Xq (l:=l) (by omega)
    have ha:=hl a (by simp)
    have hb:=hl b (by simp)
    have h1:=Gi ha.fine.part
    have h2:=Gi hb.fine.part
    refine Zs (Zq rfl (QW.move (.tmp rfl)) (Zq rfl (QW.buildSlice (idx:=[0,1]) (xs:=WB [3,3]) YF C2 z3 rfl (.cons .const (.cons .const .nil)) rfl rfl rfl rfl rfl rfl rfl rfl rfl) ?_))
    refine Qs [] W9 rfl Lent.nil (fun _=>(.cons (.tmp rfl) (.cons (.tmp rfl) .nil))) (Wt _ [3,3] (by simp) (by simp)) (.inl rfl) (fun k89 x89 o89 h89=>?_) (fun k89=>?_)
    rotate_left
    · skip
      refine thenQ.p (blkQ.p (thenQ.p ?_))
      exact⟨_,QN [.k,.k] _,_,rfl,rfl,Qn [.k,.k] _,PlR.er (c:=81) ((pe22 t a b).trans (if_pos (by simp[Ug]at k89;omega))) (by decide)⟩
    obtain⟨rfl,rfl⟩:=h89
    refine Zn (J.seq (QU Uc (Zf 0 [] rfl (fun _=>QW.move (.tmp rfl)) (Zf 1 [90] rfl (fun _=>Qi QO Qj rfl (.tmp rfl) .const rfl rfl) (Zf 2 [91] rfl (fun _=>Qt Yl (.tmp rfl) rfl) (Zf 3 [92] rfl (fun _=>Qq U9 (.tmp rfl) (Mj _ _)) (Zf 4 [93] rfl (fun _=>U1 TW (.tmp rfl)) (Zf 5 [] rfl (fun _=>QW.move (.tmp rfl)) (Zf 6 [95] rfl (fun _=>Qi QO Qj rfl (.tmp rfl) .const rfl rfl) ?_)))))))))
    refine Zf 7 [96] rfl (fun _=>Qt Yl (.tmp rfl) rfl) (Zf 8 [97] rfl (fun _=>Qq U9 (.tmp rfl) (Mj _ _)) (Zf 9 [98] rfl (fun _=>U1 TW (.tmp rfl)) (Zf 10 [94,99] rfl (fun _=>QW.add (.tmp rfl) (.tmp rfl) (WW (by omega))) (Zf 11 [100] rfl (fun _=>QW.leq (.tmp rfl) .const) (JX.one 12 [true,true,true,true,true,true,true,true,true,true,true,true] rfl (by kernel_rfl) (by kernel_rfl) rfl rfl (by kernel_rfl) rfl fun bs12_ pe_ ex_=>?_)))))
    refine JL.conv (by(try simp only[Ua,Uj,Q5,QS,Flt.val,Flt.bx,nx,nl,Qk,Qz,QA,Qy,QR,AV.cellsOf,Qd,Qe,Nat.reduceAdd]);rfl) ?_
    refine Qs [] Yx rfl Lent.nil (fun _=>(.cons (.tmp rfl) (.cons .const .nil))) (XE _ _) (.inl rfl) (fun k102 x102 o102 h102=>?_) (fun k102=>?_)
    rotate_left
    · skip
      refine thenQ.p (thenQ.p (blkQ.p (thenQ.p ?_)))
      exact⟨_,QN [.k,.k] _,_,rfl,rfl,Qn [.k,.k] _,PlR.er (c:=84) (by rw[pe22,if_neg (by simp[Ug]at k89;omega),if_pos (by simp at k102;omega)]) (by decide)⟩
    obtain⟨rfl,rfl⟩:=h102
    refine JL.nil ?_
    refine thenQ.n ⟨[_],_,rfl,rfl,rfl,rfl,rfl,Wp 2 rfl rfl,⟨rfl,rfl⟩,trivial,?_⟩
    refine JX.conv (S':=[12,11,10,9,8,7,6,5,4,3,2,1,0]) rfl (by(try simp only[QS]);rfl) (by(try simp only[Ua,Uj,Q5,QS,Flt.val,Flt.bx,nx,nl,Qk,Qz,QA,Qy,QR,AV.cellsOf,Qd,Qe,Nat.reduceAdd]);rfl) ?_
    refine JX.fin (by kernel_rfl) (by kernel_rfl) fun bs_=>?_
    refine QX.conv (by(try simp only[Ua,Uj,Q5,QS,Flt.val,Flt.bx,nx,nl,Qk,Qz,QA,Qy,QR,AV.cellsOf,Qd,Qe,Nat.reduceAdd]);rfl) ?_
    refine thenQ.n (J.seq (QU Uc (Zf 0 [] rfl (fun _=>QW.move (.tmp rfl)) (Zf 1 [103] rfl (fun _=>Qi QO Qj rfl (.tmp rfl) .const rfl rfl) (Zf 2 [104] rfl (fun _=>Qt Yl (.tmp rfl) rfl) (Zf 3 [105] rfl (fun _=>Qq U9 (.tmp rfl) (Mj _ _)) (Zf 4 [] rfl (fun _=>QW.move (.tmp rfl)) (Zf 5 [107] rfl (fun _=>Qi QO Qj rfl (.tmp rfl) .const rfl rfl) (Zf 6 [108] rfl (fun _=>Qt Yl (.tmp rfl) rfl) ?_)))))))))
    refine Zf 7 [109] rfl (fun _=>Qq U9 (.tmp rfl) (Mj _ _)) (Zf 8 [106,110] rfl (fun _=>PO (.tmp rfl) (.tmp rfl) (by omega)) (Zf 9 [111] rfl (fun _=>QW.build (idx:=[0,2]) Xt WQ rfl (.cons .const (.cons (.tmp rfl) .nil)) rfl rfl rfl rfl) (JX.one 10 [true,true,true,true,true,true,true,true,true,true] rfl (by kernel_rfl) (by kernel_rfl) rfl rfl (by kernel_rfl) rfl fun bs10_ pe_ ex_=>?_)))
    refine JL.conv (by(try simp only[Ua,Uj,Q5,QS,Flt.val,Flt.bx,nx,nl,Qk,Qz,QA,Qy,QR,AV.cellsOf,Qd,Qe,Nat.reduceAdd]);rfl) ?_
    refine Qc 0 Qj (.tmp rfl) rfl (.tmp rfl) rfl rfl rfl rfl (JL.nil ?_)
    refine thenQ.n ⟨[],_,rfl,rfl,rfl,rfl,rfl,QJ 2 rfl,trivial,trivial,?_⟩
    refine JX.conv (S':=[10,9,8,7,6,5,4,3,2,1,0]) rfl (by(try simp only[QS]);rfl) (by(try simp only[Ua,Uj,Q5,QS,Flt.val,Flt.bx,nx,nl,Qk,Qz,QA,Qy,QR,AV.cellsOf,Qd,Qe,Nat.reduceAdd]);rfl) ?_
    refine JX.fin (by kernel_rfl) (by kernel_rfl) fun bs_=>?_
    refine QX.conv (by(try simp only[Ua,Uj,Q5,QS,Flt.val,Flt.bx,nx,nl,Qk,Qz,QA,Qy,QR,AV.cellsOf,Qd,Qe,Nat.reduceAdd]);rfl) ?_
    exact thenQ.n (J.ret (blkQ.r (thenQ.r (Zr [.k,.k] (RetEv.one rfl (REv.cell 0 Qj rfl rfl rfl rfl (.aggL (.cons lr (.cons lr (.cons lr (.cons (.nil false false _) (.cons (.nil false false _) .nil)))))))) rfl (PlR.ok (v:=.tx (a.text++b.text)) (by rw[pe22,if_neg (by simp[Ug]at k89;omega),if_neg (by simp at k102;omega)]))))))
  have n22:¬o=22:=by simpa using c9
  refine Zs (Zq rfl (QW.eql (.tmp rfl) .const) (Zq rfl (QW.assign (.tmp rfl)) (Zn ?_)))
  refine J.cond (.tmp rfl) (fun c10=>?_) (fun c10=>?_)
  · skip
    obtain rfl:o=26:=by simpa using c10
    obtain⟨a,rfl⟩:=LJ (l:=l) (by omega)
    have ha:=hl a (by simp)
    refine Zs (Zq rfl (QW.move (.tmp rfl)) (Zq rfl (QW.buildSlice (idx:=[0]) (xs:=WB [2]) YF C2 z3 rfl (.cons .const .nil) rfl rfl rfl rfl rfl rfl rfl rfl rfl) ?_))
    refine Qs [] W9 rfl Lent.nil (fun _=>(.cons (.tmp rfl) (.cons (.tmp rfl) .nil))) (Wt _ [2] (by simp) (by simp)) (.inl rfl) (fun k117 x117 o117 h117=>?_) (fun k117=>?_)
    rotate_left
    · skip
      refine thenQ.p (blkQ.p (thenQ.p ?_))
      exact⟨_,QN [.k,.k] _,_,rfl,rfl,Qn [.k,.k] _,PlR.er (c:=81) ((pe26 t a).trans (if_pos (by simpa[Ug]using k117))) (by decide)⟩
    obtain⟨rfl,rfl⟩:=h117
    refine Zn (Zs (Zq rfl (QW.move (.tmp rfl)) (Zq rfl (Qi QO Qj rfl (.tmp rfl) .const rfl rfl) (Zq rfl (Qt Uu (.tmp rfl) rfl) (Zq rfl (Qq Wi (.tmp rfl) (YS _ _)) (Zq rfl (QW.call SY (.cons (.tmp rfl) .nil) (C4 _ ha.bits)) (Zq rfl (QW.move (.tmp rfl)) (Zq rfl (QW.extract (.tmp rfl) rfl) (Zq rfl (QW.extract (.tmp rfl) rfl) ?_)))))))))
    refine Zq rfl (QW.assign (.tmp rfl)) (Zq rfl (QW.assign (.tmp rfl)) (Zn (Zs (Zq rfl (QW.move (.tmp rfl)) (Zq rfl (QW.eql (.tmp rfl) .const) (Zq rfl (QW.move (.tmp rfl)) ?_))))))
    refine Qs [] Yx rfl Lent.nil (fun _=>(.cons (.tmp rfl) (.cons (.tmp rfl) .nil))) (XE _ _) (.inl rfl) (fun k129 x129 o129 h129=>?_) (fun k129=>?_)
    rotate_left
    · skip
      refine thenQ.p (blkQ.p (thenQ.p ?_))
      have h7:¬XG a.bits=0:=fun h=>k129 (by simp[h])
      exact⟨_,QN [.k,.k] _,_,rfl,rfl,Qn [.k,.k] _,PlR.er (c:=if XG a.bits=0 then 0 else 7) (by rw[pe26,if_neg (by simpa[Ug]using k117),if_pos h7,if_neg h7]) (by rw[if_neg h7];decide)⟩
    obtain⟨rfl,rfl⟩:=h129
    refine Zn (Zs (Zq rfl (QW.move (.tmp rfl)) (Zq rfl (QW.build (idx:=[0,2]) Xt WQ rfl (.cons .const (.cons (.tmp rfl) .nil)) rfl rfl rfl rfl) (Qc 0 Qj (.tmp rfl) rfl (.tmp rfl) rfl rfl rfl rfl (Zn (J.ret (blkQ.r (thenQ.r ?_))))))))
    have h7:XG a.bits=0:=Decidable.byContradiction fun h=>by simp[h]at k129
    exact Zr [.k,.k] (RetEv.one rfl (REv.cell 0 Qj rfl rfl rfl rfl (.aggL (.cons lr (.cons lr (.cons lr (.cons (.nil false false _) (.cons (.nil false false _) .nil)))))))) rfl (PlR.ok (v:=.tx (if XG a.bits=0 then Dj (Xv a.bits)else [])) (by rw[pe26,if_neg (by simpa[Ug]using k117),if_neg (by simp[h7]),if_pos h7]))
  have n26:¬o=26:=by simpa using c10
  refine J.skip (blkQ.n (thenQ.n (Zs (Zq rfl (Qf 1 Uz (.tmp rfl) rfl rfl rfl) (Zq rfl (QW.move (.tmp rfl)) ?_)))))
  refine Qs [] SX rfl Lent.nil (fun _=>(.cons (.tmp rfl) (.cons (.tmp rfl) .nil))) (Bs Xc.mk ht hl ⟨hn8,by omega⟩) (.inl rfl) (fun k134 x134 o134 h134=>?_) (fun k134=>?_)
  rotate_left
  · skip
    refine thenQ.p ?_
    exact⟨_,QN [.k,.k] _,_,rfl,rfl,Qn [.k,.k] _,PanR.pan k134⟩
  obtain⟨v134,hv134,rfl,rfl⟩:=h134
  exact Qc 0 Qj (.tmp rfl) rfl (.tmp rfl) rfl vl rfl rfl (Zn (J.ret (Zr [.k,.k] (RetEv.one rfl (REv.cell 0 Qj rfl rfl (Qm vl rfl) vl lr)) rfl (PlR.ok hv134))))

end
section
/- Two loud operations that no order binds. -/
def blk2B(l:List Oper)(S Φ:List Nat)(i1 i2:Nat):Bool:=(List.range l.length).all fun j=>memB j S||memB j Φ||(Nat.beq j i1||Nat.beq j i2)||(match l[j]? with
  |some o=>o.after.toList.any fun e=>Region.binds .any e&&!memB e.on S&&!memB e.on Φ
  |none=>true)
section
variable {P:Program} {E:WV} {Q:Exit→St→Prop} {n:Nat} {env:List (Nat×AV)} {own:List Own} {F:List (Value×AV)} {D:List Deferred} {ops:Array Oper}
theorem Ev.constA{st:St}{vs:List Value}(h:vs.all (·.oneCell')=true):Ev E st (.const (.agg vs.toArray)) (.agg (vs.map .c)):=fun A a w _=>
  .agg _ _ (fun k=>vs.getD k undef) (by simp) (fun k y hk=>by
    rw[List.getElem?_map]at hk
    obtain⟨z,hz,rfl⟩:=Option.map_eq_some_iff.1 hk
    have:=(List.all_eq_true.1 h) z (List.mem_of_getElem? hz)
    exact⟨by simp[hz,List.getD],by simpa[hz,List.getD]using this⟩) (fun k y hk=>by
    rw[List.getElem?_map]at hk
    obtain⟨z,hz,rfl⟩:=Option.map_eq_some_iff.1 hk
    rw[show vs.getD k undef=z by simp[hz,List.getD]];exact .c z)
def CandX(P:Program)(E:WV)(Q:Exit→St→Prop)(n:Nat)(env:List (Nat×AV))(own:List Own)(F:List (Value×AV))(D:List Deferred)(ops:Array Oper)(S:List Nat)(Φ:List Flt)(i:Nat):Prop:=
  ∃(ms:List Bool) (o:Oper),ops[i]? =some o∧memB i S=false∧memB i (Φ.map (·.i))=false∧RY ops.toList o [] ((Q5 ms Φ).map (·.i))=true∧(QS ms Φ).all (·.fre)=true∧
    ∀bs pe ex,JL P E ops [o] ⟨n,Ua bs (Q5 ms Φ)++(env++pe),own++(Uj bs (Q5 ms Φ)++ex),F,D⟩ (thenQ (fun s=>∃ev env' own',s.n=n∧s.env=env'++pe∧s.facts=F∧s.dfs=D∧env'=ev++(Ua bs (Q5 ms Φ)++env)∧ev.all (fun p=>o.dst==some p.1)=true∧Reown s.own (own'++ex)∧
      (match o.dst with|some d=>(Φ.all fun φ=>!Nat.beq φ.d d)=true∧lk env d=none|none=>True)∧okO own' (QS ms Φ)∧JX P E ops (i::((Q5 ms Φ).map (·.i)++S)) (QS ms Φ) ⟨n,env',own',F,D⟩ Q) Q)
theorem CandX.mk{S:List Nat}{Φ:List Flt}(i:Nat)(ms:List Bool){o:Oper}(ho:ops[i]? =some o)(hS:memB i S=false)(hΦ:memB i (Φ.map (·.i))=false)
    (hlnd:RY ops.toList o [] ((Q5 ms Φ).map (·.i))=true) (hfre:(QS ms Φ).all (·.fre)=true)
    (h:∀bs pe ex,JL P E ops [o] ⟨n,Ua bs (Q5 ms Φ)++(env++pe),own++(Uj bs (Q5 ms Φ)++ex),F,D⟩ (thenQ (fun s=>∃ev own',s.n=n∧s.env=ev++(Ua bs (Q5 ms Φ)++(env++pe))∧s.facts=F∧s.dfs=D∧ev.all (fun p=>o.dst==some p.1)=true∧Reown s.own (own'++ex)∧
      (match o.dst with|some d=>(Φ.all fun φ=>!Nat.beq φ.d d)=true∧lk env d=none|none=>True)∧okO own' (QS ms Φ)∧JX P E ops (i::((Q5 ms Φ).map (·.i)++S)) (QS ms Φ) ⟨n,ev++(Ua bs (Q5 ms Φ)++env),own',F,D⟩ Q) Q)):CandX P E Q n env own F D ops S Φ i:=
  ⟨ms,o,ho,hS,hΦ,hlnd,hfre,fun bs pe ex a w hs=>by
    have:=h bs pe ex a w hs
    refine Ko this fun a' w' ⟨s,⟨ev,own',h1,h2,h3,h4,h5,h6,h7,h8,h9⟩,hs'⟩=>⟨s,⟨ev,_,own',h1,by rw[h2];simp,h3,h4,rfl,h5,h6,h7,h8,h9⟩,hs'⟩⟩
theorem Bv{S:List Nat}{Φ:List Flt}(i1 i2:Nat)(hbk:Xg 0 ops.toList=true)(hblk:blk2B ops.toList S (Φ.map (·.i)) i1 i2=true)(h1:CandX P E Q n env own F D ops S Φ i1)(h2:CandX P E Q n env own F D ops S Φ i2):
    JX P E ops S Φ ⟨n,env,own,F,D⟩ Q:=fun hw hF=>by
  have hall:∀i,i=i1∨i=i2→CandX P E Q n env own F D ops S Φ i:=fun i h=>h.elim (fun e=>e▸h1) (fun e=>e▸h2)
  obtain⟨ms0,o0,ho0,hS0,hΦ0,-,-,-⟩:=h1
  have hlt0:i1<ops.size:=(Array.getElem?_eq_some_iff.1 ho0).1
  intro fuel
  induction fuel with
  |zero=>
    intro L bs A a w hc hcf
    exfalso
    have hi:L.getD i1 true=false:=by
      rw[Ue (by rw[hcf.size];exact hlt0)]
      exact hcf.no i1 (fun h=>by rw[Q3.2 h]at hS0;cases hS0) fun φ hφ he=>by rw[Q3.2 (List.mem_map.2 ⟨φ,hφ,he⟩)]at hΦ0;cases hΦ0
    have:=List.countP_eq_zero.1 (Nat.le_zero.1 hc) i1 (by simpa using hlt0)
    simp[hi]at this
  |succ fuel ih=>
    intro L bs A a w hc hcf
    have hundone:L.getD i1 false=false:=hcf.no i1 (fun h=>by rw[Q3.2 h]at hS0;cases hS0) fun φ hφ he=>by rw[Q3.2 (List.mem_map.2 ⟨φ,hφ,he⟩)]at hΦ0;cases hΦ0
    refine⟨fun hr=>?_,fun j hj=>?_⟩
    · exfalso
      have key:∀j,j<ops.size→L.getD j false=true:=by
        intro j
        induction j using Nat.strongRecOn with
        |_ j ihj=>
          intro hjl
          cases hL:L.getD j false with
          |true=>rfl
          |false=>
            exfalso
            obtain⟨oj,hoj⟩:∃oj,ops[j]? =some oj:=⟨_,Array.getElem?_eq_getElem hjl⟩
            have:j∈Region.ready .any ops L:=Yu hcf.size hoj (by rw[Ue (by rw[hcf.size];exact hjl)];exact hL) fun e he hb=>by
              have hon:=Yn hbk (i:=j) (o:=oj) (by simpa using hoj) e he hb
              exact ihj e.on (by omega) (by omega)
            rw[hr]at this
            cases this
      rw[key i1 hlt0]at hundone;cases hundone
    · obtain⟨hjl,oj,hoj,hunj,hdeps⟩:=Wg hj
      have hunj':L.getD j false=false:=by rw[← Ue (by rw[hcf.size];exact hjl)];exact hunj
      by_cases hjΦ:∃φ∈Φ,φ.i=j
      · obtain⟨φ,hφ,rfl⟩:=hjΦ
        exact hcf.run hw hF hφ hunj' hjl (fun o' ho'=>by rw[hoj]at ho';cases ho';exact hdeps) fun bs' A' a' w' hcf'=>ih _ bs' A' a' w' (KZ hcf.size hjl hunj hc) hcf'
      · have hji:j=i1∨j=i2:=by
          by_cases he:j=i1∨j=i2
          · exact he
          · exfalso
            have h1:=List.all_eq_true.1 hblk j (by simpa using hjl)
            have h2:memB j S=false:=by
              cases hb:memB j S with
              |false=>rfl
              |true=>rw[hcf.yes j (Q3.1 hb)]at hunj';cases hunj'
            have h3:memB j (Φ.map (·.i))=false:=by
              cases hb:memB j (Φ.map (·.i))with
              |false=>rfl
              |true=>
                obtain⟨φ,hφ,hφi⟩:=List.mem_map.1 (Q3.1 hb)
                exact absurd ⟨φ,hφ,hφi⟩ hjΦ
            have h4:(Nat.beq j i1||Nat.beq j i2)=false:=by
              cases hb:(Nat.beq j i1||Nat.beq j i2)with
              |false=>rfl
              |true=>exact absurd ((Bool.or_eq_true _ _▸hb).imp Nat.eq_of_beq_eq_true Nat.eq_of_beq_eq_true) he
            have h5:ops.toList[j]? =some oj:=by simpa using hoj
            rw[h2,h3,h4,h5]at h1
            simp only[Bool.false_or]at h1
            obtain⟨e,he,hb⟩:=List.any_eq_true.1 h1
            simp only[Bool.and_eq_true,Bool.not_eq_true']at hb
            have h6:=hdeps e (by simpa using he) hb.1.1
            rw[hcf.no e.on (fun h=>by rw[Q3.2 h]at hb;simp at hb) fun φ hφ hφi=>by
              have:=hb.2
              rw[Q3.2 (List.mem_map.2 ⟨φ,hφ,hφi⟩)]at this;cases this]at h6
            cases h6
        obtain⟨ms,o,ho,hS,hΦ,hlnd,hfre,h⟩:=hall j hji
        have hp:=H5 ms Φ
        have hlt:=hjl
        have hoo:o=oj:=by rw[ho]at hoj;cases hoj;rfl
        rw[← hoo]at hdeps
        clear hoj
        -- what it waits for has been done
        have hland:∀φ∈Q5 ms Φ,L.getD φ.i false=true:=fun φ hφ=>KR hcf.clo hdeps _ _ (fun o' h=>by cases h) hlnd φ.i (List.mem_map.2 ⟨φ,hφ,rfl⟩)
        have hmem:∀φ,φ∈Φ↔φ∈Q5 ms Φ∨φ∈QS ms Φ:=fun φ=>by rw[hp.mem_iff,List.mem_append]
        obtain⟨pe,hpe⟩:∃pe,pe=Ua bs ((QS ms Φ).filter fun φ=>L.getD φ.i false):=⟨_,rfl⟩
        have hndd:((Q5 ms Φ++QS ms Φ).map (·.d)).Nodup:=(hp.map _).nodup_iff.1 hw.ndd
        rw[List.map_append,List.nodup_append]at hndd
        have hnd:((Q5 ms Φ++QS ms Φ).map (·.i)).Nodup:=(hp.map _).nodup_iff.1 hw.nd
        rw[List.map_append,List.nodup_append]at hnd
        have hsat0:SatA E A ⟨n,Ua bs (Q5 ms Φ)++(env++pe),own++(Uj bs (Q5 ms Φ)++XN L bs (QS ms Φ)),F,D⟩ a w:=by
          have h1:=hcf.sat.perm (List.Perm.append_left own ((R7 (L:=L) (bs:=bs) hp).trans (by rw[L7,KF hland])))
          refine⟨h1.size,h1.defers,h1.keep,h1.hp,fun s x hl=>?_,h1.facts⟩
          rcases Gm hl with ⟨φ,hφ,rfl,rfl⟩|hl
          · exact hcf.val φ ((hmem φ).2 (.inl hφ)) (hland φ hφ)
          · rw[Ux]at hl
            rcases hl with hl|⟨_,hl⟩
            · exact hcf.sat.env s x hl
            · rw[hpe]at hl
              rcases Gm (env:=[]) (by rw[List.append_nil];exact hl)with ⟨φ,hφ,rfl,rfl⟩|hl
              · rw[List.mem_filter]at hφ
                exact hcf.val φ ((hmem φ).2 (.inr hφ.1)) hφ.2
              · simp[lk]at hl
        have hl:=h bs pe (XN L bs (QS ms Φ)) a w ⟨A,hsat0⟩
        have hK:∀a' w',wpListIn (Xy E.rd) 0 P ops (Ws E (thenQ (fun s=>∃ev env' own',s.n=n∧s.env=env'++pe∧s.facts=F∧s.dfs=D∧env'=ev++(Ua bs (Q5 ms Φ)++env)∧ev.all (fun p=>o.dst==some p.1)=true∧Reown s.own (own'++XN L bs (QS ms Φ))∧
            (match o.dst with|some d=>(Φ.all fun φ=>!Nat.beq φ.d d)=true∧lk env d=none|none=>True)∧okO own' (QS ms Φ)∧JX P E ops (j::((Q5 ms Φ).map (·.i)++S)) (QS ms Φ) ⟨n,env',own',F,D⟩ Q) Q)) [] a' w'→wpAnyIn (Xy E.rd) 0 P .any ops (Ws E Q) fuel (L.setIfInBounds j true) a' w':=by
          rintro a' w' ⟨⟨n',env2,own2,F',D'⟩,⟨ev,env',own',rfl,rfl,rfl,rfl,rfl,hev,hre,hdd,hoO,hX⟩,A',hsA⟩
          have hevd:∀s x,lk ev s=some x→o.dst=some s:=fun s x hl'=>by
            have:=List.all_eq_true.1 hev _ (X0 _ _ _ hl')
            simpa using this
          have hlts:j<L.size:=by rw[hcf.size];exact hlt
          have hset:∀z,(L.setIfInBounds j true).getD z false=if z=j then true else L.getD z false:=fun z=>Uh _ _ _ hlts _
          have hnot:∀φ∈Φ,φ.i≠j:=fun φ hφ he=>by rw[Q3.2 (List.mem_map.2 ⟨φ,hφ,he⟩)]at hΦ;cases hΦ
          have hevΦ:∀φ∈Φ,lk ev φ.d=none:=fun φ hφ=>by
            cases hle:lk ev φ.d with
            |none=>rfl
            |some x=>
              have hd':=hevd _ _ hle
              rw[hd']at hdd
              have:=List.all_eq_true.1 hdd.1 φ hφ
              simp at this
          have hold:∀s y,lk env s=some y→lk (ev++(Ua bs (Q5 ms Φ)++env)) s=some y:=fun s y hl'=>by
            rw[Ux]
            have h1:lk ev s=none:=by
              cases hle:lk ev s with
              |none=>rfl
              |some x=>
                have hd':=hevd _ _ hle
                rw[hd']at hdd
                simp only at hdd
                rw[hdd.2]at hl';cases hl'
            refine .inr ⟨h1,?_⟩
            rw[WJ fun φ hφ he=>?_]
            · exact hl'
            · rw[← he,hw.ne φ ((hmem φ).2 (.inl hφ))]at hl';cases hl'
          have hexs:XN (L.setIfInBounds j true) bs (QS ms Φ)=XN L bs (QS ms Φ):=XI fun φ hφ=>⟨by rw[hset,if_neg (hnot φ ((hmem φ).2 (.inr hφ)))],rfl⟩
          refine hX ⟨hnd.2.1,hndd.2.1,fun φ hφ hm=>?_,fun φ hφ=>?_⟩ (fun φ hφ=>?_) fuel _ bs A' a' w' (KZ hcf.size hlt hunj hc) ⟨by simpa using hcf.size,fun z hz=>?_,fun z hz1 hz2=>?_,fun z oz hoz hLz e he hb=>?_,?_,fun φ hφ hLφ=>?_⟩
          · rcases List.mem_cons.1 hm with hm|hm
            · exact hnot φ ((hmem φ).2 (.inr hφ)) hm
            · rcases List.mem_append.1 hm with hm|hm
              · exact hnd.2.2 _ hm _ (List.mem_map.2 ⟨φ,hφ,rfl⟩) rfl
              · exact hw.ns φ ((hmem φ).2 (.inr hφ)) hm
          · have hφΦ:=(hmem φ).2 (.inr hφ)
            show lk (ev++(Ua bs (Q5 ms Φ)++env)) φ.d=none
            cases hle:lk (ev++(Ua bs (Q5 ms Φ)++env)) φ.d with
            |none=>rfl
            |some y=>
              rw[Ux]at hle
              rcases hle with hle|⟨_,hle⟩
              · rw[hevΦ φ hφΦ]at hle;cases hle
              · rw[WJ fun ψ hψ he=>hndd.2.2 _ (List.mem_map.2 ⟨ψ,hψ,rfl⟩) _ (List.mem_map.2 ⟨φ,hφ,rfl⟩) he]at hle
                rw[hw.ne φ hφΦ]at hle;cases hle
          · obtain⟨o',ho',hd',hdn',hm'⟩:=hF φ ((hmem φ).2 (.inr hφ))
            refine⟨o',ho',hd',hdn',?_⟩
            split at hm'
            · exact hm'
            · obtain⟨e,he,_,hs⟩:=hm'
              refine⟨e,fun s y hl'=>?_,NP hoO φ hφ,fun own2 _ hO2=>hs own2 (fun hf=>?_) hO2⟩
              · rcases he s y hl' with h1|⟨ψ,hψ,rfl,hψv,hψd⟩
                · exact .inl (hold s y h1)
                · rcases(hmem ψ).1 hψ with hψ'|hψ'
                  · left
                    rw[Ux]
                    refine .inr ⟨hevΦ ψ hψ,?_⟩
                    rw[Xe hndd.1 hψ']
                    unfold Flt.val
                    rw[hψv]
                  · exact .inr ⟨ψ,hψ',rfl,hψv,hψd⟩
              · have:=List.all_eq_true.1 hfre φ hφ
                rw[hf]at this;cases this
          · rw[hset]
            split
            · rfl
            · rename_i hne
              rcases List.mem_cons.1 hz with hz|hz
              · exact absurd hz hne
              · rcases List.mem_append.1 hz with hz|hz
                · obtain⟨φ,hφ,rfl⟩:=List.mem_map.1 hz
                  exact hland φ hφ
                · exact hcf.yes z hz
          · rw[hset,if_neg (fun h=>hz1 (by simp[h]))]
            refine hcf.no z (fun h=>hz1 (by simp[h])) fun φ hφ he=>?_
            rcases(hmem φ).1 hφ with h'|h'
            · exact hz1 (by rw[← he];exact List.mem_cons_of_mem _ (List.mem_append_left _ (List.mem_map.2 ⟨φ,h',rfl⟩)))
            · exact hz2 φ h' he
          · rw[hset]at hLz⊢
            split
            · rfl
            · by_cases hzj:z=j
              · subst hzj;rw[ho]at hoz;cases hoz;exact hdeps e he hb
              · rw[if_neg hzj]at hLz;exact hcf.clo z oz hoz hLz e he hb
          · rw[hexs]
            exact⟨hsA.size,hsA.defers,hsA.keep,hsA.hp.reown hre,fun s y hl'=>hsA.env s y (by rw[Ux];exact .inl hl'),hsA.facts⟩
          · rw[hset,if_neg (hnot φ ((hmem φ).2 (.inr hφ)))]at hLφ
            refine hsA.env φ.d (φ.val bs) ?_
            have hφΦ:=(hmem φ).2 (.inr hφ)
            rw[Ux]
            refine .inr ⟨?_,?_⟩
            · show lk (ev++(Ua bs (Q5 ms Φ)++env)) φ.d=none
              cases hle:lk (ev++(Ua bs (Q5 ms Φ)++env)) φ.d with
              |none=>rfl
              |some y=>
                rw[Ux]at hle
                rcases hle with hle|⟨_,hle⟩
                · rw[hevΦ φ hφΦ]at hle;cases hle
                · rw[WJ fun ψ hψ he=>hndd.2.2 _ (List.mem_map.2 ⟨ψ,hψ,rfl⟩) _ (List.mem_map.2 ⟨φ,hφ,rfl⟩) he]at hle
                  rw[hw.ne φ hφΦ]at hle;cases hle
            · rw[hpe]
              have:=Xe (bs:=bs) (env:=[]) (Φ:=(QS ms Φ).filter fun φ=>L.getD φ.i false) (φ:=φ) ((List.filter_sublist.map _).nodup hndd.2.1) (List.mem_filter.2 ⟨hφ,hLφ⟩)
              rwa [List.append_nil]at this
        unfold wpOpIn
        simp only[ho]
        unfold wpListIn at hl
        split
        · rename_i hw'
          rw[if_pos hw']at hl
          exact Ya (fun ch a w h=>Hq (by intro h;cases h) h) (fun h=>by first|exact fun a w=>Hq (by intro h;cases h) (h a w)|exact h) (Oper.wpIn_mono hK hl)
        · rename_i hw'
          rw[if_neg hw']at hl
          exact⟨hl.1,hK _ _ hl.2⟩
end

end
section
/- Walks: the machine: what an expression tells, items of a list. -/
set_option maxRecDepth 10000
set_option maxHeartbeats 4000000
def mb(b:Nat)(s:ScT)(f:Int):Own:=.box b (s.st.cs false++s.ev.cs false++s.it.cs false++[.c (.int .i64 f)])
theorem MZ{s:ScT}{f:Int}(k:Nat)(h:k≤2:=by decide):((s.st.cs false++s.ev.cs false++s.it.cs false++[AV.c (.int .i64 f)]).drop (5*k)).take 5=(match k with|0=>s.st|1=>s.ev|_=>s.it).cs false:=by
  obtain⟨⟨k1,b1,t1,ks1,is1⟩,⟨k2,b2,t2,ks2,is2⟩,⟨k3,b3,t3,ks3,is3⟩⟩:=s
  match k,h with
  |0,_=>rfl
  |1,_=>rfl
  |2,_=>rfl
theorem NS{s:ScT}{f:Int}:(s.st.cs false++s.ev.cs false++s.it.cs false++[AV.c (.int .i64 f)])[15]? =some (.c (.int .i64 f)):=by
  obtain⟨⟨k1,b1,t1,ks1,is1⟩,⟨k2,b2,t2,ks2,is2⟩,⟨k3,b3,t3,ks3,is3⟩⟩:=s;rfl
theorem Hm{s:ScT}{f:Int}:(s.st.cs false++s.ev.cs false++s.it.cs false++[AV.c (.int .i64 f)]).length=16:=by
  simp[V.cs_length]
theorem En{s:ScT}{f g:Int}:QT (s.st.cs false++s.ev.cs false++s.it.cs false++[AV.c (.int .i64 f)]) 15 [.c (.int .i64 g)]=s.st.cs false++s.ev.cs false++s.it.cs false++[AV.c (.int .i64 g)]:=by
  obtain⟨⟨k1,b1,t1,ks1,is1⟩,⟨k2,b2,t2,ks2,is2⟩,⟨k3,b3,t3,ks3,is3⟩⟩:=s;rfl
theorem LN{s:ScT}{f:Int}{x:V}:QT (s.st.cs false++s.ev.cs false++s.it.cs false++[AV.c (.int .i64 f)]) 10 (x.cs false)=s.st.cs false++s.ev.cs false++x.cs false++[AV.c (.int .i64 f)]:=by
  obtain⟨⟨k1,b1,t1,ks1,is1⟩,⟨k2,b2,t2,ks2,is2⟩,⟨k3,b3,t3,ks3,is3⟩⟩:=s
  obtain⟨k4,b4,t4,ks4,is4⟩:=x;rfl
def pb(b:Nat):AV:=.c (.pointer (some ⟨b,0,none⟩))
def KQ(f:Int):Prop:=0≤f∧f≤4611686018427387904
def EvR(r:ER V)(b:Nat)(s:ScT):W1→List Own→Prop:=PanR (XJ r=0) (YR (XJ r)) fun x o=>∃v f',r=.ok (v,f')∧x=.agg (v.cs false)∧o=[mb b s f']
def TrR(r:ER Bool)(b:Nat)(s:ScT):W1→List Own→Prop:=PanR (XJ r=0) (YR (XJ r)) fun x o=>∃t f',r=.ok (t,f')∧x=.c (.bool t)∧o=[mb b s f']
theorem EvR.ok{r:ER V}{b:Nat}{s:ScT}{v:V}{f':Int}(h:r=.ok (v,f')):EvR r b s (.ret (.agg (v.cs false))) [mb b s f']:=.inl ⟨by rw[h];rfl,_,rfl,v,f',h,rfl,rfl⟩
theorem EvR.er{r:ER V}{b:Nat}{s:ScT}{c:Int}(h:r=.error c)(hc:¬c=0):EvR r b s (.pan (.iface 33 (.int .i64 c))) []:=.inr ⟨by rw[h];exact hc,by rw[h];rfl,rfl⟩
theorem TrR.ok{r:ER Bool}{b:Nat}{s:ScT}{t:Bool}{f':Int}(h:r=.ok (t,f')):TrR r b s (.ret (.c (.bool t))) [mb b s f']:=.inl ⟨by rw[h];rfl,_,rfl,t,f',h,rfl,rfl⟩
theorem TrR.er{r:ER Bool}{b:Nat}{s:ScT}{c:Int}(h:r=.error c)(hc:¬c=0):TrR r b s (.pan (.iface 33 (.int .i64 c))) []:=.inr ⟨by rw[h];exact hc,by rw[h];rfl,rfl⟩
theorem Wh{α:Type}{r:Except Int α}(h:¬XJ r=0):r=.error (XJ r):=by
  cases r with
  |ok _=>exact absurd rfl h
  |error c=>rfl
def D5(n:Nat):Prop:=∀(e:EX) (s:ScT) (f:Int) (b:Nat) (fr:Bool),e.wf→e.Fine→s.good→KQ f→e.sz≤n→AC Tryz.prog 87 [mb b s f] [pb b,.agg (e.cs fr)] (EvR (e.ev s f) b s)
theorem Ec{r:ER V}{c:Int}(h:r=.error c):UW r=.error c:=by rw[h];rfl
theorem Eb{r:ER V}{v:V}{f:Int}(h:r=.ok (v,f))(hk:¬v.kind=1):UW r=.error 81:=by rw[h];exact if_neg hk
theorem GG{r:ER V}{v:V}{f:Int}(h:r=.ok (v,f))(hk:v.kind=1):UW r=.ok (v.bits==1,f):=by rw[h];exact if_pos hk
def MF{β:Type}(stp:β→V→Int→Except Int (Bool×β×Int)):List V→β→Int→Except Int (β×Int)
  |[],σ,f=>.ok (σ,f)
  |x::r,σ,f=>match stp σ x f with
    |.error e=>.error e
    |.ok (k,σ',f')=>if k then MF stp r σ' f' else .ok (σ',f')
def Xf{β:Type}(stp:β→V→Int→Except Int (Bool×β×Int))(σ:β)(r:ER V):Except Int (β×Int):=match r with
  |.error e=>.error e
  |.ok (v,f)=>if v.kind≠4 then .error 81 else MF stp v.items σ f
theorem R0{β:Type}{stp:β→V→Int→Except Int (Bool×β×Int)}{l:List V}{j:Nat}(h:j<l.length)(σ:β)(f:Int):MF stp (l.drop j) σ f=match stp σ l[j] f with
    |.error e=>.error e
    |.ok (k,σ',f')=>if k then MF stp (l.drop (j+1)) σ' f' else .ok (σ',f'):=by
  rw[List.drop_eq_getElem_cons h,MF]
theorem Sz{β:Type}{stp:β→V→Int→Except Int (Bool×β×Int)}{l:List V}{j:Nat}{σ:β}{f c:Int}(h:j<l.length)(hc:stp σ l[j] f=.error c):MF stp (l.drop j) σ f=.error c:=by rw[R0 h,hc]
theorem itE_ok{β:Type}{stp:β→V→Int→Except Int (Bool×β×Int)}{l:List V}{j:Nat}{σ σ':β}{f f':Int}{k:Bool}(h:j<l.length)(hc:stp σ l[j] f=.ok (k,σ',f')):MF stp (l.drop j) σ f=if k then MF stp (l.drop (j+1)) σ' f' else .ok (σ',f'):=by rw[R0 h,hc]
theorem Yw{n:Nat}(ih:D5 n){e:EX}{s:ScT}{f:Int}{b:Nat}{fr:Bool}{ys:List AV}(he:Xc fr e ys)(hw:e.wf)(hf:e.Fine)(hs:s.good)(h0:KQ f)(hn:e.sz≤n):
    AC Tryz.prog 98 [mb b s f] [pb b,.agg ys] (TrR (UW (e.ev s f)) b s):=by
  subst he
  refine AC.of_J Tryz.func98 rfl Tryz.ntmps98 rfl fun w0 A0=>?_
  refine Zs (Qp (.tmp rfl) rfl fun b3=>Zq rfl (QW.assign .const) (Zn (Zs (Zq rfl (QW.move (.tmp rfl)) (Zq rfl (Qf 0 Uz (.tmp rfl) rfl (Qm xl rfl) xl) ?_)))))
  refine Qs [.k,.p] Gt rfl Lent.nil (fun _=>(.cons (.tmp rfl) (.cons (.tmp rfl) .nil))) (ih e s f b fr hw hf hs h0 hn) (.inl rfl) (fun k8 x8 o8 h8=>?_) (fun k8=>?_)
  rotate_left
  · skip
    refine thenQ.p ?_
    exact⟨_,QN [.k] _,_,rfl,rfl,Qn [.k] _,TrR.er (Ec (Wh k8)) k8⟩
  obtain⟨v8,f8,hv8,rfl,rfl⟩:=h8
  refine JL.alloc WQ rfl rfl fun b5=>Qc 0 Qj (.tmp rfl) rfl (.tmp rfl) rfl vl rfl rfl (Zn (Zs ?_))
  obtain⟨vk,vb,vt,vks,vis⟩:=v8
  refine Zq rfl (Qa UJ (.tmp rfl) rfl) (Zq rfl (Qb 0 UQ (.tmp rfl) rfl rfl) (Zq rfl (QW.eql (.tmp rfl) .const) ?_))
  refine Qs [] Yx rfl Lent.nil (fun _=>(.cons (.tmp rfl) (.cons .const .nil))) (XE _ _) (.inl rfl) (fun k12 x12 o12 h12=>?_) (fun k12=>?_)
  rotate_left
  · skip
    refine thenQ.p ?_
    exact⟨_,QN [.k,.k,.k] _,_,rfl,rfl,Qn [.k,.k,.k] _,TrR.er (c:=81) (Eb hv8 (by show ¬vk=1;simpa using k12)) (by decide)⟩
  obtain⟨rfl,rfl⟩:=h12
  exact Zn (Zs (Zq rfl (Qa Uu (.tmp rfl) rfl) (Zq rfl (Qb 0 Wi (.tmp rfl) rfl rfl) (Zq rfl (QW.eql (.tmp rfl) .const) (Zq rfl (QW.assign (.tmp rfl)) (Zn (J.ret (Zr [.k,.k,.p] (RetEv.one rfl (REv.tmp rfl lr)) rfl (TrR.ok ((GG hv8 (by show vk=1;simpa using k12)).trans (by rw[V.bits,show(((vb:Nat):Int)==1)=(vb==1) by rw[Bool.eq_iff_iff];simp;omega])))))))))))
def BodyC{β:Type}(n:Nat)(g:FuncId)(ca:List Value)(W:Nat→β→Own→Prop)(stp:β→V→Int→Except Int (Bool×β×Int))(b:Nat)(s:ScT):Prop:=
  ∀(j:Nat) (σ:β) (x:V) (f:Int) (o0:Own),j<32→W j σ o0→x.good→KQ f→AC Tryz.prog g [mb b {s with it:=x} f,o0] (.agg (x.cs false)::ca.map AV.c)
    (PanR (XJ (stp σ x f)=0) (YR (XJ (stp σ x f))) fun y o=>∃k σ' f' o1,stp σ x f=.ok (k,σ',f')∧KQ f'∧W (j+1) σ' o1∧y=.c (.bool k)∧o=[mb b {s with it:=x} f',o1])
def ItR{β:Type}(W:Nat→β→Own→Prop)(r:Except Int (β×Int))(b:Nat)(s:ScT):W1→List Own→Prop:=PanR (XJ r=0) (YR (XJ r)) fun x o=>∃σ f' j o1,r=.ok (σ,f')∧j≤32∧W j σ o1∧KQ f'∧x=.tup []∧o=[mb b s f',o1]
theorem ItR.er{β:Type}{W:Nat→β→Own→Prop}{r:Except Int (β×Int)}{b:Nat}{s:ScT}{c:Int}(h:r=.error c)(hc:¬c=0):ItR W r b s (.pan (.iface 33 (.int .i64 c))) []:=.inr ⟨by rw[h];exact hc,by rw[h];rfl,rfl⟩
theorem ItR.ok{β:Type}{W:Nat→β→Own→Prop}{r:Except Int (β×Int)}{b:Nat}{s:ScT}{σ:β}{f':Int}{j:Nat}{o1:Own}(h:r=.ok (σ,f'))(hj:j≤32)(hI:W j σ o1)(hf:KQ f'):ItR W r b s (.ret (.tup [])) [mb b s f',o1]:=.inl ⟨by rw[h];rfl,_,rfl,σ,f',j,o1,h,hj,hI,hf,rfl,rfl⟩
theorem CJ{β:Type}{stp:β→V→Int→Except Int (Bool×β×Int)}{σ:β}{r:ER V}{c:Int}(h:r=.error c):Xf stp σ r=.error c:=by rw[h];rfl
theorem CI{β:Type}{stp:β→V→Int→Except Int (Bool×β×Int)}{σ:β}{r:ER V}{v:V}{f:Int}(h:r=.ok (v,f))(hk:¬v.kind=4):Xf stp σ r=.error 81:=by rw[h];exact if_pos hk
theorem Gp{β:Type}{stp:β→V→Int→Except Int (Bool×β×Int)}{σ:β}{r:ER V}{v:V}{f:Int}(h:r=.ok (v,f))(hk:v.kind=4):Xf stp σ r=MF stp v.items σ f:=by rw[h];exact if_neg (fun h=>h hk)
theorem Kb{e:EX}{s:ScT}{f f':Int}{v:V}(hw:e.wf)(hf:e.Fine)(hs:s.good)(h0:KQ f)(h:e.ev s f=.ok (v,f')):v.good∧KQ f':=by
  obtain⟨a1,a2,a3⟩:=Wq e s f hf hw hs v f' h
  exact⟨a1,a3,by have:=h0.2;omega⟩
theorem Hl{β:Type}{n:Nat}{g:FuncId}{ca:List Value}{W:Nat→β→Own→Prop}{stp:β→V→Int→Except Int (Bool×β×Int)}(ih:D5 n)(hgo:QE Tryz.prog g=true){e:EX}{s:ScT}{f:Int}{b:Nat}{fr:Bool}{ys:List AV}(hg:BodyC n g ca W stp b s)(he:Xc fr e ys)(hw:e.wf)(hf:e.Fine)(hs:s.good)(h0:KQ f)(hn:e.sz≤n){σ0:β}{o0:Own}(hI:W 0 σ0 o0):
    AC Tryz.prog 105 [mb b s f,o0] [pb b,.agg ys,.c (.func (.func g) #[] ca.toArray)] (ItR W (Xf stp σ0 (e.ev s f)) b s):=by
  subst he
  refine AC.of_J Tryz.func105 rfl Tryz.ntmps105 rfl fun w0 A0=>?_
  refine Zs (Qp (.tmp rfl) rfl fun b4=>Zn (Zs (Zq rfl (QW.move (.tmp rfl)) (Zq rfl (Qf 0 Uz (.tmp rfl) rfl (Qm xl rfl) xl) ?_))))
  refine Qs [.k,.p] Gt rfl Lent.nil (fun _=>(.cons (.tmp rfl) (.cons (.tmp rfl) .nil))) (ih e s f b fr hw hf hs h0 hn) (.inl rfl) (fun k12 x12 o12 h12=>?_) (fun k12=>?_)
  rotate_left
  · skip
    refine thenQ.p ?_
    exact⟨_,QN [.k,.k] _,_,rfl,rfl,Qn [.k,.k] _,ItR.er (CJ (Wh k12)) k12⟩
  obtain⟨v12,f12,hv12,rfl,rfl⟩:=h12
  obtain⟨hgv,hfv⟩:=Kb hw hf hs h0 hv12
  obtain⟨vk,vb,vt,vks,vis⟩:=v12
  have hlen:vis.length≤32:=hgv.len
  refine JL.alloc WQ rfl rfl fun b6=>Qc 0 Qj (.tmp rfl) rfl (.tmp rfl) rfl rfl rfl rfl (Zn (Zs (Zq rfl (Qa UJ (.tmp rfl) rfl) (Zq rfl (Qb 0 UQ (.tmp rfl) rfl rfl) (Zq rfl (QW.eql (.tmp rfl) .const) ?_)))))
  refine Qs [] Yx rfl Lent.nil (fun _=>(.cons (.tmp rfl) (.cons .const .nil))) (XE _ _) (.inl rfl) (fun k16 x16 o16 h16=>?_) (fun k16=>?_)
  rotate_left
  · skip
    refine thenQ.p ?_
    exact⟨_,QN [.k,.k,.k,.k] _,_,rfl,rfl,Qn [.k,.k,.k,.k] _,ItR.er (c:=81) (CI hv12 (by show ¬vk=4;simpa using k16)) (by decide)⟩
  obtain⟨rfl,rfl⟩:=h16
  refine Zn (Zs (Zq rfl (QW.move (.tmp rfl)) (Zq rfl (QG (.tmp rfl)) (Zq rfl (Qa X7 (.tmp rfl) rfl) (Zq rfl (Qa GW (.tmp rfl) rfl) (Zq rfl (Qf 2 Qj (.tmp rfl) rfl (MZ 2) vl) (JL.alloc WQ rfl rfl fun b7=>Qc 0 Qj (.tmp rfl) rfl (.tmp rfl) rfl vl rfl rfl (Zn ?_))))))))
  refine J.seq (Zs (Zq rfl (Qa Ud (.tmp rfl) rfl) (Zq rfl (Qb 1 U4 (.tmp rfl) rfl rfl) (Zq rfl (Qh QO (.tmp rfl) wl) (Zq rfl (QW.move .const) (Zn (J.block (Q0 (ι:=Nat×β×Int×V×Own) [0,2,7,23,24] (fun⟨j,σ,g1,it,o⟩=>[(25,.c (.int .i64 (j:Int)))]) (fun⟨j,σ,g1,it,o⟩ oo=>List.set (List.set oo 3 (mb b {s with it:=it} g1)) 4 (o)) (fun⟨j,σ,g1,it,o⟩=>j≤vis.length∧MF stp vis σ0 f12=MF stp (vis.drop j) σ g1∧W j σ o∧KQ g1) (fun⟨j,σ,g1,it,o⟩=>vis.length-j) ⟨0,σ0,f12,s.it,o0⟩ (⟨Nat.zero_le _,rfl,hI,hfv⟩) (QK (.cons rfl lr (.cons rfl lr (.cons rfl lr (.cons rfl lr (.cons rfl lr (.cons rfl lr .nil)))))) (Reown.refl _) (fun _ h=>by first|exact h|simp[h])) ?_))))))))
  intro⟨j,σ,f,it,o⟩ ⟨hj,hit,hIj,hfj⟩
  refine J.conv (by(try simp only[nl,Qk,Qz,QA,Qy,QR,AV.cellsOf,Qd,Qe,Nat.reduceAdd]);rfl) ?_
  refine Zs (Zq rfl (QW.lss (.tmp rfl) (.tmp rfl)) (Zn (J.seq ?_)))
  refine J.cond (.tmp rfl) (fun c1=>?_) (fun c1=>?_)
  · skip
    have hlt:j<vis.length:=by simpa[V.css_length]using c1
    have hj32:j<32:=by omega
    have hgx:vis[j].good:=hgv.kid (List.getElem_mem hlt)
    refine Zk (J.seq (J.block (Zs (Zq rfl (Qi QO Qj rfl (.tmp rfl) (.tmp rfl) rfl (by exact V.css_getE _ hlt)) ?_))))
    refine Zq rfl (Ql Qj (.tmp rfl) (QH vl rfl) vl) (JL.alloc WQ rfl rfl fun b9=>Qc 0 Qj (.tmp rfl) rfl (.tmp rfl) rfl vl rfl rfl (Zn (Zs (Zq rfl (QW.move (.tmp rfl)) (Zq rfl (Qf 0 Qj (.tmp rfl) rfl (Qm vl rfl) vl) (Zq rfl (QG (.tmp rfl)) (Zq rfl (Qa X7 (.tmp rfl) rfl) (Zq rfl (Qa GW (.tmp rfl) rfl) ?_))))))))
    refine JL.store_box 4 Qj (.tmp rfl) rfl (.tmp rfl) rfl vl (by rw[Hm];rfl) LN rfl ?_
    refine Zn (Zs (Zq rfl (QW.move (.tmp rfl)) (Zq rfl (Qf 0 Qj (.tmp rfl) rfl (Qm vl rfl) vl) ?_)))
    refine Fp [.k,.k,.k,.k,.p,.p] hgo rfl (.tmp rfl) Lent.nil (fun _=>(.cons (.tmp rfl) .nil)) rfl (hg j σ vis[j] f o hj32 hIj hgx hfj) (.inl rfl) (fun k36 x36 o36 h36=>?_) (fun k36=>?_)
    rotate_left
    · skip
      refine thenQ.p (blkQ.p (thenQ.p (thenQ.p (blkQ.p (thenQ.p ?_)))))
      exact⟨_,QN [.k,.k,.k,.k] _,_,rfl,rfl,Qn [.k,.k,.k,.k] _,ItR.er ((Gp hv12 (by show vk=4;simpa using k16)).trans (hit.trans (Sz hlt (Wh k36)))) k36⟩
    obtain⟨q36,σ36,f36,o1_,hs36,hf36,hI36,rfl,rfl⟩:=h36
    rw[itE_ok hlt hs36]at hit
    refine Zq rfl (QW.not (.tmp rfl)) (Zn ?_)
    refine J.cond (.tmp rfl) (fun c2=>?_) (fun c2=>?_)
    · skip
      obtain rfl:q36=false:=by simpa using c2
      rw[if_neg (by decide)]at hit
      refine J.exit (Fb rfl (Qv (Qv (QM (thenQ.n (Qg (Zq rfl (QW.move (.tmp rfl)) (Zq rfl (Qf 1 Qj (.tmp rfl) rfl (Qm vl rfl) vl) (Zq rfl (QG (.tmp rfl)) ?_)))))))))
      refine Zq rfl (Qa X7 (.tmp rfl) rfl) (Zq rfl (Qa GW (.tmp rfl) rfl) (JL.store_box 4 Qj (.tmp rfl) rfl (.tmp rfl) rfl vl (by rw[Hm];rfl) LN rfl ?_))
      exact JL.nil (Zr [.k,.k,.k,.k,.p,.p] (Up rfl) rfl (ItR.ok ((Gp hv12 (by show vk=4;simpa using k16)).trans hit) (Nat.le_trans hlt hlen) hI36 hf36))
    obtain rfl:q36=true:=by simpa using c2
    rw[if_pos rfl]at hit
    refine J.skip (blkQ.n (thenQ.n (Qg (Zq rfl (QW.add (.tmp rfl) .const (WW (by omega))) (Zq rfl (QW.move (.tmp rfl)) (Zn ?_))))))
    exact⟨⟨j+1,σ36,f36,vis[j],o1_⟩,⟨hlt,hit,hI36,hf36⟩,by show vis.length-(j+1)<vis.length-j;omega,QK (.cons rfl lr (.cons rfl lr (.cons rfl lr (.cons rfl lr (.cons rfl lr (.cons rfl lr .nil)))))) (Q9 1 _ rfl) (fun _ h=>by first|exact h|simp[h])⟩
  have hge:vis.length≤j:=by simpa[V.css_length]using c1
  rw[List.drop_of_length_le hge,MF]at hit
  refine J.exit (Qv (Qv (QM (thenQ.n (Qg (Zq rfl (QW.move (.tmp rfl)) (Zq rfl (Qf 0 Qj (.tmp rfl) rfl (Qm vl rfl) vl) (Zq rfl (QG (.tmp rfl)) (Zq rfl (Qa X7 (.tmp rfl) rfl) ?_)))))))))
  refine Zq rfl (Qa GW (.tmp rfl) rfl) (JL.store_box 3 Qj (.tmp rfl) rfl (.tmp rfl) rfl vl (by rw[Hm];rfl) LN rfl ?_)
  exact JL.nil (Zr [.k,.k,.k,.p,.p] (Up rfl) rfl (ItR.ok ((Gp hv12 (by show vk=4;simpa using k16)).trans hit) (Nat.le_trans hj hlen) hIj hfj))

end
section
/- Walks: what the machine does with each item. -/
set_option maxRecDepth 10000
set_option maxHeartbeats 4000000
def outC(v:Value):List AV:=[.c (.int .i64 4),.c (.int .u64 0),.c (Um []),.c (.slice none 0 0),.c v]
def ptr(b:Nat):Value:=.pointer (some ⟨b,0,none⟩)
def Ca(b5 b2 b6 b:Nat)(ye:List AV)(j:Nat)(ys:List V)(o:Own):Prop:=∃v,o=.grp [.box b5 (outC v),.arr v eV (V.css false ys),.box b2 [pb b],.box b6 ye]∧ys.length≤j∧∀x∈ys,x.good
def GH(y:EX)(s:ScT)(ys:List V)(x:V)(f:Int):Except Int (Bool×List V×Int):=match y.ev {s with it:=x} f with
  |.error e=>.error e
  |.ok (v,f')=>.ok (true,ys++[v],f')
def GI(y:EX)(s:ScT)(ys:List V)(x:V)(f:Int):Except Int (Bool×List V×Int):=match UW (y.ev {s with it:=x} f)with
  |.error e=>.error e
  |.ok (t,f')=>.ok (true,if t then ys++[x]else ys,f')
theorem FD{y:EX}{s:ScT}{ys:List V}{x:V}{f c:Int}(h:y.ev {s with it:=x} f=.error c):GH y s ys x f=.error c:=by unfold GH;rw[h]
theorem RB{y:EX}{s:ScT}{ys:List V}{x v:V}{f f':Int}(h:y.ev {s with it:=x} f=.ok (v,f')):GH y s ys x f=.ok (true,ys++[v],f'):=by unfold GH;rw[h]
theorem FF{y:EX}{s:ScT}{ys:List V}{x:V}{f c:Int}(h:UW (y.ev {s with it:=x} f)=.error c):GI y s ys x f=.error c:=by unfold GI;rw[h]
theorem Lu{y:EX}{s:ScT}{ys:List V}{x:V}{f f':Int}{t:Bool}(h:UW (y.ev {s with it:=x} f)=.ok (t,f')):GI y s ys x f=.ok (true,if t then ys++[x]else ys,f'):=by unfold GI;rw[h]
theorem Lm(ys:List V)(v:V)(z:List AV):(V.css false ys++[z]).set ys.length (v.cs false)=V.css false (ys++[v]):=by
  have h:∀(l:List V),V.css false (l++[v])=V.css false l++[v.cs false]:=fun l=>by
    induction l with
    |nil=>rfl
    |cons x r ih=>rw[List.cons_append,V.css,V.css,ih];rfl
  rw[h,← V.css_length false ys,List.set_append_right _ _ (Nat.le_refl _),Nat.sub_self];rfl
theorem G1(ys:List V)(z:List AV):(V.css false ys++[z])[ys.length]? =some z:=by
  rw[← V.css_length false ys,List.getElem?_append_right (Nat.le_refl _),Nat.sub_self];rfl
def BodR{β:Type}(W:Nat→β→Own→Prop)(r:Except Int (Bool×β×Int))(j b:Nat)(s:ScT):W1→List Own→Prop:=PanR (XJ r=0) (YR (XJ r)) fun y o=>∃k σ' f' o1,r=.ok (k,σ',f')∧KQ f'∧W (j+1) σ' o1∧y=.c (.bool k)∧o=[mb b s f',o1]
theorem BodR.er{β:Type}{W:Nat→β→Own→Prop}{r:Except Int (Bool×β×Int)}{j b:Nat}{s:ScT}{c:Int}(h:r=.error c)(hc:¬c=0):BodR W r j b s (.pan (.iface 33 (.int .i64 c))) []:=.inr ⟨by rw[h];exact hc,by rw[h];rfl,rfl⟩
theorem BodR.ok{β:Type}{W:Nat→β→Own→Prop}{r:Except Int (Bool×β×Int)}{j b:Nat}{s:ScT}{k:Bool}{σ:β}{f':Int}{o1:Own}(h:r=.ok (k,σ,f'))(hf:KQ f')(hW:W (j+1) σ o1):BodR W r j b s (.ret (.c (.bool k))) [mb b s f',o1]:=.inl ⟨by rw[h];rfl,_,rfl,k,σ,f',o1,h,hf,hW,rfl,rfl⟩
theorem F9{n:Nat}(ih:D5 n){y:EX}{s:ScT}{fr:Bool}(hw:y.wf)(hf:y.Fine)(hs:s.good)(hn:y.sz≤n)(b b5 b2 b6:Nat){j:Nat}{ys:List V}{x:V}{f:Int}{o0:Own}(hj:j<32)(hW:Ca b5 b2 b6 b (y.cs fr) j ys o0)(hx:x.good)(h0:KQ f):
    AC Tryz.prog 106 [mb b {s with it:=x} f,o0] [.agg (x.cs false),.c (ptr b5),.c (ptr b2),.c (ptr b6)] (BodR (Ca b5 b2 b6 b (y.cs fr)) (GH y s ys x f) j b {s with it:=x}):=by
  obtain⟨v,rfl,hl,hgd⟩:=hW
  refine AC.of_J Tryz.func106 rfl Tryz.ntmps106 rfl fun w0 A0=>?_
  refine J.seq (J.reown (Reown.cons (U0 _ _)) (Qg (Qp (.tmp rfl) rfl fun b4=>Zq rfl (QW.assign .const) (Zn (J.seq (QU Uc (Zf 0 [] rfl (fun _=>Qa Ud (.tmp rfl) rfl) (Zo 1 2 [6] rfl (fun _ ho_=>Qb 2 U4 (.tmp rfl) ho_ rfl) ?_))))))))
  refine Zo 2 4 [] rfl (fun _ ho_=>Qb 4 MN (.tmp rfl) ho_ rfl) (Zo 3 5 [] rfl (fun _ ho_=>Qf 5 Uz (.tmp rfl) ho_ (Qm xl rfl) xl) (Zo 5 3 [7] rfl (fun _ ho_=>Yc 3 QO (.tmp rfl) ho_) (Zf 6 [] rfl (fun _=>QW.buildSlice (idx:=[0]) (xs:=[[.c (.int .i64 0),.c (.int .u64 0),.c (Um []),.c (.slice none 0 0),.c (.slice none 0 0)]]) QO K6 WQ rfl (.cons (.constA rfl) .nil) rfl rfl rfl rfl rfl rfl rfl rfl rfl) (JX.one 4 [false,false,true,true,false,false] rfl (by kernel_rfl) (by kernel_rfl) rfl rfl (by kernel_rfl) rfl fun bs4_ pe_ ex_=>?_))))
  refine JL.conv (by(try simp only[Ua,Uj,Q5,QS,Flt.val,Flt.bx,nx,nl,Qk,Qz,QA,Qy,QR,AV.cellsOf,Qd,Qe,Nat.reduceAdd]);rfl) ?_
  refine Qs [.k,.p] Gt rfl Lent.nil (fun _=>(.cons (.tmp rfl) (.cons (.tmp rfl) .nil))) (ih y {s with it:=x} f b fr hw hf ⟨hs.st,hs.ev,hx⟩ h0 hn) (.inl rfl) (fun k10 x10 o10 h10=>?_) (fun k10=>?_)
  rotate_left
  · skip
    refine thenQ.p (thenQ.p ?_)
    exact⟨_,QN [.k,.k,.k,.k,.k] _,_,rfl,rfl,Qn [.k,.k,.k,.k,.k] _,BodR.er (FD (Wh k10)) k10⟩
  obtain⟨v10,f10,hv10,rfl,rfl⟩:=h10
  refine JL.nil ?_
  refine thenQ.n ⟨[_],_,rfl,rfl,rfl,rfl,rfl,Wp 6 rfl rfl,⟨rfl,rfl⟩,⟨trivial,⟨rfl,⟨rfl,⟨trivial,trivial⟩⟩⟩⟩,?_⟩
  refine JX.conv (S':=[4,3,2]) rfl (by(try simp only[QS]);rfl) (by(try simp only[Ua,Uj,Q5,QS,Flt.val,Flt.bx,nx,nl,Qk,Qz,QA,Qy,QR,AV.cellsOf,Qd,Qe,Nat.reduceAdd]);rfl) ?_
  refine JX.one 7 [true,true,true,true] rfl (by kernel_rfl) (by kernel_rfl) rfl rfl (by kernel_rfl) rfl fun bs7_ pe_ ex_=>?_
  refine JL.conv (by(try simp only[Ua,Uj,Q5,QS,Flt.val,Flt.bx,nx,nl,Qk,Qz,QA,Qy,QR,AV.cellsOf,Qd,Qe,Nat.reduceAdd]);rfl) ?_
  obtain⟨hgv,hfv⟩:=Kb (s:={s with it:=x}) hw hf ⟨hs.st,hs.ev,hx⟩ h0 hv10
  refine JL.append 3 QO K6 rfl (.tmp rfl) rfl (UL QO (.tmp rfl)) (by rw[V.css_length];show(_+1)*80≤_;unfold Qu;omega) rfl fun v13=>?_
  refine JL.nil ?_
  refine thenQ.n ⟨[_],_,rfl,rfl,rfl,rfl,rfl,QJ 6 rfl,⟨rfl,rfl⟩,trivial,?_⟩
  refine JX.conv (S':=[7,6,5,1,0,4,3,2]) rfl (by(try simp only[QS]);rfl) (by(try simp only[Ua,Uj,Q5,QS,Flt.val,Flt.bx,nx,nl,Qk,Qz,QA,Qy,QR,AV.cellsOf,Qd,Qe,Nat.reduceAdd]);rfl) ?_
  refine Zo 8 3 [13,11] rfl (fun _ ho_=>Y0 3 QO Qj rfl (.tmp rfl) ho_ (.tmp rfl) rfl (by rw[List.length_append,V.css_length];simp) rfl) ?_
  refine Zf 10 [] rfl (fun _=>Qa Ud (.tmp rfl) rfl) ?_
  refine Bv 9 11 (by kernel_rfl) (by kernel_rfl) ?_ ?_
  · skip
    refine CandX.mk 9 [false,true] rfl rfl rfl (by kernel_rfl) rfl fun bs9_ pe_ ex_=>?_
    refine JL.conv (by(try simp only[Ua,Uj,Q5,QS,Flt.val,Flt.bx,nx,nl,Qk,Qz,QA,Qy,QR,AV.cellsOf,Qd,Qe,Nat.reduceAdd]);rfl) ?_
    refine YL (o:=0) 3 Qj (.tmp rfl) rfl (G1 _ _) (by rw[V.css_length];rfl) (.tmp rfl) rfl vl rfl ((congrArg (List.set _ _) (UY (by exact vl))).trans (Lm _ _ _)) rfl ?_
    refine JL.nil ?_
    refine thenQ.n ⟨[],_,rfl,rfl,rfl,rfl,rfl,QJ 6 rfl,trivial,⟨trivial,trivial⟩,?_⟩
    refine JX.conv (S':=[9,8,7,6,5,1,0,4,3,2]) rfl (by(try simp only[QS]);rfl) (by(try simp only[Ua,Uj,Q5,QS,Flt.val,Flt.bx,nx,nl,Qk,Qz,QA,Qy,QR,AV.cellsOf,Qd,Qe,Nat.reduceAdd]);rfl) ?_
    refine JX.one 11 [true] rfl (by kernel_rfl) (by kernel_rfl) rfl rfl (by kernel_rfl) rfl fun bs11_ pe_ ex_=>?_
    refine JL.conv (by(try simp only[Ua,Uj,Q5,QS,Flt.val,Flt.bx,nx,nl,Qk,Qz,QA,Qy,QR,AV.cellsOf,Qd,Qe,Nat.reduceAdd]);rfl) ?_
    refine JL.isSlice 3 rfl fun hs1=>JL.store_box 2 U4 (.tmp rfl) rfl (.tmp rfl) (by assumption) rfl rfl rfl rfl ?_
    refine JL.nil ?_
    refine thenQ.n ⟨[],_,rfl,rfl,rfl,rfl,rfl,QJ 6 rfl,trivial,trivial,?_⟩
    refine JX.conv (S':=[11,10,9,8,7,6,5,1,0,4,3,2]) rfl (by(try simp only[QS]);rfl) (by(try simp only[Ua,Uj,Q5,QS,Flt.val,Flt.bx,nx,nl,Qk,Qz,QA,Qy,QR,AV.cellsOf,Qd,Qe,Nat.reduceAdd]);rfl) ?_
    refine JX.fin (by kernel_rfl) (by kernel_rfl) fun bs_=>?_
    refine QX.conv (by(try simp only[Ua,Uj,Q5,QS,Flt.val,Flt.bx,nx,nl,Qk,Qz,QA,Qy,QR,AV.cellsOf,Qd,Qe,Nat.reduceAdd]);rfl) ?_
    exact thenQ.n (J.seq (J.reown (Reown.cons (Reown.cons (Wb [_,_,_,_] []))) (Qg (Zq rfl (QW.assign .const) (Zn (J.ret (Zr [.k,.p,.p] (RetEv.one rfl (REv.tmp rfl lr)) rfl (BodR.ok (RB hv10) hfv ⟨_,rfl,by simp;omega,fun z hz=>(List.mem_append.1 hz).elim (hgd z) (fun h=>by rw[List.mem_singleton.1 h];exact hgv)⟩))))))))
  · skip
    refine CandX.mk 11 [true,false] rfl rfl rfl (by kernel_rfl) rfl fun bs11_ pe_ ex_=>?_
    refine JL.conv (by(try simp only[Ua,Uj,Q5,QS,Flt.val,Flt.bx,nx,nl,Qk,Qz,QA,Qy,QR,AV.cellsOf,Qd,Qe,Nat.reduceAdd]);rfl) ?_
    refine JL.isSlice 3 rfl fun hs1=>JL.store_box 2 U4 (.tmp rfl) rfl (.tmp rfl) (by assumption) rfl rfl rfl rfl ?_
    refine JL.nil ?_
    refine thenQ.n ⟨[],_,rfl,rfl,rfl,rfl,rfl,QJ 6 rfl,trivial,⟨rfl,trivial⟩,?_⟩
    refine JX.conv (S':=[11,10,7,6,5,1,0,4,3,2]) rfl (by(try simp only[QS]);rfl) (by(try simp only[Ua,Uj,Q5,QS,Flt.val,Flt.bx,nx,nl,Qk,Qz,QA,Qy,QR,AV.cellsOf,Qd,Qe,Nat.reduceAdd]);rfl) ?_
    refine JX.one 9 [true] rfl (by kernel_rfl) (by kernel_rfl) rfl rfl (by kernel_rfl) rfl fun bs9_ pe_ ex_=>?_
    refine JL.conv (by(try simp only[Ua,Uj,Q5,QS,Flt.val,Flt.bx,nx,nl,Qk,Qz,QA,Qy,QR,AV.cellsOf,Qd,Qe,Nat.reduceAdd]);rfl) ?_
    refine YL (o:=0) 3 Qj (.tmp rfl) rfl (G1 _ _) (by rw[V.css_length];rfl) (.tmp rfl) rfl vl rfl ((congrArg (List.set _ _) (UY (by exact vl))).trans (Lm _ _ _)) rfl ?_
    refine JL.nil ?_
    refine thenQ.n ⟨[],_,rfl,rfl,rfl,rfl,rfl,QJ 6 rfl,trivial,trivial,?_⟩
    refine JX.conv (S':=[9,8,11,10,7,6,5,1,0,4,3,2]) rfl (by(try simp only[QS]);rfl) (by(try simp only[Ua,Uj,Q5,QS,Flt.val,Flt.bx,nx,nl,Qk,Qz,QA,Qy,QR,AV.cellsOf,Qd,Qe,Nat.reduceAdd]);rfl) ?_
    refine JX.fin (by kernel_rfl) (by kernel_rfl) fun bs_=>?_
    refine QX.conv (by(try simp only[Ua,Uj,Q5,QS,Flt.val,Flt.bx,nx,nl,Qk,Qz,QA,Qy,QR,AV.cellsOf,Qd,Qe,Nat.reduceAdd]);rfl) ?_
    exact thenQ.n (J.seq (J.reown (Reown.cons (Reown.cons (Wb [_,_,_,_] []))) (Qg (Zq rfl (QW.assign .const) (Zn (J.ret (Zr [.k,.p,.p] (RetEv.one rfl (REv.tmp rfl lr)) rfl (BodR.ok (RB hv10) hfv ⟨_,rfl,by simp;omega,fun z hz=>(List.mem_append.1 hz).elim (hgd z) (fun h=>by rw[List.mem_singleton.1 h];exact hgv)⟩))))))))
theorem XS{e:EX}{s:ScT}{f f':Int}{t:Bool}(hw:e.wf)(hf:e.Fine)(hs:s.good)(h0:KQ f)(h:UW (e.ev s f)=.ok (t,f')):KQ f':=by
  obtain⟨v,h1,_,_⟩:=KN h
  exact(Kb hw hf hs h0 h1).2
def wFnd(b7 b5 b2 b6 b:Nat)(ye:List AV)(j:Nat)(p:Bool×V)(o:Own):Prop:=∃zs,o=.grp [.box b7 [.c (.bool p.1)],.box b5 zs,.box b2 [pb b],.box b6 ye]∧zs.length=5∧(p.1=true→zs=p.2.cs false∧p.2.good)
def Kf(y:EX)(s:ScT)(p:Bool×V)(x:V)(f:Int):Except Int (Bool×(Bool×V)×Int):=match UW (y.ev {s with it:=x} f)with
  |.error e=>.error e
  |.ok (t,f')=>.ok (!t,(t,if t then x else p.2),f')
theorem FE{y:EX}{s:ScT}{p:Bool×V}{x:V}{f c:Int}(h:UW (y.ev {s with it:=x} f)=.error c):Kf y s p x f=.error c:=by unfold Kf;rw[h]
theorem RC{y:EX}{s:ScT}{p:Bool×V}{x:V}{f f':Int}{t:Bool}(h:UW (y.ev {s with it:=x} f)=.ok (t,f')):Kf y s p x f=.ok (!t,(t,if t then x else p.2),f'):=by unfold Kf;rw[h]
theorem F8{n:Nat}(ih:D5 n){y:EX}{s:ScT}{fr:Bool}(hw:y.wf)(hf:y.Fine)(hs:s.good)(hn:y.sz≤n)(b b5 b2 b6:Nat){j:Nat}{ys:List V}{x:V}{f:Int}{o0:Own}(hj:j<32)(hW:Ca b5 b2 b6 b (y.cs fr) j ys o0)(hx:x.good)(h0:KQ f):
    AC Tryz.prog 107 [mb b {s with it:=x} f,o0] [.agg (x.cs false),.c (ptr b2),.c (ptr b6),.c (ptr b5)] (BodR (Ca b5 b2 b6 b (y.cs fr)) (GI y s ys x f) j b {s with it:=x}):=by
  obtain⟨v,rfl,hl,hgd⟩:=hW
  refine AC.of_J Tryz.func107 rfl Tryz.ntmps107 rfl fun w0 A0=>?_
  refine J.seq (J.reown (Reown.cons (U0 _ _)) (Qg (Qp (.tmp rfl) rfl fun b4=>Zq rfl (QW.assign .const) (Zn (J.seq (Zs (Zq rfl (Qb 4 MN (.tmp rfl) rfl rfl) (Zq rfl (Qf 5 Uz (.tmp rfl) rfl (Qm xl rfl) xl) ?_))))))))
  refine Qs [.k,.p] Gr rfl Lent.nil (fun _=>(.cons (.tmp rfl) (.cons (.tmp rfl) .nil))) (Yw (s:={s with it:=x}) ih Xc.self hw hf ⟨hs.st,hs.ev,hx⟩ h0 hn) (.inl rfl) (fun k8 x8 o8 h8=>?_) (fun k8=>?_)
  rotate_left
  · skip
    refine thenQ.p (thenQ.p ?_)
    exact⟨_,QN [.k,.k,.k,.k,.k] _,_,rfl,rfl,Qn [.k,.k,.k,.k,.k] _,BodR.er (FF (Wh k8)) k8⟩
  obtain⟨q8,f8,hq8,rfl,rfl⟩:=h8
  refine Zn ?_
  refine J.cond (.tmp rfl) (fun c1=>?_) (fun c1=>?_)
  · skip
    obtain rfl:q8=true:=c1
    have hfv:=XS (s:={s with it:=x}) hw hf ⟨hs.st,hs.ev,hx⟩ h0 hq8
    refine QU Uc (Zf 0 [] rfl (fun _=>Qa Ud (.tmp rfl) rfl) (Zo 1 2 [9] rfl (fun _ ho_=>Qb 2 U4 (.tmp rfl) ho_ rfl) (Zo 2 0 [] rfl (fun _ ho_=>Qf 0 Qj (.tmp rfl) ho_ (Qm vl rfl) vl) (Zo 3 3 [10] rfl (fun _ ho_=>Yc 3 QO (.tmp rfl) ho_) (Zf 4 [] rfl (fun _=>QW.buildSlice (idx:=[0]) (xs:=[[.c (.int .i64 0),.c (.int .u64 0),.c (Um []),.c (.slice none 0 0),.c (.slice none 0 0)]]) QO K6 WQ rfl (.cons (.constA rfl) .nil) rfl rfl rfl rfl rfl rfl rfl rfl rfl) (JX.one 5 [true,true,true,true,true] rfl (by kernel_rfl) (by kernel_rfl) rfl rfl (by kernel_rfl) rfl fun bs5_ pe_ ex_=>?_))))))
    refine JL.conv (by(try simp only[Ua,Uj,Q5,QS,Flt.val,Flt.bx,nx,nl,Qk,Qz,QA,Qy,QR,AV.cellsOf,Qd,Qe,Nat.reduceAdd]);rfl) ?_
    refine JL.append 3 QO K6 rfl (.tmp rfl) rfl (UL QO (.tmp rfl)) (by rw[V.css_length];show(_+1)*80≤_;unfold Qu;omega) rfl fun v14=>?_
    refine JL.nil ?_
    refine thenQ.n ⟨[_],_,rfl,rfl,rfl,rfl,rfl,QJ 6 rfl,⟨rfl,rfl⟩,trivial,?_⟩
    refine JX.conv (S':=[5,4,3,2,1,0]) rfl (by(try simp only[QS]);rfl) (by(try simp only[Ua,Uj,Q5,QS,Flt.val,Flt.bx,nx,nl,Qk,Qz,QA,Qy,QR,AV.cellsOf,Qd,Qe,Nat.reduceAdd]);rfl) ?_
    refine Zo 6 3 [14,12] rfl (fun _ ho_=>Y0 3 QO Qj rfl (.tmp rfl) ho_ (.tmp rfl) rfl (by rw[List.length_append,V.css_length];simp) rfl) ?_
    refine Zf 8 [] rfl (fun _=>Qa Ud (.tmp rfl) rfl) ?_
    refine Bv 7 9 (by kernel_rfl) (by kernel_rfl) ?_ ?_
    · skip
      refine CandX.mk 7 [false,true] rfl rfl rfl (by kernel_rfl) rfl fun bs7_ pe_ ex_=>?_
      refine JL.conv (by(try simp only[Ua,Uj,Q5,QS,Flt.val,Flt.bx,nx,nl,Qk,Qz,QA,Qy,QR,AV.cellsOf,Qd,Qe,Nat.reduceAdd]);rfl) ?_
      refine YL (o:=0) 3 Qj (.tmp rfl) rfl (G1 _ _) (by rw[V.css_length];rfl) (.tmp rfl) rfl vl rfl ((congrArg (List.set _ _) (UY (by exact vl))).trans (Lm _ _ _)) rfl ?_
      refine JL.nil ?_
      refine thenQ.n ⟨[],_,rfl,rfl,rfl,rfl,rfl,QJ 6 rfl,trivial,⟨trivial,trivial⟩,?_⟩
      refine JX.conv (S':=[7,6,5,4,3,2,1,0]) rfl (by(try simp only[QS]);rfl) (by(try simp only[Ua,Uj,Q5,QS,Flt.val,Flt.bx,nx,nl,Qk,Qz,QA,Qy,QR,AV.cellsOf,Qd,Qe,Nat.reduceAdd]);rfl) ?_
      refine JX.one 9 [true] rfl (by kernel_rfl) (by kernel_rfl) rfl rfl (by kernel_rfl) rfl fun bs9_ pe_ ex_=>?_
      refine JL.conv (by(try simp only[Ua,Uj,Q5,QS,Flt.val,Flt.bx,nx,nl,Qk,Qz,QA,Qy,QR,AV.cellsOf,Qd,Qe,Nat.reduceAdd]);rfl) ?_
      refine JL.isSlice 3 rfl fun hs1=>JL.store_box 2 U4 (.tmp rfl) rfl (.tmp rfl) (by assumption) rfl rfl rfl rfl ?_
      refine JL.nil ?_
      refine thenQ.n ⟨[],_,rfl,rfl,rfl,rfl,rfl,QJ 6 rfl,trivial,trivial,?_⟩
      refine JX.conv (S':=[9,8,7,6,5,4,3,2,1,0]) rfl (by(try simp only[QS]);rfl) (by(try simp only[Ua,Uj,Q5,QS,Flt.val,Flt.bx,nx,nl,Qk,Qz,QA,Qy,QR,AV.cellsOf,Qd,Qe,Nat.reduceAdd]);rfl) ?_
      refine JX.fin (by kernel_rfl) (by kernel_rfl) fun bs_=>?_
      refine QX.conv (by(try simp only[Ua,Uj,Q5,QS,Flt.val,Flt.bx,nx,nl,Qk,Qz,QA,Qy,QR,AV.cellsOf,Qd,Qe,Nat.reduceAdd]);rfl) ?_
      exact thenQ.n (J.seq (J.reown (Reown.cons (Reown.cons (Wb [_,_,_,_] []))) (Qg (Zq rfl (QW.assign .const) (Zn (J.ret (Zr [.k,.p,.p] (RetEv.one rfl (REv.tmp rfl lr)) rfl (BodR.ok (σ:=ys++[x]) (Lu hq8) hfv ⟨_,rfl,by simp;omega,fun z hz=>(List.mem_append.1 hz).elim (hgd z) (fun h=>by rw[List.mem_singleton.1 h];exact hx)⟩))))))))
    · skip
      refine CandX.mk 9 [true,false] rfl rfl rfl (by kernel_rfl) rfl fun bs9_ pe_ ex_=>?_
      refine JL.conv (by(try simp only[Ua,Uj,Q5,QS,Flt.val,Flt.bx,nx,nl,Qk,Qz,QA,Qy,QR,AV.cellsOf,Qd,Qe,Nat.reduceAdd]);rfl) ?_
      refine JL.isSlice 3 rfl fun hs1=>JL.store_box 2 U4 (.tmp rfl) rfl (.tmp rfl) (by assumption) rfl rfl rfl rfl ?_
      refine JL.nil ?_
      refine thenQ.n ⟨[],_,rfl,rfl,rfl,rfl,rfl,QJ 6 rfl,trivial,⟨rfl,trivial⟩,?_⟩
      refine JX.conv (S':=[9,8,5,4,3,2,1,0]) rfl (by(try simp only[QS]);rfl) (by(try simp only[Ua,Uj,Q5,QS,Flt.val,Flt.bx,nx,nl,Qk,Qz,QA,Qy,QR,AV.cellsOf,Qd,Qe,Nat.reduceAdd]);rfl) ?_
      refine JX.one 7 [true] rfl (by kernel_rfl) (by kernel_rfl) rfl rfl (by kernel_rfl) rfl fun bs7_ pe_ ex_=>?_
      refine JL.conv (by(try simp only[Ua,Uj,Q5,QS,Flt.val,Flt.bx,nx,nl,Qk,Qz,QA,Qy,QR,AV.cellsOf,Qd,Qe,Nat.reduceAdd]);rfl) ?_
      refine YL (o:=0) 3 Qj (.tmp rfl) rfl (G1 _ _) (by rw[V.css_length];rfl) (.tmp rfl) rfl vl rfl ((congrArg (List.set _ _) (UY (by exact vl))).trans (Lm _ _ _)) rfl ?_
      refine JL.nil ?_
      refine thenQ.n ⟨[],_,rfl,rfl,rfl,rfl,rfl,QJ 6 rfl,trivial,trivial,?_⟩
      refine JX.conv (S':=[7,6,9,8,5,4,3,2,1,0]) rfl (by(try simp only[QS]);rfl) (by(try simp only[Ua,Uj,Q5,QS,Flt.val,Flt.bx,nx,nl,Qk,Qz,QA,Qy,QR,AV.cellsOf,Qd,Qe,Nat.reduceAdd]);rfl) ?_
      refine JX.fin (by kernel_rfl) (by kernel_rfl) fun bs_=>?_
      refine QX.conv (by(try simp only[Ua,Uj,Q5,QS,Flt.val,Flt.bx,nx,nl,Qk,Qz,QA,Qy,QR,AV.cellsOf,Qd,Qe,Nat.reduceAdd]);rfl) ?_
      exact thenQ.n (J.seq (J.reown (Reown.cons (Reown.cons (Wb [_,_,_,_] []))) (Qg (Zq rfl (QW.assign .const) (Zn (J.ret (Zr [.k,.p,.p] (RetEv.one rfl (REv.tmp rfl lr)) rfl (BodR.ok (σ:=ys++[x]) (Lu hq8) hfv ⟨_,rfl,by simp;omega,fun z hz=>(List.mem_append.1 hz).elim (hgd z) (fun h=>by rw[List.mem_singleton.1 h];exact hx)⟩))))))))
  obtain rfl:q8=false:=c1
  have hfv:=XS (s:={s with it:=x}) hw hf ⟨hs.st,hs.ev,hx⟩ h0 hq8
  exact Zk (J.seq (J.reown (Reown.cons (Reown.cons (Wb [_,_,_,_] []))) (Qg (Zq rfl (QW.assign .const) (Zn (J.ret (Zr [.k,.p,.p] (RetEv.one rfl (REv.tmp rfl lr)) rfl (BodR.ok (σ:=ys) (Lu hq8) hfv ⟨_,rfl,by omega,hgd⟩))))))))
theorem F7{n:Nat}(ih:D5 n){y:EX}{s:ScT}{fr:Bool}(hw:y.wf)(hf:y.Fine)(hs:s.good)(hn:y.sz≤n)(b b5 b2 b6 b7:Nat){j:Nat}{p:Bool×V}{x:V}{f:Int}{o0:Own}(hj:j<32)(hW:wFnd b7 b5 b2 b6 b (y.cs fr) j p o0)(hx:x.good)(h0:KQ f):
    AC Tryz.prog 108 [mb b {s with it:=x} f,o0] [.agg (x.cs false),.c (ptr b2),.c (ptr b6),.c (ptr b7),.c (ptr b5)] (BodR (wFnd b7 b5 b2 b6 b (y.cs fr)) (Kf y s p x f) j b {s with it:=x}):=by
  obtain⟨zs,rfl,hz5,hzs⟩:=hW
  refine AC.of_J Tryz.func108 rfl Tryz.ntmps108 rfl fun w0 A0=>?_
  refine J.seq (J.reown (Reown.cons (U0 _ _)) (Qg (Qp (.tmp rfl) rfl fun b5=>Zq rfl (QW.assign .const) (Zn (J.seq (Zs (Zq rfl (Qb 4 MN (.tmp rfl) rfl rfl) (Zq rfl (Qf 5 Uz (.tmp rfl) rfl (Qm xl rfl) xl) ?_))))))))
  refine Qs [.k,.p] Gr rfl Lent.nil (fun _=>(.cons (.tmp rfl) (.cons (.tmp rfl) .nil))) (Yw (s:={s with it:=x}) ih Xc.self hw hf ⟨hs.st,hs.ev,hx⟩ h0 hn) (.inl rfl) (fun k9 x9 o9 h9=>?_) (fun k9=>?_)
  rotate_left
  · skip
    refine thenQ.p (thenQ.p ?_)
    exact⟨_,QN [.k,.k,.k,.k,.k] _,_,rfl,rfl,Qn [.k,.k,.k,.k,.k] _,BodR.er (FE (Wh k9)) k9⟩
  obtain⟨q9,f9,hq9,rfl,rfl⟩:=h9
  refine JL.store_box 2 PZ (.tmp rfl) rfl (.tmp rfl) rfl rfl rfl rfl rfl (Zn (Zs (Zq rfl (Qb 2 PZ (.tmp rfl) rfl rfl) (Zn ?_))))
  refine J.cond (.tmp rfl) (fun c1=>?_) (fun c1=>?_)
  · skip
    obtain rfl:q9=true:=c1
    have hfv:=XS (s:={s with it:=x}) hw hf ⟨hs.st,hs.ev,hx⟩ h0 hq9
    refine Qg (Zq rfl (Qf 0 Qj (.tmp rfl) rfl (Qm vl rfl) vl) (JL.store_box 3 Qj (.tmp rfl) rfl (.tmp rfl) rfl vl (by rw[hz5];rfl) (UY (by show(V.cs _ _).length=_;rw[V.cs_length,hz5])) rfl ?_))
    exact Zn (Zs (Zq rfl (Qb 2 PZ (.tmp rfl) rfl rfl) (Zq rfl (QW.not (.tmp rfl)) (JL.reown (Reown.cons (Reown.cons (Wb [_,_,_,_] []))) (Zq rfl (QW.assign (.tmp rfl)) (Zn (J.ret (Zr [.k,.p,.p] (RetEv.one rfl (REv.tmp rfl lr)) rfl (BodR.ok (σ:=(true,x)) (RC hq9) hfv ⟨_,rfl,vl,fun _=>⟨rfl,hx⟩⟩)))))))))
  obtain rfl:q9=false:=c1
  have hfv:=XS (s:={s with it:=x}) hw hf ⟨hs.st,hs.ev,hx⟩ h0 hq9
  exact Zk (Zs (Zq rfl (Qb 2 PZ (.tmp rfl) rfl rfl) (Zq rfl (QW.not (.tmp rfl)) (JL.reown (Reown.cons (Reown.cons (Wb [_,_,_,_] []))) (Zq rfl (QW.assign (.tmp rfl)) (Zn (J.ret (Zr [.k,.p,.p] (RetEv.one rfl (REv.tmp rfl lr)) rfl (BodR.ok (σ:=(false,p.2)) (RC hq9) hfv ⟨_,rfl,hz5,fun h=>by cases h⟩)))))))))

end
end Go.Proofs.YtmccnmahegbmpaaGreat.J
