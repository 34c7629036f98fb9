/- Texts of this proof, laid together. -/
import Derived.Test.YtammalmlbabpbaaGreatX3RViewLists
import Derived.Laws.MakeOwn
import Derived.MapKept
import Derived.Lib.ConvBytes
import Derived.Laws.AppendOwn
import Derived.Laws.StructEq
import Derived.Laws.Cover1
import Derived.Shelf.SlSortCmp.WholeK
import Derived.Shelf.SlSortCmp.NoneTotal
import Derived.Ground.SlsfProg
set_option linter.unusedVariables false
set_option linter.unusedSimpArgs false
namespace Go.Proofs.YtammalmlbabpbaaGreat.J
open Go Go.RowKit
section
/- Walks: expressions, the small functions. -/
set_option maxRecDepth 10000
set_option maxHeartbeats 4000000
theorem MQ(n l h:Int):Fn Tryz.prog 247 [.c (.int .i64 n),.c (.int .i64 l),.c (.int .i64 h)] (.c (.bool (decide (l≤n)&&decide (n≤h)))):=by
  refine AC.of_J Tryz.func247 rfl Tryz.ntmps247 rfl fun w0 A0=>?_
  refine Zs (Zq rfl (QW.assign .const) (Zn (Zs (Zm rfl (Zm rfl (Zq rfl (QW.geq (.r rfl) (.r rfl)) (Zm rfl (Zg rfl (fun hg=>(QW.move (.r rfl))) (Zg rfl (fun hg=>(QW.move (.r rfl))) ?_)))))))))
  refine Zg rfl (fun hg=>(QW.leq (.when rfl hg) (.when rfl hg))) (Zq rfl (QW.pick_and (.r rfl) (.r rfl)) (Za rfl (Zn (J.ret ?_))))
  exact⟨_,[],_,RetEv.one rfl (REv.tmp rfl lr),rfl,List.Perm.refl _,rfl,rfl⟩
theorem NP(ok:Bool)(e:Int):AC Tryz.prog 221 [] [.c (.bool ok),.c (.int .i64 e)] (PanR (ok=true) (WT e) fun x o=>x=.tup []∧o=[]):=by
  refine AC.of_J Tryz.func221 rfl Tryz.ntmps221 rfl fun w0 A0=>?_
  refine Zs (Zm rfl (Zq rfl (QW.not (.r rfl)) (Zn ?_)))
  refine J.cond (.r rfl) (fun c1=>?_) (fun c1=>?_)
  · skip
    have hok:ok=false:=by simpa using c1
    refine Qg (Zm rfl (Zq rfl (Yx ⟨_,Tryz.underlying47,by intro ms h;cases h⟩ (.r rfl)) ?_))
    refine JL.panic (.r rfl) ?_
    exact⟨_,QI [] _,_,rfl,rfl,Qk [] _,PanR.pan (by simp[hok])⟩
  have hok:ok=true:=by simpa using c1
  exact J.skip (Zr [] (RetEv.none rfl) rfl (PanR.ret hok ⟨rfl,rfl⟩))
def XC(o:Int):Int:=if Uw o= -1 then 0 else if Uw o= -2 then 2 else Uw o
def XD(o:Int):Int:=if Uw o= -1 then 8 else if Uw o= -2 then 2 else Uw o
theorem UD{o:Int}{a b c d:Int}{k:Bool}(h:a=XC o∧b=XD o∧c=UY o∧d=UP o∧k=decide (Uw o≠ -2)):
    Wl.ret (.tup [.agg [.c (.int .i64 a),.c (.int .i64 b),.c (.int .i64 c),.c (.int .i64 d)],.c (.bool k)])=Wl.ret (.tup [.agg [.c (.int .i64 (XC o)),.c (.int .i64 (XD o)),.c (.int .i64 (UY o)),.c (.int .i64 (UP o))],.c (.bool (decide (Uw o≠ -2)))]):=by
  obtain⟨rfl,rfl,rfl,rfl,rfl⟩:=h;rfl
theorem T1(o:Int):Fn Tryz.prog 246 [.c (.int .i64 o)] (.tup [.agg [.c (.int .i64 (XC o)),.c (.int .i64 (XD o)),.c (.int .i64 (UY o)),.c (.int .i64 (UP o))],.c (.bool (decide (Uw o≠ -2)))]):=by
  refine AC.of_J Tryz.func246 rfl Tryz.ntmps246 rfl fun w0 A0=>?_
  refine Zs (JL.alloc XU rfl rfl fun b2=>Zq rfl (QW.assign .const) (Zn (J.seq (Zs (Zm rfl (Zn (J.block (J.seq ?_))))))))
  refine Zs (Zq rfl (QW.eql (.r rfl) .const) (Za rfl (Zn ?_)))
  refine J.cond (.r rfl) (fun c1=>?_) (fun c1=>?_)
  · try (exfalso;simp at*;omega;done)
    all_goals
      refine Zk ?_
      refine J.cond (.r rfl) (fun c2=>?_) (fun c2=>absurd c2 (by(rw[c1];decide)))
      refine Zs (Zq rfl (QW.build (idx:=[]) YE XU rfl .nil rfl rfl rfl rfl) (Qa 0 UC (.r rfl) rfl (.r rfl) rfl rfl rfl rfl (Zq rfl (QW.assign .const) (Zn (J.ret (blkQ.r (thenQ.r ?_)))))))
      exact⟨_,[],_,Qt rfl (REv.cell 0 UC rfl rfl rfl rfl lr) (REv.tmp rfl lr),rfl,List.Perm.refl _,UD (by simp at*;unfold XC XD UY UP Uw;(repeat' split)<;>(try simp)<;>omega),rfl⟩
  try (exfalso;simp at*;omega;done)
  all_goals
    refine Zs (Zq rfl (QW.eql (.r rfl) .const) (Za rfl (Zn ?_)))
    refine J.cond (.r rfl) (fun c2=>?_) (fun c2=>?_)
    · try (exfalso;simp at*;omega;done)
      all_goals
        refine Zk ?_
        refine J.cond (.r rfl) (fun c3=>?_) (fun c3=>absurd c3 (by(rw[c2];decide)))
        refine Zs (Zq rfl (QW.build (idx:=[]) YE XU rfl .nil rfl rfl rfl rfl) (Qa 0 UC (.r rfl) rfl (.r rfl) rfl rfl rfl rfl (Zq rfl (QW.assign .const) (Zn (J.ret (blkQ.r (thenQ.r ?_)))))))
        exact⟨_,[],_,Qt rfl (REv.cell 0 UC rfl rfl rfl rfl lr) (REv.tmp rfl lr),rfl,List.Perm.refl _,UD (by simp at*;unfold XC XD UY UP Uw;(repeat' split)<;>(try simp)<;>omega),rfl⟩
    try (exfalso;simp at*;omega;done)
    all_goals
      refine Zs (Zq rfl (QW.eql (.r rfl) .const) (Za rfl (Zn ?_)))
      refine J.cond (.r rfl) (fun c3=>?_) (fun c3=>?_)
      · try (exfalso;simp at*;omega;done)
        all_goals
          refine Zk ?_
          refine J.cond (.r rfl) (fun c4=>?_) (fun c4=>absurd c4 (by(rw[c3];decide)))
          refine Zs (Zq rfl (QW.build (idx:=[]) YE XU rfl .nil rfl rfl rfl rfl) (Qa 0 UC (.r rfl) rfl (.r rfl) rfl rfl rfl rfl (Zq rfl (QW.assign .const) (Zn (J.ret (blkQ.r (thenQ.r ?_)))))))
          exact⟨_,[],_,Qt rfl (REv.cell 0 UC rfl rfl rfl rfl lr) (REv.tmp rfl lr),rfl,List.Perm.refl _,UD (by simp at*;unfold XC XD UY UP Uw;(repeat' split)<;>(try simp)<;>omega),rfl⟩
      try (exfalso;simp at*;omega;done)
      all_goals
        refine Zs (Zq rfl (QW.eql (.r rfl) .const) (Za rfl (Zn ?_)))
        refine J.cond (.r rfl) (fun c4=>?_) (fun c4=>?_)
        · try (exfalso;simp at*;omega;done)
          all_goals
            refine Zk ?_
            refine J.cond (.r rfl) (fun c5=>?_) (fun c5=>absurd c5 (by(rw[c4];decide)))
            refine Zs (Zq rfl (QW.build (idx:=[]) YE XU rfl .nil rfl rfl rfl rfl) (Qa 0 UC (.r rfl) rfl (.r rfl) rfl rfl rfl rfl (Zq rfl (QW.assign .const) (Zn (J.ret (blkQ.r (thenQ.r ?_)))))))
            exact⟨_,[],_,Qt rfl (REv.cell 0 UC rfl rfl rfl rfl lr) (REv.tmp rfl lr),rfl,List.Perm.refl _,UD (by simp at*;unfold XC XD UY UP Uw;(repeat' split)<;>(try simp)<;>omega),rfl⟩
        try (exfalso;simp at*;omega;done)
        all_goals
          refine Zs (Zq rfl (QW.eql (.r rfl) .const) (Za rfl (Zn ?_)))
          refine J.cond (.r rfl) (fun c5=>?_) (fun c5=>?_)
          · try (exfalso;simp at*;omega;done)
            all_goals
              refine Zk ?_
              refine J.cond (.r rfl) (fun c6=>?_) (fun c6=>absurd c6 (by(rw[c5];decide)))
              refine Zs (Zq rfl (QW.build (idx:=[]) YE XU rfl .nil rfl rfl rfl rfl) (Qa 0 UC (.r rfl) rfl (.r rfl) rfl rfl rfl rfl (Zq rfl (QW.assign .const) (Zn (J.ret (blkQ.r (thenQ.r ?_)))))))
              exact⟨_,[],_,Qt rfl (REv.cell 0 UC rfl rfl rfl rfl lr) (REv.tmp rfl lr),rfl,List.Perm.refl _,UD (by simp at*;unfold XC XD UY UP Uw;(repeat' split)<;>(try simp)<;>omega),rfl⟩
          try (exfalso;simp at*;omega;done)
          all_goals
            refine Zs (Zq rfl (QW.eql (.r rfl) .const) (Za rfl (Zn ?_)))
            refine J.cond (.r rfl) (fun c6=>?_) (fun c6=>?_)
            · try (exfalso;simp at*;omega;done)
              all_goals
                refine Zk ?_
                refine J.cond (.r rfl) (fun c7=>?_) (fun c7=>absurd c7 (by(rw[c6];decide)))
                refine Zs (Zq rfl (QW.build (idx:=[]) YE XU rfl .nil rfl rfl rfl rfl) (Qa 0 UC (.r rfl) rfl (.r rfl) rfl rfl rfl rfl (Zq rfl (QW.assign .const) (Zn (J.ret (blkQ.r (thenQ.r ?_)))))))
                exact⟨_,[],_,Qt rfl (REv.cell 0 UC rfl rfl rfl rfl lr) (REv.tmp rfl lr),rfl,List.Perm.refl _,UD (by simp at*;unfold XC XD UY UP Uw;(repeat' split)<;>(try simp)<;>omega),rfl⟩
            try (exfalso;simp at*;omega;done)
            all_goals
              refine Qg (Zq rfl (QW.eql (.r rfl) .const) (Za rfl (Zn ?_)))
              refine J.cond (.r rfl) (fun c7=>?_) (fun c7=>?_)
              · try (exfalso;simp at*;omega;done)
                all_goals
                  refine Zs (Zq rfl (QW.build (idx:=[]) YE XU rfl .nil rfl rfl rfl rfl) (Qa 0 UC (.r rfl) rfl (.r rfl) rfl rfl rfl rfl (Zq rfl (QW.assign .const) (Zn (J.ret (blkQ.r (thenQ.r ?_)))))))
                  exact⟨_,[],_,Qt rfl (REv.cell 0 UC rfl rfl rfl rfl lr) (REv.tmp rfl lr),rfl,List.Perm.refl _,UD (by simp at*;unfold XC XD UY UP Uw;(repeat' split)<;>(try simp)<;>omega),rfl⟩
              try (exfalso;simp at*;omega;done)
              all_goals
                refine Zs (Zq rfl (QW.eql (.r rfl) .const) (Za rfl (Zn ?_)))
                refine J.cond (.r rfl) (fun c8=>?_) (fun c8=>?_)
                · try (exfalso;simp at*;omega;done)
                  all_goals
                    refine Zs (Zq rfl (QW.build (idx:=[3]) YE XU rfl (.cons .const .nil) rfl rfl rfl rfl) (Qa 0 UC (.r rfl) rfl (.r rfl) rfl rfl rfl rfl (Zq rfl (QW.assign .const) (Zn (J.ret (blkQ.r (thenQ.r ?_)))))))
                    exact⟨_,[],_,Qt rfl (REv.cell 0 UC rfl rfl rfl rfl lr) (REv.tmp rfl lr),rfl,List.Perm.refl _,UD (by simp at*;unfold XC XD UY UP Uw;(repeat' split)<;>(try simp)<;>omega),rfl⟩
                try (exfalso;simp at*;omega;done)
                all_goals
                  refine Zs (Zq rfl (QW.eql (.r rfl) .const) (Za rfl (Zn ?_)))
                  refine J.cond (.r rfl) (fun c9=>?_) (fun c9=>?_)
                  · try (exfalso;simp at*;omega;done)
                    all_goals
                      refine Zs (Zq rfl (QW.build (idx:=[0,1,2,3]) YE XU rfl (.cons .const (.cons .const (.cons .const (.cons .const .nil)))) rfl rfl rfl rfl) (Qa 0 UC (.r rfl) rfl (.r rfl) rfl rfl rfl rfl (Zq rfl (QW.assign .const) (Zn (J.ret (blkQ.r (thenQ.r ?_)))))))
                      exact⟨_,[],_,Qt rfl (REv.cell 0 UC rfl rfl rfl rfl lr) (REv.tmp rfl lr),rfl,List.Perm.refl _,UD (by simp at*;unfold XC XD UY UP Uw;(repeat' split)<;>(try simp)<;>omega),rfl⟩
                  try (exfalso;simp at*;omega;done)
                  all_goals
                    refine Zs (Zq rfl (QW.eql (.r rfl) .const) (Za rfl (Zn ?_)))
                    refine J.cond (.r rfl) (fun c10=>?_) (fun c10=>?_)
                    · try (exfalso;simp at*;omega;done)
                      all_goals
                        refine Zs (Zq rfl (QW.build (idx:=[0,1,2,3]) YE XU rfl (.cons .const (.cons .const (.cons .const (.cons .const .nil)))) rfl rfl rfl rfl) (Qa 0 UC (.r rfl) rfl (.r rfl) rfl rfl rfl rfl (Zq rfl (QW.assign .const) (Zn (J.ret (blkQ.r (thenQ.r ?_)))))))
                        exact⟨_,[],_,Qt rfl (REv.cell 0 UC rfl rfl rfl rfl lr) (REv.tmp rfl lr),rfl,List.Perm.refl _,UD (by simp at*;unfold XC XD UY UP Uw;(repeat' split)<;>(try simp)<;>omega),rfl⟩
                    try (exfalso;simp at*;omega;done)
                    all_goals
                      refine J.seq (Zs (Zq rfl (QW.eql (.r rfl) .const) (Za rfl (Zn ?_))))
                      refine J.cond (.r rfl) (fun c11=>?_) (fun c11=>?_)
                      · try (exfalso;simp at*;omega;done)
                        all_goals
                          refine Zk ?_
                          refine J.cond (.r rfl) (fun c12=>?_) (fun c12=>absurd c12 (by(rw[c11];decide)))
                          refine Zs (Zq rfl (QW.build (idx:=[0,1]) YE XU rfl (.cons .const (.cons .const .nil)) rfl rfl rfl rfl) (Qa 0 UC (.r rfl) rfl (.r rfl) rfl rfl rfl rfl (Zq rfl (QW.assign .const) (Zn (J.ret (blkQ.r (thenQ.r ?_)))))))
                          exact⟨_,[],_,Qt rfl (REv.cell 0 UC rfl rfl rfl rfl lr) (REv.tmp rfl lr),rfl,List.Perm.refl _,UD (by simp at*;unfold XC XD UY UP Uw;(repeat' split)<;>(try simp)<;>omega),rfl⟩
                      try (exfalso;simp at*;omega;done)
                      all_goals
                        refine Zs (Zq rfl (QW.eql (.r rfl) .const) (Za rfl (Zn ?_)))
                        refine J.cond (.r rfl) (fun c12=>?_) (fun c12=>?_)
                        · try (exfalso;simp at*;omega;done)
                          all_goals
                            refine Zk ?_
                            refine J.cond (.r rfl) (fun c13=>?_) (fun c13=>absurd c13 (by(rw[c12];decide)))
                            refine Zs (Zq rfl (QW.build (idx:=[0,1]) YE XU rfl (.cons .const (.cons .const .nil)) rfl rfl rfl rfl) (Qa 0 UC (.r rfl) rfl (.r rfl) rfl rfl rfl rfl (Zq rfl (QW.assign .const) (Zn (J.ret (blkQ.r (thenQ.r ?_)))))))
                            exact⟨_,[],_,Qt rfl (REv.cell 0 UC rfl rfl rfl rfl lr) (REv.tmp rfl lr),rfl,List.Perm.refl _,UD (by simp at*;unfold XC XD UY UP Uw;(repeat' split)<;>(try simp)<;>omega),rfl⟩
                        try (exfalso;simp at*;omega;done)
                        all_goals
                          refine Zs (Zq rfl (QW.eql (.r rfl) .const) (Za rfl (Zn ?_)))
                          refine J.cond (.r rfl) (fun c13=>?_) (fun c13=>?_)
                          · try (exfalso;simp at*;omega;done)
                            all_goals
                              refine Zk ?_
                              refine J.cond (.r rfl) (fun c14=>?_) (fun c14=>absurd c14 (by(rw[c13];decide)))
                              refine Zs (Zq rfl (QW.build (idx:=[0,1]) YE XU rfl (.cons .const (.cons .const .nil)) rfl rfl rfl rfl) (Qa 0 UC (.r rfl) rfl (.r rfl) rfl rfl rfl rfl (Zq rfl (QW.assign .const) (Zn (J.ret (blkQ.r (thenQ.r ?_)))))))
                              exact⟨_,[],_,Qt rfl (REv.cell 0 UC rfl rfl rfl rfl lr) (REv.tmp rfl lr),rfl,List.Perm.refl _,UD (by simp at*;unfold XC XD UY UP Uw;(repeat' split)<;>(try simp)<;>omega),rfl⟩
                          try (exfalso;simp at*;omega;done)
                          all_goals
                            refine Qg (Zq rfl (QW.eql (.r rfl) .const) (Za rfl (Zn ?_)))
                            refine J.cond (.r rfl) (fun c14=>?_) (fun c14=>?_)
                            · try (exfalso;simp at*;omega;done)
                              all_goals
                                refine Zs (Zq rfl (QW.build (idx:=[0,1]) YE XU rfl (.cons .const (.cons .const .nil)) rfl rfl rfl rfl) (Qa 0 UC (.r rfl) rfl (.r rfl) rfl rfl rfl rfl (Zq rfl (QW.assign .const) (Zn (J.ret (blkQ.r (thenQ.r ?_)))))))
                                exact⟨_,[],_,Qt rfl (REv.cell 0 UC rfl rfl rfl rfl lr) (REv.tmp rfl lr),rfl,List.Perm.refl _,UD (by simp at*;unfold XC XD UY UP Uw;(repeat' split)<;>(try simp)<;>omega),rfl⟩
                            try (exfalso;simp at*;omega;done)
                            all_goals
                              refine Zs (Zq rfl (QW.eql (.r rfl) .const) (Za rfl (Zn ?_)))
                              refine J.cond (.r rfl) (fun c15=>?_) (fun c15=>?_)
                              · try (exfalso;simp at*;omega;done)
                                all_goals
                                  refine Zs (Zq rfl (QW.build (idx:=[0,1]) YE XU rfl (.cons .const (.cons .const .nil)) rfl rfl rfl rfl) (Qa 0 UC (.r rfl) rfl (.r rfl) rfl rfl rfl rfl (Zq rfl (QW.assign .const) (Zn (J.ret (blkQ.r (thenQ.r ?_)))))))
                                  exact⟨_,[],_,Qt rfl (REv.cell 0 UC rfl rfl rfl rfl lr) (REv.tmp rfl lr),rfl,List.Perm.refl _,UD (by simp at*;unfold XC XD UY UP Uw;(repeat' split)<;>(try simp)<;>omega),rfl⟩
                              try (exfalso;simp at*;omega;done)
                              all_goals
                                refine Zs (Zq rfl (QW.eql (.r rfl) .const) (Za rfl (Zn ?_)))
                                refine J.cond (.r rfl) (fun c16=>?_) (fun c16=>?_)
                                · try (exfalso;simp at*;omega;done)
                                  all_goals
                                    refine Zs (Zq rfl (QW.build (idx:=[1]) YE XU rfl (.cons .const .nil) rfl rfl rfl rfl) (Qa 0 UC (.r rfl) rfl (.r rfl) rfl rfl rfl rfl (Zq rfl (QW.assign .const) (Zn (J.ret (blkQ.r (thenQ.r ?_)))))))
                                    exact⟨_,[],_,Qt rfl (REv.cell 0 UC rfl rfl rfl rfl lr) (REv.tmp rfl lr),rfl,List.Perm.refl _,UD (by simp at*;unfold XC XD UY UP Uw;(repeat' split)<;>(try simp)<;>omega),rfl⟩
                                try (exfalso;simp at*;omega;done)
                                all_goals
                                  refine J.skip (blkQ.n (thenQ.n (Zs (Zq rfl (QW.build (idx:=[0,1]) YE XU rfl (.cons .const (.cons .const .nil)) rfl rfl rfl rfl) (Zm rfl (Zq rfl (QW.gtr (.r rfl) .const) (Zm rfl (Zg rfl (fun hg=>(QW.move (.r rfl))) (Zg rfl (fun hg=>(QW.leq (.when rfl hg) .const)) ?_)))))))))
                                  refine Zq rfl (QW.pick_and (.r rfl) (.r rfl)) (Qa 0 UC (.r rfl) rfl (.r rfl) rfl rfl rfl rfl (Za rfl (Zn (J.ret ?_))))
                                  exact⟨_,[],_,Qt rfl (REv.cell 0 UC rfl rfl rfl rfl lr) (REv.tmp rfl lr),rfl,List.Perm.refl _,UD (by simp at*;unfold XC XD UY UP Uw;(repeat' split)<;>(try simp)<;>omega),rfl⟩

end
section
/- Walks: expressions, one part. -/
set_option maxRecDepth 10000
set_option maxHeartbeats 4000000
theorem T6{q n lo hi tl:Int}{z:Bool}(hn:0≤n)(hq:q= -2∨q= -1∨(0≤q∧q≤3)):
    ((decide (q≠ -2)&&z)&&(decide ((if q= -1 then 0 else if q= -2 then 2 else q)≤n)&&decide (n≤(if q= -1 then 8 else if q= -2 then 2 else q)))&&(decide (lo≤tl)&&decide (tl≤hi)))=
    (decide (q≠ -2)&&(q== -1||(n==q))&&decide (n≤8)&&decide (lo≤tl)&&decide (tl≤hi)&&z):=by
  rw[Bool.eq_iff_iff]
  simp only[Bool.and_eq_true,Bool.or_eq_true,decide_eq_true_eq,beq_iff_eq]
  rcases hq with rfl|rfl|⟨h4,h5⟩
  · simp
  · simp
    constructor
    · rintro⟨⟨h6,h7,h7'⟩,h8,h9⟩;exact⟨⟨⟨h7',h8⟩,h9⟩,h6⟩
    · rintro⟨⟨⟨h6,h8⟩,h9⟩,h7⟩;exact⟨⟨h7,by omega,h6⟩,h8,h9⟩
  · rw[if_neg (by omega),if_neg (by omega)]
    constructor
    · rintro⟨⟨⟨h6,h7⟩,h8,h9⟩,h10,h11⟩;exact⟨⟨⟨⟨⟨h6,.inr (by omega)⟩,by omega⟩,h10⟩,h11⟩,h7⟩
    · rintro⟨⟨⟨⟨⟨h6,h12⟩,h13⟩,h10⟩,h11⟩,h7⟩
      have:n=q:=h12.resolve_left (by omega)
      exact⟨⟨⟨h6,h7⟩,by omega,by omega⟩,h10,h11⟩
theorem Sr{o:Int}{b:Nat}{t:List UInt8}{l:List EX}{n:Int}(hn:n=(l.length:Int)):
    ((decide (Uw o≠ -2)&&(((b:Int)==0)||((o==3)&&((UT b:Int)==(b:Int)))))&&(decide (XC o≤n)&&decide (n≤XD o))&&(decide (UY o≤(t.length:Int))&&decide ((t.length:Int)≤UP o)))=(EX.mk o b t l).ok:=by
  subst hn
  have hz:UT 0=0:=by decide
  have h1:(((b:Int)==0)||((o==3)&&((UT b:Int)==(b:Int))))=(if o=3 then UT b==b else b==0):=by
    by_cases h3:o=3
    · subst h3
      rw[if_pos rfl,Bool.eq_iff_iff]
      simp
      constructor
      · rintro(h|h)
        · have:b=0:=by omega
          rw[this,hz]
        · omega
      · intro h;right;rw[h]
    · rw[if_neg h3,Bool.eq_iff_iff]
      simp[h3]
  have ha:Uw o= -2∨Uw o= -1∨(0≤Uw o∧Uw o≤3):=by unfold Uw;(repeat' split)<;>omega
  rw[h1]
  exact T6 (by omega) ha
theorem Pv{fr:Bool}{v:EX}{ys:List AV}(hv:Xc fr v ys):Fn Tryz.prog 222 [.agg ys] (.c (.bool v.ok)):=by
  obtain⟨o,b,t,l⟩:=v
  subst hv
  refine AC.of_J Tryz.func222 rfl Tryz.ntmps222 rfl fun w0 A0=>?_
  refine Zs (Qs (.r rfl) rfl fun b1=>Zq rfl (QW.assign .const) (Zn (Zs (Zd Yk rfl (Zl 0 UA rfl (Zq rfl (QW.call Qan (.cons (.r rfl) .nil) (T1 _)) (Zm rfl (Zx rfl ?_))))))))
  refine Zx rfl (JL.alloc XU rfl rfl fun b3=>Qa 0 UC (.r rfl) rfl (.r rfl) rfl rfl rfl rfl (Za rfl (Zn (J.seq (Ud 13 mixed (by kernel_rfl) (by kernel_rfl) (by kernel_rfl) rfl ?_)))))
  refine .cons [] rfl rfl rfl (.q rfl (Qf HA (.r rfl) rfl)) ?_
  refine .cons [12] rfl rfl rfl (.q rfl (Qb 1 WQ (.r rfl) rfl rfl)) ?_
  refine .cons [13] rfl rfl rfl (.q rfl (QW.eql (.r rfl) .const)) ?_
  refine .cons [14] rfl rfl rfl (.q rfl (QW.move (.r rfl))) ?_
  refine .cons [15] rfl rfl rfl (.g rfl rfl rfl (fun hg=>(Qf Yk (.r rfl) rfl))) ?_
  refine .cons [16,15] rfl rfl rfl (.g rfl rfl rfl (fun hg=>(Qb 1 UA (.when rfl hg) rfl rfl))) ?_
  refine .cons [17,15] rfl rfl rfl (.g rfl rfl rfl (fun hg=>(QW.eql (.when rfl hg) .const))) ?_
  refine .cons [18,15] rfl rfl rfl (.g rfl rfl rfl (fun hg=>(QW.move (.when rfl hg)))) ?_
  refine .cons [19] rfl rfl rfl (.gg rfl rfl rfl (fun hg=>(Qf HA (.r rfl) rfl))) ?_
  refine .cons [20,19] rfl rfl rfl (.gg rfl rfl rfl (fun hg=>(Qb 1 WQ (.when rfl hg) rfl rfl))) ?_
  refine .cons [21,19] rfl rfl rfl (.gg rfl rfl rfl (fun hg=>(QW.call N2 (.cons (.when rfl hg) .nil) (L9 _)))) ?_
  refine .cons [19] rfl rfl rfl (.gg rfl rfl rfl (fun hg=>(Qf HA (.r rfl) rfl))) ?_
  refine .cons [23,19] rfl rfl rfl (.gg rfl rfl rfl (fun hg=>(Qb 1 WQ (.when rfl hg) rfl rfl))) ?_
  refine .nil ?_
  refine JL.gg rfl rfl rfl rfl rfl (fun hg=>(QW.eql (.when rfl hg) (.when rfl hg))) (Zg rfl (fun hg=>(YZ hg (.when rfl hg) (.r rfl))) (Zq rfl (QW.pick_or (.r rfl) (.r rfl)) (Za rfl (Zn (Zs (Zm rfl (Zm rfl (Zg rfl (fun hg=>(QW.move (.r rfl))) (Zq rfl (QW.pick_and (.r rfl) (.r rfl)) ?_)))))))))
  refine Zm rfl (Zg rfl (fun hg=>(Qf Wu (.r rfl) rfl)) (Zg rfl (fun hg=>(Qb 1 Ki (.when rfl hg) rfl rfl)) (Zg rfl (fun hg=>(Qw Yc (.when rfl hg))) (Zg rfl (fun hg=>(Qf QaP (.r rfl) rfl)) (Zg rfl (fun hg=>(Qb 0 UA (.when rfl hg) rfl rfl)) (Zg rfl (fun hg=>(Qf QaO (.r rfl) rfl)) (Zg rfl (fun hg=>(Qb 0 UA (.when rfl hg) rfl rfl)) (Zg rfl (fun hg=>(QW.call EQ (.cons (.when rfl hg) (.cons (.when rfl hg) (.cons (.when rfl hg) .nil))) (MQ _ _ _))) (Zq rfl (QW.pick_and (.r rfl) (.r rfl)) ?_)))))))))
  refine Zm rfl (Zg rfl (fun hg=>(Qf Hz (.r rfl) rfl)) (Zg rfl (fun hg=>(Qb 1 UO (.when rfl hg) rfl rfl)) (Zg rfl (fun hg=>(U3 Mx (.when rfl hg))) (Zg rfl (fun hg=>(Qf QaN (.r rfl) rfl)) (Zg rfl (fun hg=>(Qb 0 UA (.when rfl hg) rfl rfl)) (Zg rfl (fun hg=>(Qf QaM (.r rfl) rfl)) (Zg rfl (fun hg=>(Qb 0 UA (.when rfl hg) rfl rfl)) (Zg rfl (fun hg=>(QW.call EQ (.cons (.when rfl hg) (.cons (.when rfl hg) (.cons (.when rfl hg) .nil))) (MQ _ _ _))) (Zq rfl (QW.pick_and (.r rfl) (.r rfl)) ?_)))))))))
  exact Za rfl (Zn (J.ret (Zr [.k,.k] (RetEv.one rfl (REv.tmp rfl lr)) rfl ⟨by rw[← Sr (n:=((EX.css fr l).length:Int)) (by rw[EX.css_length])],rfl⟩)))

end
section
/- Walks: both walks over an expression. -/
set_option maxRecDepth 10000
set_option maxHeartbeats 4000000
theorem EX.chks_cons{is:List EX}{j:Nat}(h:j<is.length)(lev n:Int):EX.chks (is.drop j) lev n=if(EX.chk is[j] (lev+1) n).1≠0 then EX.chk is[j] (lev+1) n else EX.chks (is.drop (j+1)) lev (EX.chk is[j] (lev+1) n).2:=by
  rw[List.drop_eq_getElem_cons h,EX.chks]
theorem EX.depths_cons{is:List EX}{j:Nat}(h:j<is.length):EX.depths (is.drop j)=max is[j].depth (EX.depths (is.drop (j+1))):=by
  rw[List.drop_eq_getElem_cons h,EX.depths]
def EWR(v:EX)(lev p d:Int)(bw:Nat):Wl→List Own→Prop:=PanR ((v.chk lev p).1=0) (WT (v.chk lev p).1) fun x o=>x=.tup []∧o=[wk bw (v.chk lev p).2 (max d (lev+v.depth-1))]
theorem QaY:∀(n:Nat) {v:EX} {ys:List AV} {fr:Bool} {lev p d:Int} {bw:Nat},Xc fr v ys→v.wf→1≤lev∧lev≤9→0≤p∧p≤64→v.sz≤n→
    AC Tryz.prog 195 [wk bw p d] [.c (.pointer (some ⟨bw,0,none⟩)),.agg ys,.c (.int .i64 lev)] (EWR v lev p d bw):=by
  intro n
  induction n with
  |zero=>intro v ys fr lev p d bw hv hw hl hp h;exact absurd h (by have:=EX.sz_pos v;omega)
  |succ n ih=>
    intro v ys fr lev p d bw hv hw hl hp hn
    obtain⟨o,b,t,is⟩:=v
    subst hv
    obtain⟨-,-,-,hi80,hwi⟩:=hw.inv
    have hi64:is.length≤9223372036854775806:=by unfold Qr at hi80;omega
    refine AC.of_J Tryz.func195 rfl Tryz.ntmps195 rfl fun w0 A0=>?_
    refine Zs (Qs (.r rfl) rfl fun b4=>Zn (Zs (Zm rfl (Zq rfl (QW.leq (.r rfl) .const) ?_))))
    refine Qn [] N1 rfl Lent.nil (fun _=>(.cons (.r rfl) (.cons .const .nil))) (NP _ _) (.inl rfl) (fun k10 x10 o10 h10=>?_) (fun k10=>?_)
    rotate_left
    · skip
      refine thenQ.p ?_
      exact⟨_,QI [.k,.k] _,_,rfl,rfl,Qk [.k,.k] _,PanR.of (by simp[EX.chk,show 8<lev by simpa using k10]) (by decide)⟩
    obtain⟨rfl,rfl⟩:=h10
    refine Zn (Zs ?_)
    have hk10:lev≤8:=by simpa using k10
    refine Zm rfl (Zu rfl (Zd Lm rfl (Zl 1 UA rfl (Zq rfl (QW.lss (.r rfl) .const) ?_))))
    refine Qn [] N1 rfl Lent.nil (fun _=>(.cons (.r rfl) (.cons .const .nil))) (NP _ _) (.inl rfl) (fun k16 x16 o16 h16=>?_) (fun k16=>?_)
    rotate_left
    · skip
      refine thenQ.p ?_
      exact⟨_,QI [.k,.k] _,_,rfl,rfl,Qk [.k,.k] _,PanR.of (by simp[EX.chk,show ¬8<lev by omega,show 64≤p by simpa using k16]) (by decide)⟩
    obtain⟨rfl,rfl⟩:=h16
    refine Zn (Zs ?_)
    have hk16:p<64:=by simpa using k16
    refine Zq rfl (Qe 0 Ub (.r rfl) rfl rfl rfl) (Zq rfl (QW.call Qar (.cons (.r rfl) .nil) (Pv Xc.mk)) ?_)
    refine Qn [] N1 rfl Lent.nil (fun _=>(.cons (.r rfl) (.cons .const .nil))) (NP _ _) (.inl rfl) (fun k19 x19 o19 h19=>?_) (fun k19=>?_)
    rotate_left
    · skip
      refine thenQ.p ?_
      exact⟨_,QI [.k,.k] _,_,rfl,rfl,Qk [.k,.k] _,PanR.of (by simp[EX.chk,show ¬8<lev by omega,show ¬64≤p by omega,show(EX.mk o b t is).ok=false by simpa using k19]) (by decide)⟩
    obtain⟨rfl,rfl⟩:=h19
    refine Zn (Zs ?_)
    have hk19:(EX.mk o b t is).ok=true:=k19
    refine Zm rfl (Zu rfl (Zd Lm rfl (Zl 1 UA rfl (Zq rfl (QW.add (.r rfl) .const (Yy (by omega))) (Zu rfl (Zd Lm rfl (JL.store_box 1 UA (.r rfl) rfl (.r rfl) rfl rfl rfl rfl rfl (Zn (Zs ?_)))))))))
    refine Zm rfl (Zm rfl (Zu rfl (Zd N8 rfl (Zl 1 UA rfl (Zm rfl (Zq rfl (QW.max2 (.r rfl) (.r rfl)) (Zu rfl (Zd N8 rfl (JL.store_box 1 UA (.r rfl) rfl (.r rfl) rfl rfl rfl rfl rfl ?_)))))))))
    refine Zn (Zs (Zd Wu rfl (Zl 0 Ki rfl (Zq rfl (Qw Yc (.r rfl)) (Zq rfl (QW.move .const) (Zn (J.block ?_)))))))
    have hck:EX.chk (.mk o b t is) lev p=EX.chks is lev (p+1):=by unfold EX.chk;rw[if_neg (by omega),if_neg (by omega),if_neg (by simp[hk19])]
    refine Ua (ι:=Nat×Int×Int) [0,2,37,38] (fun⟨j,q,e⟩=>[(39,.c (.int .i64 (j:Int)))]) (fun⟨j,q,e⟩ oo=>List.set oo 1 (wk bw q e)) (fun⟨j,q,e⟩=>j≤is.length∧EX.chks is lev (p+1)=EX.chks (is.drop j) lev q∧max e (lev+EX.depths (is.drop j))=max d (lev+EX.depths is)∧(0≤q∧q≤64∧lev≤e)) (fun⟨j,q,e⟩=>is.length-j) ⟨0,p+1,if lev>d then lev else d⟩ (⟨Nat.zero_le _,rfl,by have:=EX.depths_nonneg is;rw[List.drop_zero];split<;>omega,by split<;>omega⟩) (QQ (.cons rfl lr (.cons rfl lr (.cons rfl lr (.cons rfl lr (.cons rfl lr .nil))))) (Reown.refl _) (fun _ h=>by first|exact h|simp[h])) ?_
    intro⟨j,q,e⟩ ⟨hj,hcs,hde,hq⟩
    refine J.conv (by(try simp only[nl,Qj,QA,QC,Qy,QZ,AV.cellsOf,Qc,Qd,Nat.reduceAdd]);rfl) ?_
    refine Zs (Zq rfl (QW.lss (.r rfl) (.r rfl)) (Zn (J.seq ?_)))
    refine J.cond (.r rfl) (fun c1=>?_) (fun c1=>?_)
    · skip
      have hlt:j<is.length:=by simpa[EX.css_length]using c1
      refine Zk (J.seq (J.block (Zs (Zq rfl (Qi Yc Ub rfl (.r rfl) (.r rfl) rfl (by exact EX.css_getE _ hlt)) ?_))))
      refine Zq rfl (Qm Ub (.r rfl) (QF xl rfl) xl) (JL.alloc P0 rfl rfl fun b7=>Qa 0 Ub (.r rfl) rfl (.r rfl) rfl xl rfl rfl (Zn (Qg (Zm rfl (Zq rfl (Qe 0 Ub (.r rfl) rfl (Qo xl rfl) xl) (Zm rfl (Zq rfl (QW.add (.r rfl) .const (Yy (by omega))) ?_)))))))
      refine Qn [.k,.k,.p] EV rfl Lent.nil (fun _=>(.cons (.r rfl) (.cons (.r rfl) (.cons (.r rfl) .nil)))) (ih (Xc.self) (hwi _ (List.getElem_mem _)) (by omega) (by omega) (EX.sz_get hn hlt)) (.inl rfl) (fun k47 x47 o47 h47=>?_) (fun k47=>?_)
      rotate_left
      · skip
        refine blkQ.p (thenQ.p (thenQ.p (blkQ.p ?_)))
        rw[EX.chks_cons hlt,if_pos k47]at hcs
        have he:=hck.trans hcs
        exact⟨_,QI [.k,.k] _,_,rfl,rfl,Qk [.k,.k] _,PanR.of (by rw[he]) k47⟩
      obtain⟨rfl,rfl⟩:=h47
      refine JL.nil (blkQ.n (thenQ.n (Qg (Zq rfl (QW.add (.r rfl) .const (Yy (by omega))) (Zm rfl (Zn ?_))))))
      have hb:=EX.chk_bounds is[j] (lev+1) q
      rw[EX.chks_cons hlt,if_neg (by simp[k47])]at hcs
      rw[EX.depths_cons hlt]at hde
      exact⟨⟨j+1,(EX.chk is[j] (lev+1) q).2,max e (lev+1+is[j].depth -1)⟩,⟨hlt,hcs,by omega,by omega⟩,by show is.length-(j+1)<is.length-j;omega,QQ (.cons rfl lr (.cons rfl lr (.cons rfl lr (.cons rfl lr (.cons rfl lr .nil))))) (Q3 1 _ rfl) (fun _ h=>by first|exact h|simp[h])⟩
    have hge:is.length≤j:=by simpa[EX.css_length]using c1
    refine J.exit (Qz (Qz (QY ?_)))
    obtain rfl:j=is.length:=by omega
    simp only[List.drop_length,EX.chks,EX.depths]at hcs hde
    have he:=hck.trans hcs
    exact Zr [.k,.p] (RetEv.none rfl) rfl (PanR.ret (by rw[he]) ⟨rfl,by rw[he];unfold EX.depth;rw[show max d (lev+(1+EX.depths is)-1)=e by omega];rfl⟩)

end
section
/- Walks: sizes, checks of expressions; are two one. -/
set_option maxRecDepth 10000
set_option maxHeartbeats 4000000
theorem F6(c:Nat)(z:Int):AC Tryz.prog 194 [UB c z] [.c .nilIface,.c (.pointer (some ⟨c,0,none⟩))] (YV fun x o=>x=.c (.bool false)∧o=[UB c z]):=by
  refine AC.of_J Tryz.func194 rfl Tryz.ntmps194 rfl fun w0 A0=>?_
  refine Zs (Zq rfl (QW.assign .const) (Zn (Zs (Zm rfl (Zq rfl (YB ⟨_,Tryz.underlying47,by intro ms h;cases h⟩ KM (.r rfl)) ?_)))))
  refine Zm rfl (Zx rfl (Zx rfl (Za rfl (Za rfl (Zn (J.seq (Zs (Zm rfl (Zn ?_)))))))))
  refine J.cond (.r rfl) (fun c1=>absurd c1 (by simp)) (fun c1=>?_)
  exact Zk (Zs (Zm rfl (Za rfl (Zn (J.ret (Zr [.p] (RetEv.one rfl (REv.tmp rfl lr)) rfl ⟨_,rfl,rfl,rfl⟩))))))
theorem F7(c:Nat)(z e:Int):AC Tryz.prog 194 [UB c z] [.c (WT e),.c (.pointer (some ⟨c,0,none⟩))] (YV fun x o=>x=.c (.bool true)∧o=[UB c e]):=by
  refine AC.of_J Tryz.func194 rfl Tryz.ntmps194 rfl fun w0 A0=>?_
  refine Zs (Zq rfl (QW.assign .const) (Zn (Zs (Zm rfl (Zq rfl (YC ⟨_,Tryz.underlying47,by intro ms h;cases h⟩ (.r rfl)) ?_)))))
  refine Zm rfl (Zx rfl (Zx rfl (Za rfl (Za rfl (Zn (J.seq (Zs (Zm rfl (Zn ?_)))))))))
  refine J.cond (.r rfl) (fun c1=>?_) (fun c1=>absurd c1 (by simp))
  refine Qg (Zm rfl (Zm rfl (Zu rfl (JL.store_box 0 We (.r rfl) rfl (.r rfl) rfl rfl rfl rfl rfl (Zn (Zs (Zm rfl (Za rfl (Zn ?_)))))))))
  exact J.ret (Zr [.p] (RetEv.one rfl (REv.tmp rfl lr)) rfl ⟨_,rfl,rfl,rfl⟩)
theorem DE(a b c:Nat)(x y z:Int):DC Tryz.prog 193 [UB a x,UB c z,UB b y] [.c (.pointer (some ⟨a,0,none⟩)),.c (.pointer (some ⟨b,0,none⟩)),.c (.pointer (some ⟨c,0,none⟩))] .returning fun r u' o=>r=.ret (.tup [])∧u'=.returning∧o=[UB a x,UB c z,UB b y]:=by
  refine DC.of_JD Tryz.func193 rfl Tryz.ntmps193 rfl fun w0 A0=>?_
  refine JD.seq (Uf rfl rfl (.inl ⟨rfl,rfl,rfl⟩) rfl (JL.callRF [.p] EW rfl Lent.nil (fun _=>(.cons (.r rfl) (.cons (.r rfl) .nil))) (F6 _ _) (.inl rfl) fun x4 o4 h4=>?_))
  obtain⟨rfl,rfl⟩:=h4
  refine JL.nil ?_
  refine YD ?_
  refine JD.of_J rfl ?_
  refine J.cond (.r rfl) (fun c1=>absurd c1 (by simp)) (fun c1=>?_)
  refine J.skip ?_
  exact⟨_,QI [.p,.p,.p] _,_,RetEv.none rfl,rfl,Qk [.p,.p,.p] _,⟨rfl,rfl,rfl⟩⟩
theorem DF(a b c:Nat)(x y z e:Int):DC Tryz.prog 193 [UB a x,UB c z,UB b y] [.c (.pointer (some ⟨a,0,none⟩)),.c (.pointer (some ⟨b,0,none⟩)),.c (.pointer (some ⟨c,0,none⟩))] (.panicking [{v:=WT e,recovered:=false}]) fun r u' o=>r=.ret (.tup [])∧u'=.panicking [{v:=WT e,recovered:=true}]∧o=[UB a e,UB c 0,UB b 0]:=by
  refine DC.of_JD Tryz.func193 rfl Tryz.ntmps193 rfl fun w0 A0=>?_
  refine JD.seq (Uf rfl rfl (.inr ⟨[],rfl,rfl⟩) rfl (JL.callRF [.p] EW rfl Lent.nil (fun _=>(.cons (.r rfl) (.cons (.r rfl) .nil))) (F7 _ _ _) (.inl rfl) fun x4 o4 h4=>?_))
  obtain⟨rfl,rfl⟩:=h4
  refine JL.nil ?_
  refine YD ?_
  refine JD.of_J rfl ?_
  refine J.cond (.r rfl) (fun c1=>?_) (fun c1=>absurd c1 (by simp))
  refine Qg (JL.store_box 2 UA (.r rfl) rfl .const rfl rfl rfl rfl rfl (JL.store_box 1 UA (.r rfl) rfl .const rfl rfl rfl rfl rfl (JL.nil ?_)))
  exact⟨_,QI [.p,.p,.p] _,_,RetEv.none rfl,rfl,Qk [.p,.p,.p] _,⟨rfl,rfl,rfl⟩⟩
def GW(v:EX):AV:=.tup [.c (.int .i64 (if v.err=0 then v.cnt else 0)),.c (.int .i64 (if v.err=0 then v.depth else 0)),.c (.int .i64 v.err)]
theorem DB{v:EX}{n d:Int}(h:v.err=0)(hn:n=v.cnt)(hd:d=v.depth):GW v=.tup [.c (.int .i64 n),.c (.int .i64 d),.c (.int .i64 0)]:=by
  subst hn hd;simp[GW,h]
theorem DD{v:EX}{e:Int}(h:¬v.err=0)(he:e=v.err):GW v=.tup [.c (.int .i64 0),.c (.int .i64 0),.c (.int .i64 e)]:=by
  subst he;simp[GW,h]
theorem Pu{fr:Bool}{v:EX}{ys:List AV}(hv:Xc fr v ys)(hw:v.wf):Fn Tryz.prog 147 [.agg ys] (GW v):=by
  subst hv
  refine AC.of_JD Tryz.func147 rfl Tryz.ntmps147 rfl fun w0 A0=>?_
  refine Zs (Qs (.r rfl) rfl fun b1=>JL.alloc z3 rfl rfl fun b2=>JL.alloc z3 rfl rfl fun b3=>JL.alloc z47 rfl rfl fun b4=>Zn (Zs (Zq rfl (WN .nil (.cons (.r rfl) (.cons (.r rfl) (.cons (.r rfl) .nil)))) (JL.defer rfl (.r rfl) (Zn ?_)))))
  refine Zs (JL.alloc z302 rfl rfl fun b5=>Zn (Zs (Zq rfl (Qe 4 Ub (.r rfl) rfl (Qo xl rfl) xl) ?_)))
  refine Qn [.p] EV rfl Lent.nil (fun _=>(.cons (.r rfl) (.cons (.r rfl) (.cons .const .nil)))) (QaY _ Xc.self hw (by omega) (by omega) (Nat.le_refl _)) (.inl rfl) (fun k8 x8 o8 h8=>?_) (fun k8=>?_)
  rotate_left
  · skip
    refine thenQ.p ?_
    exact⟨_,_,[],[_,_,_],QI [.p,.p,.p] _,_,rfl,rfl,EY,Qk [.p,.p,.p] _,DC.mono (DF _ _ _ _ _ _ _) fun r u' o ⟨h1,h2,h3⟩=>by subst h1 h2 h3;exact⟨⟨_,rfl⟩,rfl,_,[],_,U2 rfl (QR 2 UA rfl rfl rfl lr) (QR 1 UA rfl rfl rfl lr) (QR 0 We rfl rfl rfl lr),List.Perm.refl _,(congrArg Wl.ret (DD k8 rfl)).symm,rfl⟩⟩
  obtain⟨rfl,rfl⟩:=h8
  refine Zn (J.seq (WW 5 1 (fun os_ ow_ x_ o_=>match os_ with|[]=>(x_=.c undef∧o_=ow_.set 3 (UB b2 (v.chk 1 0).2))|_=>False) mixed (by kernel_rfl) (by kernel_rfl) (by kernel_rfl) rfl ?_))
  refine OutK.quiet [] rfl rfl rfl (fun qs_ qv_ ql_=>(.q rfl (Qf Lm (.r rfl) rfl))) ?_
  refine OutK.quiet [9] rfl rfl rfl (fun qs_ qv_ ql_=>by
      rcases qs_ with _|⟨⟨y0,p0⟩,qs_⟩
      · skip
        exact(.q rfl (Qb 0 UA (.r rfl) rfl rfl))
      rcases qs_ with _|⟨⟨y1,p1⟩,qs_⟩
      · skip
        obtain⟨hr0,_⟩:=qv_
        obtain⟨rfl,rfl⟩:=hr0
        exact(.q rfl (Qb 0 UA (.r rfl) rfl rfl))
      exact absurd ql_ (by simp)) ?_
  refine OutK.quiet [] rfl rfl rfl (fun qs_ qv_ ql_=>(.q rfl (Qf N8 (.r rfl) rfl))) ?_
  refine OutK.quiet [11] rfl rfl rfl (fun qs_ qv_ ql_=>by
      rcases qs_ with _|⟨⟨y0,p0⟩,qs_⟩
      · skip
        exact(.q rfl (Qb 0 UA (.r rfl) rfl rfl))
      rcases qs_ with _|⟨⟨y1,p1⟩,qs_⟩
      · skip
        obtain⟨hr0,_⟩:=qv_
        obtain⟨rfl,rfl⟩:=hr0
        exact(.q rfl (Qb 0 UA (.r rfl) rfl rfl))
      exact absurd ql_ (by simp)) ?_
  refine OutK.store [10] rfl (fun qs_ ow x o h ql_=>by
      obtain rfl:qs_=[]:=List.length_eq_zero_iff.1 (by simpa using ql_)
      exact h.1) rfl rfl rfl (fun qs_ qv_ ql_=>by
      obtain rfl:qs_=[]:=List.length_eq_zero_iff.1 ql_
      exact Nw rfl (LStep.store_box 3 UA (.r rfl) rfl (.r rfl) rfl rfl rfl rfl rfl) ⟨rfl,rfl⟩) ?_
  refine .nil fun qs_ qv_ ql_=>?_
  obtain⟨⟨y0,p0⟩,qs_,rfl⟩:∃p t,qs_=p::t:=by(cases qs_ with|nil=>simp at ql_|cons p t=>exact⟨p,t,rfl⟩)
  obtain rfl:qs_=[]:=List.length_eq_zero_iff.1 (by simpa using ql_)
  obtain⟨hr0,_⟩:=qv_
  obtain⟨rfl,rfl⟩:=hr0
  refine JL.conv (by(try simp only[nl,Qj,QA,QC,Qy,QZ,AV.cellsOf,Qc,Qd,Nat.reduceAdd]);rfl) ?_
  refine JL.store_box 2 UA (.r rfl) rfl (.r rfl) rfl rfl rfl rfl rfl (JL.store_box 1 We (.r rfl) rfl .const rfl rfl rfl rfl rfl (Zn (J.ret ?_)))
  exact⟨_,_,[],[_,_,_],QI [.k,.p,.p,.p] _,_,rfl,rfl,EY,Qk [.k,.p,.p,.p] _,DC.mono (DE _ _ _ _ _ _) fun r u' o ⟨h1,h2,h3⟩=>by subst h1 h2 h3;exact⟨⟨_,rfl⟩,rfl,_,[],_,U2 rfl (QR 2 UA rfl rfl rfl lr) (QR 1 UA rfl rfl rfl lr) (QR 0 We rfl rfl rfl lr),List.Perm.refl _,(congrArg Wl.ret (DB k8 rfl (by have:=EX.chk_depth v 1 0 k8;omega))).symm,rfl⟩⟩
theorem HD{fr:Bool}{v:EX}{ys:List AV}(hv:Xc fr v ys)(hw:v.wf):Fn Tryz.prog 97 [.agg ys] (.c (.int .i64 v.err)):=by
  subst hv
  refine AC.of_J Tryz.func97 rfl Tryz.ntmps97 rfl fun w0 A0=>?_
  refine Zs (Qs (.r rfl) rfl fun b1=>Zq rfl (QW.assign .const) (Zn (Zs (Zq rfl (Qe 0 Ub (.r rfl) rfl (Qo xl rfl) xl) (Zq rfl (QW.call QaE (.cons (.r rfl) .nil) (Pu (Xc.self) (by assumption))) ?_)))))
  refine Zm rfl (Zx rfl (Zx rfl (Zx rfl (Za rfl (Za rfl (Za rfl (Zn (Zs (Zm rfl ?_)))))))))
  exact Za rfl (Zn (J.ret (Zr [.k] (RetEv.one rfl (REv.tmp rfl lr)) rfl ⟨rfl,rfl⟩)))

end
section
/- Walks: are two expressions one; copies; octets that are copied, spoilt, compared. -/
set_option maxRecDepth 10000
set_option maxHeartbeats 4000000
theorem H3{a b:List EX}{k:Nat}(ha:k<a.length)(hb:k<b.length):EX.sames (a.drop k) (b.drop k)=(a[k].same b[k]&&EX.sames (a.drop (k+1)) (b.drop (k+1))):=by
  rw[List.drop_eq_getElem_cons ha,List.drop_eq_getElem_cons hb,EX.sames]
theorem L5:∀{a b:List EX},EX.sames a b=true→a.length=b.length
  |[],[],_=>rfl
  |x::r,y::s,h=>by simp only[EX.sames,Bool.and_eq_true]at h;simp[L5 h.2]
  |[],_::_,h=>by simp[EX.sames]at h
  |_::_,[],h=>by simp[EX.sames]at h
theorem D9{o o':Int}{b b':Nat}{t t':QN}{l l':List EX}:(EX.mk o b t l).same (EX.mk o' b' t' l')=(o==o'&&b==b'&&t==t'&&EX.sames l l'):=by simp[EX.same]
theorem SK(b b':Nat):((b:Int)==(b':Int))=(b==b'):=by rw[Bool.eq_iff_iff];simp only[beq_iff_eq];omega
theorem Fr{fr fr2:Bool}{f:FuncId}(hgo:QJ Tryz.prog f=true){a b:List EX}(ha:a.length≤9223372036854775806)(hf:∀(j:Nat) (h:j<a.length) (h2:j<b.length),Fn Tryz.prog f [.agg (a[j].cs fr),.agg (b[j].cs fr2)] (.c (.bool (a[j].same b[j])))):Fn Tryz.prog 219 [.sl fr false RB (EX.css fr a),.sl fr2 false RB (EX.css fr2 b),.c (.func (.func f) #[] #[])] (.c (.bool (EX.sames a b))):=by
  refine AC.of_J Tryz.func219 rfl Tryz.ntmps219 rfl fun w0 A0=>?_
  refine Zs (Zq rfl (QW.assign .const) (Zn (J.seq (Zs (Zm rfl (Zq rfl (by first|exact Qh Yc (.r rfl) (EX.css_length _ _)|exact Qw Yc (.r rfl)|exact QW.len_nil Yc (.r rfl)) ?_))))))
  refine Zm rfl (Zq rfl (by first|exact Qh Yc (.r rfl) (EX.css_length _ _)|exact Qw Yc (.r rfl)|exact QW.len_nil Yc (.r rfl)) ?_)
  refine Zq rfl (QW.neq (.r rfl) (.r rfl)) (Zn ?_)
  refine J.cond (.r rfl) (fun c1=>?_) (fun c1=>?_)
  · skip
    skip
    exact Zs (Zq rfl (QW.assign .const) (Zn (J.ret (thenQ.r (Zr [] (RetEv.one rfl (REv.tmp rfl lr)) rfl ⟨U0 (by cases hs:EX.sames a b with|false=>rfl|true=>have:=L5 hs;simp[EX.css_length]at c1;omega),rfl⟩)))))
  have hl:a.length=b.length:=by simp[EX.css_length]at c1;omega
  refine Zk (J.seq (Zs (Zm rfl (Zq rfl (by first|exact Qh Yc (.r rfl) (EX.css_length _ _)|exact Qw Yc (.r rfl)|exact QW.len_nil Yc (.r rfl)) ?_))))
  refine Zq rfl (QW.move .const) (Zn (J.block (Ua (ι:=Nat) [1,2,15,16] (fun j=>[(17,.c (.int .i64 (j:Int)))]) (fun _ oo=>oo) (fun j=>j≤a.length∧EX.sames a b=EX.sames (a.drop j) (b.drop j)) (fun j=>a.length-j) 0 (⟨Nat.zero_le _,rfl⟩) (QQ (.cons rfl lr (.cons rfl lr (.cons rfl lr (.cons rfl lr (.cons rfl lr .nil))))) (Reown.refl _) (fun _ h=>by first|exact h|simp[h])) ?_)))
  intro j ⟨hj,hs⟩
  refine J.conv (by(try simp only[nl,Qj,QA,QC,Qy,QZ,AV.cellsOf,Qc,Qd,Nat.reduceAdd]);rfl) ?_
  refine Zs (Zq rfl (QW.lss (.r rfl) (.r rfl)) (Zn (J.seq ?_)))
  refine J.cond (.r rfl) (fun c2=>?_) (fun c2=>?_)
  · skip
    have hlt:j<a.length:=by simpa[EX.css_length]using c2
    have hlt2:j<b.length:=by omega
    refine Zk (J.seq (J.block (Zs (Zm rfl (Zq rfl (Qi Yc Ub rfl (.r rfl) (.r rfl) (by first|rfl|omega|(simp;done)) (by first|exact EX.css_getE _ hlt|exact EX.css_getE _ hlt2)) ?_)))))
    refine Zq rfl (by first|exact Qm Ub (.r rfl) rfl rfl|exact Qm Ub (.r rfl) (QF xl rfl) xl) ?_
    refine JL.alloc P0 rfl rfl fun b8=>Za rfl ?_
    first|refine Qa 0 Ub (.r rfl) rfl (.r rfl) (by first|rfl|assumption) rfl rfl rfl ?_|refine Qa 0 Ub (.r rfl) rfl (.r rfl) (by first|rfl|assumption) rfl xl rfl ?_|refine Qa 0 Ub (.r rfl) rfl (.r rfl) (by first|rfl|assumption) xl rfl rfl ?_|refine Qa 0 Ub (.r rfl) rfl (.r rfl) (by first|rfl|assumption) xl xl rfl ?_|refine JL.store_box 0 Ub (.r rfl) rfl (.r rfl) (by first|rfl|assumption) rfl rfl rfl rfl ?_|refine JL.store_box 0 Ub (.r rfl) rfl (.r rfl) (by first|rfl|assumption) xl rfl rfl rfl ?_
    refine Zn (Zs (Zm rfl (Zm rfl (Zq rfl (Qi Yc Ub rfl (.r rfl) (.r rfl) (by first|rfl|omega|(simp;done)) (by first|exact EX.css_getE _ hlt|exact EX.css_getE _ hlt2)) ?_))))
    refine Zq rfl (by first|exact Qm Ub (.r rfl) rfl rfl|exact Qm Ub (.r rfl) (QF xl rfl) xl) ?_
    refine JL.alloc P0 rfl rfl fun b9=>?_
    first|refine Qa 0 Ub (.r rfl) rfl (.r rfl) (by first|rfl|assumption) rfl rfl rfl ?_|refine Qa 0 Ub (.r rfl) rfl (.r rfl) (by first|rfl|assumption) rfl xl rfl ?_|refine Qa 0 Ub (.r rfl) rfl (.r rfl) (by first|rfl|assumption) xl rfl rfl ?_|refine Qa 0 Ub (.r rfl) rfl (.r rfl) (by first|rfl|assumption) xl xl rfl ?_|refine JL.store_box 0 Ub (.r rfl) rfl (.r rfl) (by first|rfl|assumption) rfl rfl rfl rfl ?_|refine JL.store_box 0 Ub (.r rfl) rfl (.r rfl) (by first|rfl|assumption) xl rfl rfl rfl ?_
    refine Zn (Zs (Zm rfl (Zq rfl (by first|exact Qe 1 Ub (.r rfl) rfl rfl rfl|exact Qe 1 Ub (.r rfl) rfl (Qo xl rfl) xl) ?_)))
    refine Zq rfl (by first|exact Qe 0 Ub (.r rfl) rfl rfl rfl|exact Qe 0 Ub (.r rfl) rfl (Qo xl rfl) xl) ?_
    refine Zq rfl (QW.callV hgo (.r rfl) (.cons (.r rfl) (.cons (.r rfl) .nil)) rfl (hf j hlt hlt2)) (Zq rfl (QW.not (.r rfl)) (Zn ?_))
    refine J.cond (.r rfl) (fun c3=>?_) (fun c3=>?_)
    · skip
      simp at c3
      exact Zs (Zq rfl (QW.assign .const) (Zn (J.ret (blkQ.r (thenQ.r (thenQ.r (blkQ.r (thenQ.r (Zr [.k,.k] (RetEv.one rfl (REv.tmp rfl lr)) rfl ⟨U0 (by rw[hs,H3 hlt hlt2,c3];rfl),rfl⟩)))))))))
    simp at c3
    refine J.skip (blkQ.n (thenQ.n (Qg (Zq rfl (QW.add (.r rfl) .const (by first|exact U6 (by first|rfl|omega|(simp;done)) (by omega)|exact Yy (by omega)|rfl)) ?_))))
    refine Zm rfl (Zn ?_)
    rw[H3 hlt hlt2,c3,Bool.true_and]at hs
    exact⟨j+1,⟨hlt,hs⟩,by omega,QQ (.cons rfl lr (.cons rfl lr (.cons rfl lr (.cons rfl lr (.cons rfl lr .nil))))) (Q3 2 _ rfl) (fun _ h=>by first|exact h|simp[h])⟩
  have hge:a.length≤j:=by simpa[EX.css_length]using c2
  exact J.exit (Qz (Qz (QY (thenQ.n (Zs (Zq rfl (QW.assign .const) (Zn (J.ret (Zr [] (RetEv.one rfl (REv.tmp rfl lr)) rfl ⟨U0 (by rw[hs,List.drop_of_length_le hge,List.drop_of_length_le (by omega),EX.sames]),rfl⟩)))))))))
theorem Pz:∀(n:Nat) {v u:EX} {ys zs:List AV} {fr fr2:Bool},Xc fr v ys→Xc fr2 u zs→v.wf→u.wf→v.sz≤n→
    Fn Tryz.prog 190 [.agg ys,.agg zs] (.c (.bool (v.same u))):=by
  intro n
  induction n with
  |zero=>intro v u ys zs fr fr2 hv hu hw hw2 h;exact absurd h (by have:=EX.sz_pos v;omega)
  |succ n ih=>
    intro v u ys zs fr fr2 hv hu hw hw2 hn
    obtain⟨o,b,t,is⟩:=v
    obtain⟨o',b',t',is'⟩:=u
    subst hv hu
    obtain⟨-,-,-,hi80,hwi⟩:=hw.inv
    obtain⟨-,-,-,hi80',hwi'⟩:=hw2.inv
    have h1:is.length≤9223372036854775806:=by unfold Qr at hi80;omega
    have h2:is'.length≤9223372036854775806:=by unfold Qr at hi80';omega
    refine AC.of_J Tryz.func190 rfl Tryz.ntmps190 rfl fun w0 A0=>?_
    refine Zs (Qs (.r rfl) rfl fun b2=>Qs (.r rfl) rfl fun b3=>Zq rfl (QW.assign .const) (Zn (Zs (Zd Yk rfl (Zl 1 UA rfl (Zd Yk rfl (Zl 0 UA rfl ?_)))))))
    refine Zq rfl (QW.eql (.r rfl) (.r rfl)) (Zm rfl (Zg rfl (fun hg=>(Qf HA (.r rfl) rfl)) (Zg rfl (fun hg=>(Qb 1 WQ (.when rfl hg) rfl rfl)) (Zg rfl (fun hg=>(Qf HA (.r rfl) rfl)) (Zg rfl (fun hg=>(Qb 0 WQ (.when rfl hg) rfl rfl)) (Zg rfl (fun hg=>(QW.eql (.when rfl hg) (.when rfl hg))) (Zq rfl (QW.pick_and (.r rfl) (.r rfl)) (Zm rfl (Zg rfl (fun hg=>(Qf Hz (.r rfl) rfl)) ?_)))))))))
    refine Zg rfl (fun hg=>(Qb 1 UO (.when rfl hg) rfl rfl)) (Zg rfl (fun hg=>(Qf Hz (.r rfl) rfl)) (Zg rfl (fun hg=>(Qb 0 UO (.when rfl hg) rfl rfl)) (Zg rfl (fun hg=>(WJ (.when rfl hg) (.when rfl hg))) (Zq rfl (QW.pick_and (.r rfl) (.r rfl)) (Zm rfl (Zg rfl (fun hg=>(Qf Wu (.r rfl) rfl)) (Zg rfl (fun hg=>(Qb 1 Ki (.when rfl hg) rfl rfl)) (Zg rfl (fun hg=>(Qf Wu (.r rfl) rfl)) (Zg rfl (fun hg=>(Qb 0 Ki (.when rfl hg) rfl rfl)) ?_)))))))))
    exact Zg rfl (fun hg=>(QW.call Qat (.cons (.when rfl hg) (.cons (.when rfl hg) (.cons .func .nil))) (Fr EZ h1 (fun j h h2=>ih Xc.self Xc.self (hwi _ (List.getElem_mem h)) (hwi' _ (List.getElem_mem h2)) (EX.sz_get hn h))))) (Zq rfl (QW.pick_and (.r rfl) (.r rfl)) (Za rfl (Zn (J.ret (Zr [.k,.k] (RetEv.one rfl (REv.tmp rfl lr)) rfl ⟨U0 (by rw[D9,SK]),rfl⟩)))))
theorem Ft{v u:EX}{ys zs:List AV}{fr fr2:Bool}(hv:Xc fr v ys)(hu:Xc fr2 u zs)(hw:v.wf)(hw2:u.wf):Fn Tryz.prog 190 [.agg ys,.agg zs] (.c (.bool (v.same u))):=Pz _ hv hu hw hw2 (Nat.le_refl _)
theorem of14_n:∀(n:Nat) {v:EX} {ys:List AV} {fr:Bool},Xc fr v ys→v.wf→v.sz≤n→AC Tryz.prog 41 [] [.agg ys] (YV (PZ v)):=by
  intro n
  induction n with
  |zero=>intro v ys fr hv hw h;exact absurd h (by have:=EX.sz_pos v;omega)
  |succ n ih=>
    intro v ys fr hv hw hn
    obtain⟨o,b,t,is⟩:=v
    subst hv
    obtain⟨-,-,-,hi80,hwi⟩:=hw.inv
    have h1:is.length≤9223372036854775806:=by unfold Qr at hi80;omega
    refine AC.of_J Tryz.func41 rfl Tryz.ntmps41 rfl fun w0 A0=>?_
    refine Zs (Qs (.r rfl) rfl fun b1=>JL.alloc P0 rfl rfl fun b2=>Zn (Zs (Zd fo25_0 rfl (Zl 1 UA rfl (Zd fo25_1 rfl (Zl 1 WQ rfl (Zd fo25_2 rfl ?_)))))))
    refine Zl 1 UO rfl (Zq rfl (QW.build (idx:=[0,1,2]) pl36 P0 rfl (.cons (.r rfl) (.cons (.r rfl) (.cons (.r rfl) .nil))) rfl rfl rfl rfl) (JL.alloc P0 rfl rfl fun b3=>Qa 0 Ub (.r rfl) rfl (.r rfl) rfl rfl rfl rfl (Zn (J.seq (Zs (Zq rfl (QW.assign .const) (Zn (J.block ?_))))))))
    refine J.reown (Up RB _) (J.reown (YA _) (Ua (ι:=Nat×Value×List (List AV)×List Value×Own) [1,2,3] (fun⟨j,v,cs,us,g⟩=>[(4,.c (.int .i64 (j:Int)))]) (fun⟨j,v,cs,us,g⟩ oo=>List.set (List.set (List.set oo 0 (.box b3 ((EX.mk o b t is).raw v))) 3 (.arr v RB cs)) 4 (g)) (fun⟨j,v,cs,us,g⟩=>j≤is.length∧EKids (is.take j) cs us g) (fun⟨j,v,cs,us,g⟩=>is.length-j) ⟨0,.slice none 0 0,[],[],.grp []⟩ (⟨Nat.zero_le _,.nil⟩) (QQ (.cons rfl lr (.cons rfl lr (.cons rfl lr (.cons rfl lr .nil)))) (Reown.refl _) (fun _ h=>by first|exact h|simp[h])) ?_))
    intro⟨j,v,cs,us,g⟩ ⟨hj,hK⟩
    refine J.conv (by(try simp only[nl,Qj,QA,QC,Qy,QZ,AV.cellsOf,Qc,Qd,Nat.reduceAdd]);rfl) ?_
    refine J.seq (Zs (Zm rfl (Zd Pi rfl (Zl 2 ty23 rfl (Zq rfl (Qh sl23 (.r rfl) (EX.css_length _ _)) (Zq rfl (QW.lss (.r rfl) (.r rfl)) (Zn ?_)))))))
    refine J.cond (.r rfl) (fun c1=>?_) (fun c1=>?_)
    · skip
      have hlt:j<is.length:=by simpa[EX.css_length]using c1
      refine Zk (J.seq (J.block (QV mixed (Zf 0 [] rfl (fun _=>Qf Wu (.r rfl) rfl) (Zo 1 0 [19] rfl (fun _ ho_=>Qb 0 Ki (.r rfl) ho_ rfl) (Zf 2 [] rfl (fun _=>Qf Pi (.r rfl) rfl) (Zo 3 2 [21] rfl (fun _ ho_=>Qb 2 ty23 (.r rfl) ho_ rfl) (Zf 4 [] rfl (fun _=>QW.move (.r rfl)) (Zf 5 [22,23] rfl (fun _=>Qi sl23 Hg rfl (.r rfl) (.r rfl) rfl (by exact EX.css_getE _ hlt)) ?_)))))))))
      refine Zf 6 [24] rfl (fun _=>Qm Hg (.r rfl) (QF xl rfl) xl) (JX.one 7 [true,true,true,true,true,false,false] rfl (by kernel_rfl) (by kernel_rfl) rfl rfl (by kernel_rfl) rfl fun bs7_ pe_ ex_=>?_)
      refine JL.conv (by(try simp only[Ug,Uo,Q8,Q0,Flt.val,Flt.bx,nx,nl,Qj,QA,QC,Qy,QZ,AV.cellsOf,Qc,Qd,Nat.reduceAdd]);rfl) ?_
      refine JL.callRF [] NW rfl Lent.nil (fun _=>(.cons (.r rfl) .nil)) (ih Xc.self (hwi _ (List.getElem_mem _)) (EX.sz_get hn hlt)) (.inl rfl) fun x26 o26 h26=>?_
      obtain⟨iv26,oi26,rfl,rfl,hV26⟩:=h26
      refine JL.nil ?_
      refine thenQ.n ⟨[_],_,rfl,rfl,rfl,rfl,rfl,U5 5 rfl rfl,⟨rfl,rfl⟩,⟨rfl,⟨trivial,trivial⟩⟩,?_⟩
      refine JX.conv (S':=[7,6,5,4,3,2]) rfl (by(try simp only[Q0]);rfl) (by(try simp only[Ug,Uo,Q8,Q0,Flt.val,Flt.bx,nx,nl,Qj,QA,QC,Qy,QZ,AV.cellsOf,Qc,Qd,Nat.reduceAdd]);rfl) ?_
      refine Zf 8 [26] rfl (fun _=>QW.buildSlice (idx:=[0]) (xs:=[is[j].raw iv26]) Yc el36 P0 rfl (.cons (.r rfl) .nil) rfl rfl rfl rfl rfl rfl rfl rfl rfl) (JX.one 9 [true,true,true] rfl (by kernel_rfl) (by kernel_rfl) rfl rfl (by kernel_rfl) rfl fun bs9_ pe_ ex_=>?_)
      refine JL.conv (by(try simp only[Ug,Uo,Q8,Q0,Flt.val,Flt.bx,nx,nl,Qj,QA,QC,Qy,QZ,AV.cellsOf,Qc,Qd,Nat.reduceAdd]);rfl) ?_
      refine JL.append 3 Yc el36 rfl (.r rfl) rfl (U8 Yc (.r rfl)) (by have:=hK.h2;rw[List.length_take]at this;simp;unfold Qr at*;omega) rfl fun v28=>?_
      refine JL.nil ?_
      refine thenQ.n ⟨[_],_,rfl,rfl,rfl,rfl,rfl,QM 6 rfl,⟨rfl,rfl⟩,trivial,?_⟩
      refine JX.conv (S':=[9,8,1,0,7,6,5,4,3,2]) rfl (by(try simp only[Q0]);rfl) (by(try simp only[Ug,Uo,Q8,Q0,Flt.val,Flt.bx,nx,nl,Qj,QA,QC,Qy,QZ,AV.cellsOf,Qc,Qd,Nat.reduceAdd]);rfl) ?_
      refine Zf 10 [] rfl (fun _=>Qf Wu (.r rfl) rfl) (JX.one 11 [true] rfl (by kernel_rfl) (by kernel_rfl) rfl rfl (by kernel_rfl) rfl fun bs11_ pe_ ex_=>?_)
      refine JL.conv (by(try simp only[Ug,Uo,Q8,Q0,Flt.val,Flt.bx,nx,nl,Qj,QA,QC,Qy,QZ,AV.cellsOf,Qc,Qd,Nat.reduceAdd]);rfl) ?_
      refine JL.isSlice 3 rfl fun hs2=>JL.store_box 0 Ki (.r rfl) rfl (.r rfl) (by assumption) rfl rfl rfl rfl ?_
      refine JL.nil ?_
      refine thenQ.n ⟨[],_,rfl,rfl,rfl,rfl,rfl,QM 6 rfl,trivial,trivial,?_⟩
      refine JX.conv (S':=[11,10,9,8,1,0,7,6,5,4,3,2]) rfl (by(try simp only[Q0]);rfl) (by(try simp only[Ug,Uo,Q8,Q0,Flt.val,Flt.bx,nx,nl,Qj,QA,QC,Qy,QZ,AV.cellsOf,Qc,Qd,Nat.reduceAdd]);rfl) ?_
      refine JX.fin (by kernel_rfl) (by kernel_rfl) fun bs_=>?_
      refine QX.conv (by(try simp only[Ug,Uo,Q8,Q0,Flt.val,Flt.bx,nx,nl,Qj,QA,QC,Qy,QZ,AV.cellsOf,Qc,Qd,Nat.reduceAdd]);rfl) ?_
      refine blkQ.n (thenQ.n (Qg (Zm rfl (Zq rfl (QW.add (.r rfl) .const (Yy (by omega))) (Za rfl (Zn ?_))))))
      exact⟨⟨j+1,_,_,_,_⟩,⟨hlt,by rw[List.take_succ_eq_append_getElem hlt];exact hK.snoc hV26⟩,by show is.length-(j+1)<is.length-j;omega,QQ (.cons rfl lr (.cons rfl lr (.cons rfl lr (.cons rfl lr .nil)))) ((Reown.cons (Reown.cons (Reown.cons (Reown.cons (W5 _ _ _)))))) (fun _ h=>by first|exact h|simp[h])⟩
    have hge:is.length≤j:=by simpa[EX.css_length]using c1
    refine J.exit (Qz (Qz (QY (thenQ.n (J.seq (J.isSlice 3 rfl fun hs1=>J.reown (Reown.cons (Reown.cons (Reown.cons (W5 _ _ _)))) (Qg (Zq rfl (Qe 0 Ub (.r rfl) rfl rfl rfl) ?_))))))))
    refine Qa 1 Ub (.r rfl) rfl (.r rfl) rfl rfl rfl rfl (Zn (J.ret ?_))
    obtain rfl:j=is.length:=by omega
    rw[List.take_length]at hK
    exact Zr [.k,.k,.k,.p] (RetEv.one rfl (REv.cell 1 Ub rfl rfl rfl rfl lr)) rfl ⟨_,rfl,_,_,rfl,rfl,hs1,hK.tr hi80⟩
theorem BJ{v:EX}{ys:List AV}{fr:Bool}(hv:Xc fr v ys)(hw:v.wf):AC Tryz.prog 41 [] [.agg ys] (YV (PZ v)):=of14_n _ hv hw (Nat.le_refl _)
theorem NO{v:EX}{ys:List AV}{fr:Bool}(hv:Xc fr v ys)(hw:v.wf):Fn Tryz.prog 41 [.agg ys] (.agg (v.cs true)):=D7 (BJ hv hw)

end
section
/- Walks: an expression over a scope, with fuel. -/
set_option maxRecDepth 10000
set_option maxHeartbeats 4000000
def zV:List AV:=[.c (.int .i64 0),.c (.int .u64 0),.c (Q4 []),.c (.slice none 0 0),.c (.slice none 0 0)]
def ScT.cs(s:ScT):List AV:=s.st.cs false++s.ev.cs false++s.it.cs false
def Bm(r:V×Int×Int):AV:=.tup [.agg (r.1.cs true),.c (.int .i64 r.2.1),.c (.int .i64 r.2.2)]
theorem Sn{e:EX}{s:ScT}{f c:Int}(h:e.ev s f=.error c):MA e s f=(.nil,0,c):=by unfold MA;rw[h]
theorem Sl{e:EX}{s:ScT}{f f':Int}{v:V}(h:e.ev s f=.ok (v,f')):MA e s f=(v,f',0):=by unfold MA;rw[h]
theorem Bn(a b c:Nat)(zs:List AV)(y z:Int):DC Tryz.prog 209 [UB c z,UB b y,.box a zs] [.c (.pointer (some ⟨a,0,none⟩)),.c (.pointer (some ⟨b,0,none⟩)),.c (.pointer (some ⟨c,0,none⟩))] .returning fun r u' o=>r=.ret (.tup [])∧u'=.returning∧o=[UB c z,UB b y,.box a zs]:=by
  refine DC.of_JD Tryz.func209 rfl Tryz.ntmps209 rfl fun w0 A0=>?_
  refine JD.seq (Uf rfl rfl (.inl ⟨rfl,rfl,rfl⟩) rfl (Zq rfl (YB ⟨_,Tryz.underlying47,by intro ms h;cases h⟩ KM (.r rfl)) ?_))
  refine Zm rfl (Zx rfl (Zx rfl (Za rfl (Za rfl (JL.nil ?_)))))
  refine YD ?_
  refine JD.of_J rfl (Zs (Zm rfl (Zn ?_)))
  refine J.cond (.r rfl) (fun c1=>absurd c1 (by simp)) (fun c1=>?_)
  refine J.skip ?_
  exact⟨_,QI [.p,.p,.p] _,_,RetEv.none rfl,rfl,Qk [.p,.p,.p] _,⟨rfl,rfl,rfl⟩⟩
theorem Bo(a b c:Nat)(zs:List AV)(hz:zs.length=5)(y z e:Int):DC Tryz.prog 209 [UB c z,UB b y,.box a zs] [.c (.pointer (some ⟨a,0,none⟩)),.c (.pointer (some ⟨b,0,none⟩)),.c (.pointer (some ⟨c,0,none⟩))] (.panicking [{v:=WT e,recovered:=false}]) fun r u' o=>r=.ret (.tup [])∧u'=.panicking [{v:=WT e,recovered:=true}]∧o=[UB c e,UB b 0,.box a zV]:=by
  refine DC.of_JD Tryz.func209 rfl Tryz.ntmps209 rfl fun w0 A0=>?_
  refine JD.seq (Uf rfl rfl (.inr ⟨[],rfl,rfl⟩) rfl (Zq rfl (YC ⟨_,Tryz.underlying47,by intro ms h;cases h⟩ (.r rfl)) ?_))
  refine Zm rfl (Zx rfl (Zx rfl (Za rfl (Za rfl (JL.nil ?_)))))
  refine YD ?_
  refine JD.of_J rfl (Zs (Zm rfl (Zn ?_)))
  refine J.cond (.r rfl) (fun c1=>?_) (fun c1=>absurd c1 (by simp))
  refine Qg (Zq rfl (QW.build (idx:=[]) Kj Yd rfl .nil rfl rfl rfl rfl) (Zm rfl (JL.store_box 2 Ql (.r rfl) rfl (.r rfl) rfl rfl (by rw[hz];rfl) (U4 (by rw[hz];rfl)) rfl ?_)))
  refine JL.store_box 1 UA (.r rfl) rfl .const rfl rfl rfl rfl rfl (JL.store_box 0 We (.r rfl) rfl (.r rfl) rfl rfl rfl rfl rfl (JL.nil ?_))
  exact⟨_,QI [.p,.p,.p] _,_,RetEv.none rfl,rfl,Qk [.p,.p,.p] _,⟨rfl,rfl,rfl⟩⟩
theorem run_ok{fr:Bool}{e:EX}{ys:List AV}(he:Xc fr e ys)(hw:e.wf)(hf:e.Fine){s:ScT}(hs:s.good){f:Int}(h0:He f):Fn Tryz.prog 169 [.agg ys,.agg s.cs,.c (.int .i64 f)] (Bm (MA e s f)):=by
  subst he
  obtain⟨⟨ka,ua,ta,va,ia⟩,⟨kb,ub,tb,vb,ib⟩,⟨kc,uc,tc,vc,ic⟩⟩:=s
  have hs0:=hs
  refine AC.of_JD Tryz.func169 rfl Tryz.ntmps169 rfl fun w0 A0=>?_
  refine Zs (Qs (.r rfl) rfl fun b3=>Qs (.r rfl) rfl fun b4=>JL.alloc Yd rfl rfl fun b6=>JL.alloc z3 rfl rfl fun b7=>JL.alloc z47 rfl rfl fun b8=>Zn (Zs (Zq rfl (WN .nil (.cons (.r rfl) (.cons (.r rfl) (.cons (.r rfl) .nil)))) (JL.defer rfl (.r rfl) ?_))))
  refine Zn (Zs (Zq rfl (Qe 3 ty120 (.r rfl) rfl rfl rfl) (Zm rfl (Zq rfl (QW.build (idx:=[0,1]) pl311 z311 rfl (.cons (.r rfl) (.cons (.r rfl) .nil)) rfl rfl rfl rfl) (Qs (.r rfl) rfl fun b14=>Za rfl (Zn (Zs (Zm rfl ?_))))))))
  refine Zq rfl (Qe 5 Ub (.r rfl) rfl (Qo xl rfl) xl) ?_
  refine Qn [.p] X8 rfl Lent.nil (fun _=>(.cons (.r rfl) (.cons (.r rfl) .nil))) (SL _ e ⟨⟨ka,ua,ta,va,ia⟩,⟨kb,ub,tb,vb,ib⟩,⟨kc,uc,tc,vc,ic⟩⟩ f b14 fr hw hf hs h0 (Nat.le_refl _)) (.inl rfl) (fun k17 x17 o17 h17=>?_) (fun k17=>?_)
  rotate_left
  · skip
    refine thenQ.p ?_
    exact⟨_,_,[],[_,_,_],QI [.p,.p,.p] _,_,rfl,rfl,ET,Qk [.p,.p,.p] _,DC.mono (Bo _ _ _ _ rfl _ _ _) fun r u' o ⟨h1,h2,h3⟩=>by subst h1 h2 h3;exact⟨⟨_,rfl⟩,rfl,_,[],_,(U2 rfl (REv.cell 2 Ql rfl rfl rfl rfl (.aggL (.cons lr (.cons lr (.cons lr (.cons (.nil true false _) (.cons (.nil true false _) .nil))))))) (QR 1 UA rfl rfl rfl lr) (QR 0 We rfl rfl rfl lr)),List.Perm.refl _,(congrArg (fun r=>Wl.ret (Bm r)) (Sn (UN k17)).symm),rfl⟩⟩
  obtain⟨v17,f17,hv17,rfl,rfl⟩:=h17
  refine Zq rfl (QW.call LX (.cons (.r rfl) .nil) (Tq Vc.self (HC hw hf hs h0 hv17).1.wf)) (Qa 3 Ql (.r rfl) rfl (.r rfl) rfl vl rfl rfl (Zn (J.seq (QV mixed (Zo 0 3 [] rfl (fun _ ho_=>Qe 3 Ql (.r rfl) ho_ (Qo vl rfl) vl) (Zf 1 [] rfl (fun _=>QW.move (.r rfl)) (Zf 2 [20] rfl (fun _=>W6 (.r rfl)) (Zf 3 [21] rfl (fun _=>Qf Ll (.r rfl) rfl) (Zo 4 0 [22] rfl (fun _ ho_=>Qb 0 UA (.r rfl) ho_ rfl) ?_)))))))))
  refine JX.one 5 [false,false,false,false,true] rfl (by kernel_rfl) (by kernel_rfl) rfl rfl (by kernel_rfl) rfl fun bs5_ pe_ ex_=>?_
  refine JL.conv (by(try simp only[Ug,Uo,Q8,Q0,Flt.val,Flt.bx,nx,nl,Qj,QA,QC,Qy,QZ,AV.cellsOf,Qc,Qd,Nat.reduceAdd]);rfl) ?_
  refine Qa 3 Ql (.r rfl) rfl (.r rfl) rfl vl vl rfl (JL.nil ?_)
  refine thenQ.n ⟨[],_,rfl,rfl,rfl,rfl,rfl,QM 6 rfl,trivial,⟨rfl,⟨trivial,⟨trivial,⟨trivial,trivial⟩⟩⟩⟩,?_⟩
  refine JX.conv (S':=[5,0]) rfl (by(try simp only[Q0]);rfl) (by(try simp only[Ug,Uo,Q8,Q0,Flt.val,Flt.bx,nx,nl,Qj,QA,QC,Qy,QZ,AV.cellsOf,Qc,Qd,Nat.reduceAdd]);rfl) ?_
  refine JX.one 6 [true,true,true,true] rfl (by kernel_rfl) (by kernel_rfl) rfl rfl (by kernel_rfl) rfl fun bs6_ pe_ ex_=>?_
  refine JL.conv (by(try simp only[Ug,Uo,Q8,Q0,Flt.val,Flt.bx,nx,nl,Qj,QA,QC,Qy,QZ,AV.cellsOf,Qc,Qd,Nat.reduceAdd]);rfl) ?_
  refine JL.store_box 2 UA (.r rfl) rfl (.r rfl) rfl rfl rfl rfl rfl (JL.nil ?_)
  refine thenQ.n ⟨[],_,rfl,rfl,rfl,rfl,rfl,QM 6 rfl,trivial,trivial,?_⟩
  refine JX.conv (S':=[6,4,3,2,1,5,0]) rfl (by(try simp only[Q0]);rfl) (by(try simp only[Ug,Uo,Q8,Q0,Flt.val,Flt.bx,nx,nl,Qj,QA,QC,Qy,QZ,AV.cellsOf,Qc,Qd,Nat.reduceAdd]);rfl) ?_
  refine JX.one 7 [] rfl (by kernel_rfl) (by kernel_rfl) rfl rfl (by kernel_rfl) rfl fun bs7_ pe_ ex_=>?_
  refine JL.conv (by(try simp only[Ug,Uo,Q8,Q0,Flt.val,Flt.bx,nx,nl,Qj,QA,QC,Qy,QZ,AV.cellsOf,Qc,Qd,Nat.reduceAdd]);rfl) ?_
  refine JL.store_box 1 We (.r rfl) rfl .const rfl rfl rfl rfl rfl (JL.nil ?_)
  refine thenQ.n ⟨[],_,rfl,rfl,rfl,rfl,rfl,QM 6 rfl,trivial,trivial,?_⟩
  refine JX.conv (S':=[7,6,4,3,2,1,5,0]) rfl (by(try simp only[Q0]);rfl) (by(try simp only[Ug,Uo,Q8,Q0,Flt.val,Flt.bx,nx,nl,Qj,QA,QC,Qy,QZ,AV.cellsOf,Qc,Qd,Nat.reduceAdd]);rfl) ?_
  refine JX.fin (by kernel_rfl) (by kernel_rfl) fun bs_=>?_
  refine QX.conv (by(try simp only[Ug,Uo,Q8,Q0,Flt.val,Flt.bx,nx,nl,Qj,QA,QC,Qy,QZ,AV.cellsOf,Qc,Qd,Nat.reduceAdd]);rfl) ?_
  refine thenQ.n (J.ret ?_)
  exact⟨_,_,[],[_,_,_],QI [.k,.p,.p,.p] _,_,rfl,rfl,ET,Qk [.k,.p,.p,.p] _,DC.mono (Bn _ _ _ _ _ _) fun r u' o ⟨h1,h2,h3⟩=>by subst h1 h2 h3;exact⟨⟨_,rfl⟩,rfl,_,[],_,(U2 rfl (REv.cell 2 Ql rfl rfl (Qo vl rfl) vl lr) (QR 1 UA rfl rfl rfl lr) (QR 0 We rfl rfl rfl lr)),List.Perm.refl _,(congrArg (fun r=>Wl.ret (Bm r)) (Sl hv17).symm),rfl⟩⟩
theorem Mn(s:ScT):s.cs.length=15:=by simp[ScT.cs,V.cs_length]

end
section
/- Programs as plain data: a first state, handlers; what an event makes of a state. -/
structure SetT where
  key:QN
  ex:EX
def eSe:U7:=⟨5,72⟩
/-! cells -/
def SetT.cs(fr:Bool)(s:SetT):List AV:=.c (Q4 s.key)::s.ex.cs fr
def SetT.css(fr:Bool)(l:List SetT):List (List AV):=l.map (SetT.cs fr)
theorem SetT.cs_length(fr:Bool)(s:SetT):(s.cs fr).length=5:=by simp[SetT.cs,EX.cs_length]
theorem SetT.css_length(fr:Bool)(l:List SetT):(SetT.css fr l).length=l.length:=by simp[SetT.css]
theorem SetT.css_getE(fr:Bool){l:List SetT}{i:Nat}(h:i<l.length):(SetT.css fr l)[i]? =some ((l[i]).cs fr):=by simp[SetT.css,h]
theorem SetT.css_snoc(fr:Bool)(l:List SetT)(x:SetT):SetT.css fr l++[x.cs fr]=SetT.css fr (l++[x]):=by simp[SetT.css]
theorem SetT.at1{fr:Bool}{s:SetT}:((s.cs fr).drop 1).take 4=s.ex.cs fr:=by
  obtain⟨n,⟨a,b,c,d⟩⟩:=s;rfl
/-! what fits a machine -/
structure SetT.wf(s:SetT):Prop where
  key:s.key.length≤Qr
  ex:s.ex.wf
/-! errors -/
def Hw:List Int→Int
  |[]=>0
  |e::r=>if e≠0 then e else Hw r
theorem Pf{l:List Int}(h:Hw l=0):∀x∈l,x=0:=by
  induction l with
  |nil=>intro x hx;cases hx
  |cons y r ih=>
    unfold Hw at h
    by_cases hy:y=0
    · rw[if_neg (fun h=>h hy)]at h
      intro x hx
      rcases List.mem_cons.1 hx with rfl|hx
      · exact hy
      · exact ih h x hx
    · rw[if_pos hy]at h;exact absurd h hy
/-! what an event makes of a state -/

end
section
/- Trees as plain data: cells, what may be, walks. -/
structure AtT where
  name:QN
  value:QN
inductive TrT where
  |mk (tag key text:QN) (attrs:List AtT) (kids:List TrT)
def TrT.tag:TrT→QN|.mk t _ _ _ _=>t
def TrT.key:TrT→QN|.mk _ k _ _ _=>k
def TrT.text:TrT→QN|.mk _ _ x _ _=>x
def TrT.attrs:TrT→List AtT|.mk _ _ _ a _=>a
def TrT.kids:TrT→List TrT|.mk _ _ _ _ l=>l
def DH:U7:=⟨2,32⟩
def eTr:U7:=⟨5,96⟩
def AtT.cs(a:AtT):List AV:=[.c (Q4 a.name),.c (Q4 a.value)]
def AtT.css(l:List AtT):List (List AV):=l.map AtT.cs
theorem AtT.css_length(l:List AtT):(AtT.css l).length=l.length:=by simp[AtT.css]
theorem AtT.css_getE{l:List AtT}{i:Nat}(h:i<l.length):(AtT.css l)[i]? =some (l[i].cs):=by simp[AtT.css,h]
theorem AtT.css_sz(l:List AtT):∀x∈AtT.css l,x.length=DH.sz:=fun x hx=>by obtain⟨v,_,rfl⟩:=List.mem_map.1 hx;rfl
theorem AtT.css_snoc(l:List AtT)(x:AtT):AtT.css l++[x.cs]=AtT.css (l++[x]):=by simp[AtT.css]
mutual
def TrT.cs(fr:Bool):TrT→List AV
  |.mk t k x a l=>[.c (Q4 t),.c (Q4 k),.c (Q4 x),.sl fr false DH (AtT.css a),.sl fr false eTr (TrT.css fr l)]
def TrT.css(fr:Bool):List TrT→List (List AV)
  |[]=>[]
  |v::r=>v.cs fr::TrT.css fr r
end
theorem TrT.css_eq(fr:Bool):∀l,TrT.css fr l=l.map (TrT.cs fr)
  |[]=>rfl
  |v::r=>by simp[TrT.css,TrT.css_eq fr r]
theorem TrT.css_length(fr:Bool)(l:List TrT):(TrT.css fr l).length=l.length:=by simp[TrT.css_eq]
theorem TrT.css_getE(fr:Bool){l:List TrT}{i:Nat}(h:i<l.length):(TrT.css fr l)[i]? =some (l[i].cs fr):=by simp[TrT.css_eq,h]
theorem TrT.css_append(fr:Bool)(a b:List TrT):TrT.css fr (a++b)=TrT.css fr a++TrT.css fr b:=by simp[TrT.css_eq]
theorem TrT.cs_length(fr:Bool)(v:TrT):(v.cs fr).length=5:=by cases v;rfl
theorem TrT.css_sz(fr:Bool)(l:List TrT):∀x∈TrT.css fr l,x.length=eTr.sz:=by
  intro x hx
  rw[TrT.css_eq]at hx
  obtain⟨v,_,rfl⟩:=List.mem_map.1 hx
  exact TrT.cs_length fr v
def TrT.nil:TrT:=.mk [] [] [] [] []
structure AtT.wf(a:AtT):Prop where
  name:a.name.length≤Qr
  value:a.value.length≤Qr
inductive TrT.wf:TrT→Prop
  |mk {t k x:QN} {a:List AtT} {l:List TrT} (h1:t.length≤Qr) (h2:k.length≤Qr) (h3:x.length≤Qr) (h4:a.length*32≤Qr) (h5:∀x∈a,AtT.wf x) (h6:l.length*96≤Qr) (h7:∀x∈l,TrT.wf x):TrT.wf (.mk t k x a l)
theorem TrT.wf.inv{t k x:QN}{a:List AtT}{l:List TrT}(h:TrT.wf (.mk t k x a l)):t.length≤Qr∧k.length≤Qr∧x.length≤Qr∧a.length*32≤Qr∧(∀x∈a,AtT.wf x)∧l.length*96≤Qr∧∀x∈l,TrT.wf x:=by
  cases h with|mk h1 h2 h3 h4 h5 h6 h7=>exact⟨h1,h2,h3,h4,h5,h6,h7⟩
mutual
def TrT.sz:TrT→Nat
  |.mk _ _ _ _ l=>1+TrT.szs l
def TrT.szs:List TrT→Nat
  |[]=>0
  |x::r=>x.sz+TrT.szs r
end
theorem TrT.sz_pos(v:TrT):1≤v.sz:=by cases v;unfold TrT.sz;omega
theorem TrT.szs_mem:∀{l:List TrT} {x:TrT},x∈l→x.sz≤TrT.szs l
  |y::r,x,h=>by
    unfold TrT.szs
    rcases List.mem_cons.1 h with rfl|h
    · omega
    · have:=TrT.szs_mem h;omega
theorem TrT.sz_get{t k x:QN}{a:List AtT}{l:List TrT}{j n:Nat}(h:(TrT.mk t k x a l).sz≤n+1)(hj:j<l.length):l[j].sz≤n:=by
  have:=TrT.szs_mem (List.getElem_mem hj)
  unfold TrT.sz at h;omega
/-! what may be -/
def MG(c:UInt8):Bool:=decide (97≤c.toNat)&&decide (c.toNat≤122)
def Uq(s:QN):Bool:=decide (1≤s.length)&&decide (s.length≤16)&&s.all MG
def K8:QN→List AtT→Bool
  |_,[]=>true
  |last,a::r=>Op.bytesLess last a.name&&Uq a.name&&decide (a.value.length≤128)&&K8 a.name r
def Yh(tag key text:QN)(attrs:List AtT):Bool:=
  if tag=[]then key==[]&&decide (text.length≤128)&&attrs.length==0
  else Uq tag&&decide (key.length≤16)&&text==[]&&decide (attrs.length≤16)&&K8 [] attrs
def YX(l:List QN)(i:Nat):Bool:=!(l.getD i []==[])&&(l.take i).contains (l.getD i [])
def Gf(l:List QN):Bool:=(List.range l.length).any (YX l)
theorem CC{l:List QN}{i:Nat}(hi:i<l.length)(h:YX l i=true):Gf l=true:=List.any_eq_true.2 ⟨i,List.mem_range.2 hi,h⟩
theorem MU{l:List QN}(h:∀i,i<l.length→YX l i=false):Gf l=false:=by
  rw[Bool.eq_false_iff]
  intro hc
  obtain⟨i,hi,h2⟩:=List.any_eq_true.1 hc
  rw[h i (List.mem_range.1 hi)]at h2;cases h2
def TrT.nodeE(t:TrT)(level nodes:Int):Int:=
  if 8<level then 10 else if nodes=256 then 3
  else if Yh t.tag t.key t.text t.attrs=false∨16<t.kids.length∨(t.tag=[]∧0<t.kids.length)then 9
  else if Gf (t.kids.map TrT.key)then 6 else 0
structure RC where
  n:Int
  d:Int
  e:Int
mutual
def TrT.walk:TrT→Int→RC→RC
  |.mk t k x a l,level,w=>
    if w.e≠0 then w
    else if(TrT.mk t k x a l).nodeE level w.n≠0 then⟨w.n,w.d,(TrT.mk t k x a l).nodeE level w.n⟩
    else TrT.walks l (level+1) ⟨w.n+1,if level>w.d then level else w.d,0⟩
def TrT.walks:List TrT→Int→RC→RC
  |[],_,w=>w
  |x::r,level,w=>TrT.walks r level (x.walk level w)
end
def TrT.err(t:TrT):Int:=if t.tag=[]then 9 else(t.walk 1 ⟨0,0,0⟩).e
/-! are two trees one? -/
def AtT.same(a b:AtT):Bool:=a.name==b.name&&a.value==b.value
def AtT.sames:List AtT→List AtT→Bool
  |[],[]=>true
  |x::r,y::s=>x.same y&&AtT.sames r s
  |_,_=>false
mutual
def TrT.same:TrT→TrT→Bool
  |.mk t k x a l,.mk t' k' x' a' l'=>t==t'&&k==k'&&x==x'&&AtT.sames a a'&&TrT.sames l l'
def TrT.sames:List TrT→List TrT→Bool
  |[],[]=>true
  |x::r,y::s=>x.same y&&TrT.sames r s
  |_,_=>false
end
theorem RA{a b:AtT}:a.same b=true↔a=b:=by
  obtain⟨n,v⟩:=a;obtain⟨n',v'⟩:=b
  simp[AtT.same]
theorem Gb:∀{a b:List AtT},AtT.sames a b=true↔a=b
  |[],[]=>by simp[AtT.sames]
  |[],_::_=>by simp[AtT.sames]
  |_::_,[]=>by simp[AtT.sames]
  |x::r,y::s=>by simp[AtT.sames,RA,Gb (a:=r) (b:=s)]
mutual
theorem TrT.same_refl:∀v:TrT,v.same v=true
  |.mk t k x a l=>by simp[TrT.same,Gb,TrT.sames_refl l]
theorem TrT.sames_refl:∀l:List TrT,TrT.sames l l=true
  |[]=>rfl
  |v::r=>by simp[TrT.sames,TrT.same_refl v,TrT.sames_refl r]
end
theorem TrT.sames_len:∀{a b:List TrT},a.length≠b.length→TrT.sames a b=false
  |[],[],h=>absurd rfl h
  |[],_::_,_=>rfl
  |_::_,[],_=>rfl
  |x::r,y::s,h=>by simp[TrT.sames,TrT.sames_len (a:=r) (b:=s) (by simpa using h)]
theorem AtT.sames_len:∀{a b:List AtT},a.length≠b.length→AtT.sames a b=false
  |[],[],h=>absurd rfl h
  |[],_::_,_=>rfl
  |_::_,[],_=>rfl
  |x::r,y::s,h=>by simp[AtT.sames,AtT.sames_len (a:=r) (b:=s) (by simpa using h)]

end
section
/- More fuel changes nothing but what is left. -/
variable {α β:Type}
def UV(r:ER α)(k:α→Int→ER β):ER β:=match r with
  |.error e=>.error e
  |.ok (v,f)=>k v f

end
section
/- An error is never 0; what is told of a reckoning. -/
variable {α β:Type}
def Nz(r:Except Int α):Prop:=∀c,r=.error c→c≠0
theorem Nz.ok(v:α):Nz (.ok v):=fun c h=>by cases h
theorem Nz.er{c:Int}(h:c≠0):Nz (.error c:Except Int α):=fun c' h'=>by cases h';exact h
theorem UK{p:Prop}[Decidable p]{r q:Except Int α}(h1:p→Nz r)(h2:¬p→Nz q):Nz (if p then r else q):=by
  by_cases h:p
  · rw[if_pos h];exact h1 h
  · rw[if_neg h];exact h2 h
theorem Mr{r:ER V}(h:Nz r):Nz (Wa r):=by
  cases r with
  |error c=>exact fun c' h'=>by cases h';exact h c rfl
  |ok p=>exact UK (fun _=>.ok _) fun _=>.er (by decide)
theorem E6(v:V)(s:StT):Nz (La v s):=by
  unfold La;by_cases h:(v.getv [s]).2=0
  · rw[if_pos h];exact .ok _
  · rw[if_neg h];exact .er h
theorem Sj(v:V)(s:StT)(x:V):Nz (NJ v s x):=UK (fun _=>.ok _) fun _=>.er (by decide)
theorem R4(v:V):Nz (K5 v):=UK (fun _=>.ok _) fun _=>.er (by decide)
theorem one_nz(o:Int)(t:QN)(a:V):Nz (BG o t a):=by
  unfold BG
  repeat' with_reducible refine UK (fun _=>?_) (fun _=>?_)
  all_goals first|exact E6 _ _|exact .ok _|exact .er (by decide)
theorem two_nz(o:Int)(t:QN)(a b:V):Nz (F3 o t a b):=by
  unfold F3
  repeat' with_reducible refine UK (fun _=>?_) (fun _=>?_)
  all_goals first|exact E6 _ _|exact Sj _ _ _|exact .ok _|exact .er (by decide)
theorem Bu{o:Int}{t:QN}{l:List V}(h:o=23∨l.length=1∨l.length=2):Nz (UI o t l):=by
  unfold UI
  refine UK (fun _=>R4 _) fun h23=>?_
  match l,h with
  |[a],_=>exact one_nz _ _ _
  |[a,b],_=>exact two_nz _ _ _ _
  |[],h=>simp at h;exact absurd h h23
  |_::_::_::_,h=>simp at h;exact absurd h h23
theorem BO{g:V→Int→ER V}(hg:∀x f,Nz (g x f)):∀l f,Nz (Hm g l f)
  |[],f=>.ok _
  |x::r,f=>by
    have h1:=hg x f
    rw[Hm]
    cases h:g x f with
    |error c=>exact .er (h1 c h)
    |ok p=>
      have h2:=BO hg r p.2
      simp only[]
      cases h3:Hm g r p.2 with
      |error c=>exact .er (h2 c h3)
      |ok q=>exact .ok _
theorem Pn{g:V→Int→ER Bool}(hg:∀x f,Nz (g x f)):∀l f,Nz (HB g l f)
  |[],f=>.ok _
  |x::r,f=>by
    have h1:=hg x f
    rw[HB]
    cases h:g x f with
    |error c=>exact .er (h1 c h)
    |ok p=>
      have h2:=Pn hg r p.2
      simp only[]
      cases h3:HB g r p.2 with
      |error c=>exact .er (h2 c h3)
      |ok q=>exact .ok _
theorem Pj{g:V→Int→ER Bool}(hg:∀x f,Nz (g x f)):∀l f,Nz (Rc g l f)
  |[],f=>.er (by decide)
  |x::r,f=>by
    have h1:=hg x f
    rw[Rc]
    cases h:g x f with
    |error c=>exact .er (h1 c h)
    |ok p=>exact UK (fun _=>.ok _) fun _=>Pj hg r p.2
theorem R2{r:ER (List V)}(h:Nz r):Nz (Xq r):=by
  unfold Xq
  cases r with
  |error c=>exact .er (h c rfl)
  |ok p=>
    have h2:=R4 (.li p.1)
    simp only[]
    cases h3:K5 (.li p.1)with
    |error c=>exact .er (h2 c h3)
    |ok q=>exact .ok _
theorem Sx{o:Int}{g:V→Int→ER V}{r:ER V}(hg:∀x f,Nz (g x f))(hr:Nz r):Nz (XK o g r):=by
  unfold XK
  cases r with
  |error c=>exact .er (hr c rfl)
  |ok p=>exact UK (fun _=>.er (by decide)) fun _=>UK (fun _=>R2 (BO hg _ _)) fun _=>UK (fun _=>R2 (Pn (fun x f=>Mr (hg x f)) _ _)) fun _=>Pj (fun x f=>Mr (hg x f)) _ _
theorem Cf:∀(l:List EX) {s:ScT} {f f':Int} {vs:List V},Uy l s f=.ok (vs,f')→vs.length=l.length
  |[],s,f,f',vs,h=>by rw[Uy]at h;cases h;rfl
  |x::r,s,f,f',vs,h=>by
    rw[Uy]at h
    cases h1:x.ev s f with
    |error c=>rw[h1]at h;cases h
    |ok p=>
      rw[h1]at h
      simp only[]at h
      cases h2:Uy r s p.2 with
      |error c=>rw[h2]at h;cases h
      |ok q=>
        rw[h2]at h;cases h
        simp[Cf r h2]
mutual
theorem Yo:∀(e:EX) (s:ScT) (f:Int),e.Fine→Nz (e.ev s f)
  |.mk o b t l,s,f,hf=>by
    obtain⟨h0,h30,h8,ha⟩:=Mv hf.part
    have hk:∀x∈l,x.Fine:=fun x hx=>hf.kid hx
    rw[EX.ev]
    refine UK (fun _=>.er (by decide)) fun _=>?_
    refine UK (fun _=>.ok _) fun n0=>UK (fun _=>.ok _) fun n1=>UK (fun _=>.ok _) fun n2=>UK (fun _=>.ok _) fun n3=>UK (fun _=>.ok _) fun n4=>UK (fun _=>.ok _) fun n5=>UK (fun _=>.ok _) fun n6=>UK (fun _=>.ok _) fun n7=>?_
    refine UK (fun c=>Mw false l s _ hk (by omega)) fun n18=>UK (fun c=>Mw true l s _ hk (by omega)) fun n19=>UK (fun c=>Eb l s _ hk (by omega)) fun n21=>UK (fun c=>Ea o l s _ hk (by omega)) fun nov=>?_
    have h1:=NC l s (f-1) hk
    cases h:Uy l s (f-1)with
    |error c=>exact .er (h1 c h)
    |ok p=>
      have h2:=Cf l h
      have h3:=Bu (o:=o) (t:=t) (l:=p.1) (by omega)
      simp only[]
      cases h4:UI o t p.1 with
      |error c=>exact .er (h3 c h4)
      |ok q=>exact .ok _
theorem NC:∀(l:List EX) (s:ScT) (f:Int),(∀x∈l,x.Fine)→Nz (Uy l s f)
  |[],s,f,hf=>by rw[Uy];exact .ok _
  |x::r,s,f,hf=>by
    have h1:=Yo x s f (hf x (by simp))
    rw[Uy]
    cases h:x.ev s f with
    |error c=>exact .er (h1 c h)
    |ok p=>
      have h2:=NC r s p.2 (fun z hz=>hf z (by simp[hz]))
      simp only[]
      cases h3:Uy r s p.2 with
      |error c=>exact .er (h2 c h3)
      |ok q=>exact .ok _
theorem Mw:∀(k:Bool) (l:List EX) (s:ScT) (f:Int),(∀x∈l,x.Fine)→l.length=2→Nz (UX k l s f)
  |k,[],s,f,hf,h2=>by simp at h2
  |k,[_],s,f,hf,h2=>by simp at h2
  |k,x::y::_,s,f,hf,h2=>by
    have h1:=Mr (Yo x s f (hf x (by simp)))
    rw[UX]
    cases h:Wa (x.ev s f)with
    |error c=>exact .er (h1 c h)
    |ok p=>
      refine UK (fun _=>.ok _) fun _=>?_
      have h3:=Mr (Yo y s p.2 (hf y (by simp)))
      cases h4:Wa (y.ev s p.2)with
      |error c=>exact .er (h3 c h4)
      |ok q=>exact .ok _
theorem Eb:∀(l:List EX) (s:ScT) (f:Int),(∀x∈l,x.Fine)→l.length=3→Nz (Wn l s f)
  |[],s,f,hf,h2=>by simp at h2
  |[_],s,f,hf,h2=>by simp at h2
  |[_,_],s,f,hf,h2=>by simp at h2
  |x::y::z::_,s,f,hf,h2=>by
    have h1:=Mr (Yo x s f (hf x (by simp)))
    rw[Wn]
    cases h:Wa (x.ev s f)with
    |error c=>exact .er (h1 c h)
    |ok p=>exact UK (fun _=>Yo y s p.2 (hf y (by simp))) fun _=>Yo z s p.2 (hf z (by simp))
theorem Ea:∀(o:Int) (l:List EX) (s:ScT) (f:Int),(∀x∈l,x.Fine)→l.length=2→Nz (Yp o l s f)
  |o,[],s,f,hf,h2=>by simp at h2
  |o,[_],s,f,hf,h2=>by simp at h2
  |o,x::y::_,s,f,hf,h2=>by
    rw[Yp]
    exact Sx (fun it g=>Yo y {s with it} g (hf y (by simp))) (Yo x s f (hf x (by simp)))
end

end
section
/- Walks: the runner: what it reckons, what it sets. -/
set_option maxRecDepth 10000
set_option maxHeartbeats 4000000
theorem BN{s:ScT}{f:Int}:((s.st.cs false++s.ev.cs false++s.it.cs false++[AV.c (.int .i64 f)]).drop 0).take 15=s.cs:=by
  rw[List.drop_zero];exact List.take_left' (Mn s)
theorem Sm{e:EX}{s:ScT}{f:Int}{v:V}{g c:Int}(h:MA e s f=(v,g,c))(hc:¬c=0):e.ev s f=.error c:=by
  unfold MA at h
  cases he:e.ev s f with
  |error d=>rw[he]at h;rw[show d=c from(Prod.mk.inj (Prod.mk.inj h).2).2]
  |ok p=>rw[he]at h;exact absurd (Prod.mk.inj (Prod.mk.inj h).2).2.symm hc
theorem Bl{e:EX}{s:ScT}{f:Int}{v:V}{g:Int}(hn:∀c,e.ev s f=.error c→c≠0)(h:MA e s f=(v,g,0)):e.ev s f=.ok (v,g):=by
  unfold MA at h
  cases he:e.ev s f with
  |error d=>rw[he]at h;exact absurd (Prod.mk.inj (Prod.mk.inj h).2).2 (hn d he)
  |ok p=>obtain⟨v',g'⟩:=p;rw[he]at h;obtain⟨h1,h2⟩:=Prod.mk.inj h;obtain⟨h2,-⟩:=Prod.mk.inj h2;rw[h1,h2]
def EvS(r:ER V)(b:Nat)(s:ScT):Wl→List Own→Prop:=PanR (Xk r=0) (WT (Xk r)) fun x o=>∃v f',r=.ok (v,f')∧x=.agg (v.cs true)∧o=[mb b s f']
theorem EvS.ok{r:ER V}{b:Nat}{s:ScT}{v:V}{f':Int}(h:r=.ok (v,f')):EvS r b s (.ret (.agg (v.cs true))) [mb b s f']:=.inl ⟨by rw[h];rfl,_,rfl,v,f',h,rfl,rfl⟩
theorem EvS.er{r:ER V}{b:Nat}{s:ScT}{c:Int}(h:r=.error c)(hc:¬c=0):EvS r b s (.pan (.iface 47 (.int .i64 c))) []:=.inr ⟨by rw[h];exact hc,by rw[h];rfl,rfl⟩
def Yq(v:V):Bool×Int:=if v.kind≠1∨v.err≠0 then(false,81)else(v.bits==1,0)
theorem Pt{fr:Bool}{v:V}{ys:List AV}(hv:Vc fr v ys)(hw:v.wf):Fn Tryz.prog 180 [.agg ys] (.tup [.c (.bool (Yq v).1),.c (.int .i64 (Yq v).2)]):=by
  subst hv
  obtain⟨vk,vb,vt,vks,vis⟩:=v
  refine AC.of_J Tryz.func180 rfl Tryz.ntmps180 rfl fun w0 A0=>?_
  refine Zs (Qs (.r rfl) rfl fun b1=>Zq rfl (QW.assign .const) (Zq rfl (QW.assign .const) (Zn (J.seq (Zs (Zd UZ rfl (Zl 0 UA rfl (Zq rfl (QW.neq (.r rfl) .const) ?_))))))))
  refine Zm rfl (Zg rfl (fun hg=>(by first|exact Qe 0 Ql (.r rfl) rfl rfl rfl|exact Qe 0 Ql (.r rfl) rfl (Qo vl rfl) vl)) ?_)
  refine Zg rfl (fun hg=>(QW.call X5 (.cons (.when rfl hg) .nil) (Yl (v:=.mk vk vb vt vks vis) Vc.self hw))) (Zg rfl (fun hg=>(QW.neq (.when rfl hg) .const)) (Zq rfl (QW.pick_or (.r rfl) (.r rfl)) (Zn ?_)))
  refine J.cond (.r rfl) (fun c1=>?_) (fun c1=>?_)
  · skip
    have hb:vk≠1∨(V.mk vk vb vt vks vis).err≠0:=by(simp at c1;exact c1)
    exact Zs (Zq rfl (QW.assign .const) (Zq rfl (QW.assign .const) (Zn (J.ret (thenQ.r (Zr [.k] (Qt rfl (REv.tmp rfl lr) (REv.tmp rfl lr)) rfl ⟨by rw[show Yq (V.mk vk vb vt vks vis)=(false,81)from if_pos hb],rfl⟩))))))
  have hb:¬(vk≠1∨(V.mk vk vb vt vks vis).err≠0):=by(simp at c1;intro h;rcases h with h|h;exact h c1.1;exact h c1.2)
  exact Zk (Zs (Zd UE rfl (Zl 0 WQ rfl (Zq rfl (QW.eql (.r rfl) .const) (Za rfl (Zq rfl (QW.assign .const) (Zn (J.ret (Zr [.k] (Qt rfl (REv.tmp rfl lr) (REv.tmp rfl lr)) rfl ⟨by rw[show Yq (V.mk vk vb vt vks vis)=(vb==1,0)from if_neg hb,show(((vb:Nat):Int)==1)=(vb==1) by rw[Bool.eq_iff_iff];simp;omega],rfl⟩)))))))))

end
section
/- Templates ats plain data: cells, what may be, the tree of a state. -/
inductive TmT where
  |mk (what:Int) (tag:QN) (key ex:EX) (attrs:List SetT) (kids:List TmT)
def TmT.what:TmT→Int|.mk w _ _ _ _ _=>w
def TmT.tag:TmT→QN|.mk _ t _ _ _ _=>t
def TmT.key:TmT→EX|.mk _ _ k _ _ _=>k
def TmT.ex:TmT→EX|.mk _ _ _ x _ _=>x
def TmT.attrs:TmT→List SetT|.mk _ _ _ _ a _=>a
def TmT.kids:TmT→List TmT|.mk _ _ _ _ _ l=>l
def eTm:U7:=⟨12,184⟩
mutual
def TmT.cs(fr:Bool):TmT→List AV
  |.mk w t k x a l=>.c (.int .i64 w)::.c (Q4 t)::(k.cs fr++(x.cs fr++[.sl fr false eSe (SetT.css fr a),.sl fr false eTm (TmT.css fr l)]))
def TmT.css(fr:Bool):List TmT→List (List AV)
  |[]=>[]
  |v::r=>v.cs fr::TmT.css fr r
end
theorem TmT.css_eq(fr:Bool):∀l,TmT.css fr l=l.map (TmT.cs fr)
  |[]=>rfl
  |v::r=>by simp[TmT.css,TmT.css_eq fr r]
theorem TmT.css_length(fr:Bool)(l:List TmT):(TmT.css fr l).length=l.length:=by simp[TmT.css_eq]
theorem TmT.css_getE(fr:Bool){l:List TmT}{i:Nat}(h:i<l.length):(TmT.css fr l)[i]? =some (l[i].cs fr):=by simp[TmT.css_eq,h]
theorem TmT.css_append(fr:Bool)(a b:List TmT):TmT.css fr (a++b)=TmT.css fr a++TmT.css fr b:=by simp[TmT.css_eq]
theorem TmT.cs_length(fr:Bool)(v:TmT):(v.cs fr).length=12:=by obtain⟨w,t,k,x,a,l⟩:=v;simp[TmT.cs,EX.cs_length]
theorem TmT.css_sz(fr:Bool)(l:List TmT):∀x∈TmT.css fr l,x.length=eTm.sz:=by
  intro x hx
  rw[TmT.css_eq]at hx
  obtain⟨v,_,rfl⟩:=List.mem_map.1 hx
  exact TmT.cs_length fr v
theorem TmT.at0{fr:Bool}{v:TmT}:(v.cs fr)[0]? =some (.c (.int .i64 v.what)):=by cases v;rfl
theorem TmT.at1{fr:Bool}{v:TmT}:(v.cs fr)[1]? =some (.c (Q4 v.tag)):=by cases v;rfl
theorem Lw{fr:Bool}{v:TmT}:((v.cs fr).drop 2).take 4=v.key.cs fr:=by obtain⟨w,t,⟨a,b,c,d⟩,x,ats,l⟩:=v;rfl
theorem G7{fr:Bool}{v:TmT}:((v.cs fr).drop 6).take 4=v.ex.cs fr:=by obtain⟨w,t,⟨a,b,c,d⟩,⟨a2,b2,c2,d2⟩,ats,l⟩:=v;rfl
theorem YJ{fr:Bool}{v:TmT}:(v.cs fr)[10]? =some (.sl fr false eSe (SetT.css fr v.attrs)):=by obtain⟨w,t,⟨a,b,c,d⟩,⟨a2,b2,c2,d2⟩,ats,l⟩:=v;rfl
theorem YI{fr:Bool}{v:TmT}:(v.cs fr)[11]? =some (.sl fr false eTm (TmT.css fr v.kids)):=by obtain⟨w,t,⟨a,b,c,d⟩,⟨a2,b2,c2,d2⟩,ats,l⟩:=v;rfl
inductive TmT.wf:TmT→Prop
  |mk {w:Int} {t:QN} {k x:EX} {a:List SetT} {l:List TmT} (h0: -9223372036854775808≤w∧w≤9223372036854775807) (h1:t.length≤Qr) (h2:k.wf) (h3:x.wf) (h4:a.length*72≤Qr) (h5:∀x∈a,SetT.wf x) (h6:l.length*184≤Qr) (h7:∀x∈l,TmT.wf x):TmT.wf (.mk w t k x a l)
theorem TmT.wf.inv{w:Int}{t:QN}{k x:EX}{a:List SetT}{l:List TmT}(h:TmT.wf (.mk w t k x a l)):
    (-9223372036854775808≤w∧w≤9223372036854775807)∧t.length≤Qr∧k.wf∧x.wf∧a.length*72≤Qr∧(∀x∈a,SetT.wf x)∧l.length*184≤Qr∧∀x∈l,TmT.wf x:=by
  cases h with|mk h0 h1 h2 h3 h4 h5 h6 h7=>exact⟨h0,h1,h2,h3,h4,h5,h6,h7⟩
mutual
def TmT.sz:TmT→Nat
  |.mk _ _ _ _ _ l=>1+TmT.szs l
def TmT.szs:List TmT→Nat
  |[]=>0
  |x::r=>x.sz+TmT.szs r
end
theorem TmT.sz_pos(v:TmT):1≤v.sz:=by cases v;unfold TmT.sz;omega
theorem TmT.szs_mem:∀{l:List TmT} {x:TmT},x∈l→x.sz≤TmT.szs l
  |y::r,x,h=>by
    unfold TmT.szs
    rcases List.mem_cons.1 h with rfl|h
    · omega
    · have:=TmT.szs_mem h;omega
theorem TmT.sz_get{w:Int}{t:QN}{k x:EX}{a:List SetT}{l:List TmT}{j n:Nat}(h:(TmT.mk w t k x a l).sz≤n+1)(hj:j<l.length):l[j].sz≤n:=by
  have:=TmT.szs_mem (List.getElem_mem hj)
  unfold TmT.sz at h;omega
/-! what may be -/
def EX.none(e:EX):Bool:=e.same .nil
def XE:List QN→Bool
  |[]=>true
  |k::r=>!r.contains k&&XE r
def TmT.partOk:TmT→Bool
  |.mk w t k x a l=>
    if w=1 then Uq t&&x.none&&(a.map SetT.key).all Uq&&XE (a.map SetT.key)
    else if w=2 then t==[]&&k.none&&a.length==0&&l.length==0
    else if w=3∨w=4 then t==[]&&k.none&&a.length==0
    else false
def TmT.exE:TmT→Int
  |.mk _ _ k x a _=>Hw (k.err::x.err::a.map fun s=>s.ex.err)
def TmT.ownE(t:TmT)(level n:Int):Int:=
  if 8<level then 10 else if 64≤n∨16<t.attrs.length∨16<t.kids.length then 3 else if t.partOk=false then 9 else t.exE
mutual
def TmT.walk:TmT→Int→Int→Int×Int
  |.mk w t k x a l,level,n=>
    if(TmT.mk w t k x a l).ownE level n≠0 then(n,(TmT.mk w t k x a l).ownE level n)else TmT.walks l (level+1) (n+1)
def TmT.walks:List TmT→Int→Int→Int×Int
  |[],_,n=>(n,0)
  |x::r,level,n=>if(x.walk level n).2≠0 then x.walk level n else TmT.walks r level (x.walk level n).1
end
def TmT.err(t:TmT):Int:=if t.what≠1 then 9 else(t.walk 1 0).2
/-! the tree of a state -/
def MW:QN:=[116,114,117,101]
def Hk:QN:=[102,97,108,115,101]
def Km(v:V):QN×Int:=
  if v.kind=0 then([],0)else if v.kind=1 then(if v.bits=1 then MW else Hk,0)
  else if v.kind=2 then(if YG v.bits=0 then(Ht (YP v.bits),0)else([],81))else if v.kind=3 then(v.text,0)else([],81)
def Xm(v:V):QN×Int:=if v.err≠0 then([],v.err)else Km v
def W9(r:ER V):ER QN:=UV r fun v f=>if(Xm v).2=0 then .ok ((Xm v).1,f)else .error (Xm v).2
def MI(a:AtT):List AtT→List AtT
  |[]=>[a]
  |b::r=>if Op.bytesLess b.name a.name then b::MI a r else a::b::r
def HN(l:List AtT):List AtT:=l.foldl (fun acc a=>MI a acc) []
def Xl(s:ScT):List SetT→Int→ER (List AtT)
  |[],f=>.ok ([],f)
  |x::r,f=>UV (W9 (x.ex.ev s f)) fun w f1=>UV (Xl s r f1) fun l f2=>.ok (⟨x.key,w⟩::l,f2)
def YW(t:QN)(k:EX)(a:List SetT)(g:ScT→Int→ER (List TrT))(s:ScT)(f:Int):ER TrT:=
  UV (W9 (k.ev s f)) fun key f1=>if 16<key.length then .error 5 else UV (Xl s a f1) fun ats f2=>UV (g s f2) fun ks f3=>.ok (.mk t key [] (HN ats) ks,f3)
def WO(g:V→Int→ER (List TrT)):List V→Int→ER (List TrT)
  |[],f=>.ok ([],f)
  |x::r,f=>UV (g x f) fun a f1=>UV (WO g r f1) fun b f2=>.ok (a++b,f2)
def TrT.txt(w:QN):TrT:=.mk [] [] w [] []
mutual
def TmT.partE:TmT→ScT→Int→ER (List TrT)
  |.mk w t k x a l,s,f=>
    if w=1 then UV (YW t k a (fun s f=>QK l s f) s f) fun y f1=>.ok ([y],f1)
    else if w=2 then UV (W9 (x.ev s f)) fun y f1=>.ok ([.txt y],f1)
    else UV (x.ev s f) fun v f1=>
      if w=3 then(if(Yq v).2≠0 then .error (Yq v).2 else if(Yq v).1 then QK l s f1 else .ok ([],f1))
      else if v.kind=4 then WO (fun y f=>QK l {s with it:=y} f) v.items f1
      else .error 81
def QK:List TmT→ScT→Int→ER (List TrT)
  |[],_,f=>.ok ([],f)
  |x::r,s,f=>UV (x.partE s f) fun a f1=>UV (QK r s f1) fun b f2=>.ok (a++b,f2)
end
def TmT.elE:TmT→ScT→Int→ER TrT
  |.mk _ t k _ a l,s,f=>YW t k a (QK l) s f
def TmT.treeT(t:TmT)(st:V)(f:Int):TrT×Int:=match t.elE ⟨st,.nil,.nil⟩ f with
  |.error c=>(.nil,c)
  |.ok (x,_)=>if x.err≠0 then(.nil,x.err)else(x,0)
def TmT.renT(t:TmT)(st:V)(f:Int):TrT×Int:=
  if t.err≠0 then(.nil,t.err)else if st.err≠0 then(.nil,st.err)else if f<0∨4096<f then(.nil,4)else t.treeT st f
/-! more fuel changes nothing but what is left -/

end
section
/- What a template that may be makes: words, trees; errors are never 0; the order of attributes. -/
/-! parts that may be -/
inductive TmT.Fine:TmT→Prop
  |mk {w:Int} {t:QN} {k x:EX} {a:List SetT} {l:List TmT} (hp:(TmT.mk w t k x a l).partOk=true) (ha:a.length≤16) (hl:l.length≤16) (hk:k.Fine) (hx:x.Fine) (hs:∀s∈a,s.ex.Fine) (hf:∀y∈l,TmT.Fine y):TmT.Fine (.mk w t k x a l)
theorem TmT.Fine.inv{w:Int}{t:QN}{k x:EX}{a:List SetT}{l:List TmT}(h:TmT.Fine (.mk w t k x a l)):(TmT.mk w t k x a l).partOk=true∧a.length≤16∧l.length≤16∧k.Fine∧x.Fine∧(∀s∈a,s.ex.Fine)∧∀y∈l,y.Fine:=by
  cases h with|mk h1 h2 h3 h4 h5 h6 h7=>exact⟨h1,h2,h3,h4,h5,h6,h7⟩
theorem RT{w:Int}{t:QN}{k x:EX}{a:List SetT}{l:List TmT}{level n:Int}(h:(TmT.mk w t k x a l).ownE level n=0):level≤8∧n<64∧(TmT.mk w t k x a l).partOk=true∧a.length≤16∧l.length≤16∧k.err=0∧x.err=0∧∀s∈a,s.ex.err=0:=by
  unfold TmT.ownE at h
  split at h
  · cases h
  · split at h
    · cases h
    · rename_i h1 h2
      simp only[TmT.attrs,TmT.kids]at h2
      split at h
      · cases h
      · rename_i h3
        have hz:=Pf (show Hw (k.err::x.err::a.map fun s=>s.ex.err)=0 from h)
        exact⟨by omega,by omega,by simpa using h3,by omega,by omega,hz _ (by simp),hz _ (by simp),fun s hs=>hz _ (by simp only[List.mem_cons,List.mem_map];exact .inr (.inr ⟨s,hs,rfl⟩))⟩
mutual
theorem K9:∀(t:TmT) (level n:Int),(t.walk level n).2=0→t.Fine
  |.mk w t k x a l,level,n,h=>by
    unfold TmT.walk at h
    split at h
    · rename_i h1;exact absurd h h1
    · rename_i h1
      obtain⟨-,-,h2,h3,h4,h5,h6,h7⟩:=RT (Decidable.not_not.1 h1)
      exact .mk h2 h3 h4 (EX.fine_of h5) (EX.fine_of h6) (fun s hs=>EX.fine_of (h7 s hs)) (KI l _ _ h)
theorem KI:∀(l:List TmT) (level n:Int),(TmT.walks l level n).2=0→∀y∈l,y.Fine
  |[],_,_,_,y,hy=>by cases hy
  |x::r,level,n,h,y,hy=>by
    unfold TmT.walks at h
    split at h
    · rename_i h1;exact absurd h h1
    · rename_i h1
      rcases List.mem_cons.1 hy with hy|hy
      · rw[hy];exact K9 x level n (Decidable.not_not.1 h1)
      · exact KI r _ _ h y hy
end
theorem TmT.fine_of{t:TmT}(h:t.err=0):t.Fine:=by
  unfold TmT.err at h
  split at h
  · cases h
  · exact K9 t 1 0 h
theorem TH{t:TmT}(h:t.err=0):t.what=1:=by
  unfold TmT.err at h
  split at h
  · cases h
  · rename_i h1;exact Decidable.not_not.1 h1
theorem Rg{t:QN}{k x:EX}{a:List SetT}{l:List TmT}(h:TmT.Fine (.mk 1 t k x a l)):Uq t=true∧x.none=true∧(∀s∈a,Uq s.key=true)∧XE (a.map SetT.key)=true:=by
  obtain⟨h1,-⟩:=h.inv
  simp only[TmT.partOk,if_true,Bool.and_eq_true,List.all_eq_true,List.mem_map,forall_exists_index,and_imp,forall_apply_eq_imp_iff₂]at h1
  exact⟨h1.1.1.1,h1.1.1.2,h1.1.2,h1.2⟩
/-! words -/
theorem Dc{n:Nat}(h:n≤9007199254740992):(Gm n).length≤16:=LT 15 n (by omega)
theorem B4{n:Int}(h: -9007199254740992≤n∧n≤9007199254740992):(Ht n).length≤17:=by
  unfold Ht
  have:=Dc (n:=n.natAbs) (by omega)
  split
  · simp;omega
  · omega
theorem V.good.text{v:V}(h:v.good)(hk:v.kind=3):v.text.length≤128:=by
  have:=h.fine.part
  obtain⟨k,b,t,ks,is⟩:=v
  obtain rfl:k=3:=hk
  simp[Uc]at this
  exact this.1.1.2
theorem FT{v:V}(h:v.good):(Km v).1.length≤128:=by
  unfold Km
  split
  · simp
  · split
    · show(if v.bits=1 then MW else Hk).length≤128
      split<;>decide
    · split
      · split
        · rename_i hi
          have:=B4 (Xs v.bits hi)
          show(Ht (YP v.bits)).length≤128
          omega
        · simp
      · split
        · rename_i hk;exact h.text hk
        · simp
theorem LB{v:V}(h:v.good):Xm v=Km v:=if_neg (fun h2=>h2 h.err)
theorem OkE.fuel{r:ER V}{f d:Int}(h:OkE f d r){v:V}{f':Int}(hr:r=.ok (v,f')):v.good∧f'≤f-d∧0≤f':=h v f' hr
theorem Wc{α β:Type}{r:ER α}{k:α→Int→ER β}{x:β×Int}(h:UV r k=.ok x):∃v f,r=.ok (v,f)∧k v f=.ok x:=by
  unfold UV at h
  cases r with
  |error c=>cases h
  |ok p=>obtain⟨v,f⟩:=p;exact⟨v,f,rfl,h⟩
theorem FU{r:ER V}{w:QN}{f:Int}(h:W9 r=.ok (w,f)):∃v,r=.ok (v,f)∧w=(Xm v).1∧(Xm v).2=0:=by
  obtain⟨v,f1,h1,h2⟩:=Wc h
  split at h2
  · rename_i h3;cases h2;exact⟨v,h1,rfl,h3⟩
  · cases h2
theorem XH{e:EX}{s:ScT}{f f':Int}{w:QN}(hf:e.Fine)(hw:e.wf)(hs:s.good)(h:W9 (e.ev s f)=.ok (w,f')):w.length≤128∧f'≤f-1∧0≤f':=by
  obtain⟨v,h1,rfl,h2⟩:=FU h
  obtain⟨g1,g2,g3⟩:=(UL e s f hf hw hs).fuel h1
  rw[LB g1]
  exact⟨FT g1,g2,g3⟩
theorem Ma{s:ScT}(hs:s.good):∀{a:List SetT} {f f':Int} {l:List AtT},(∀x∈a,x.ex.Fine)→(∀x∈a,x.wf)→0≤f→Xl s a f=.ok (l,f')→l.map AtT.name=a.map SetT.key∧(∀x∈l,x.value.length≤128)∧f'≤f∧0≤f'
  |[],f,f',l,_,_,h0,h=>by rw[Xl]at h;cases h;exact⟨rfl,(fun _ h=>by cases h),Int.le_refl _,h0⟩
  |x::r,f,f',l,hf,hw,h0,h=>by
    rw[Xl]at h
    obtain⟨w,f1,h1,h⟩:=Wc h
    obtain⟨b,f2,h2,h⟩:=Wc h
    cases h
    obtain⟨g1,g2,g3⟩:=XH (hf x (by simp)) (hw x (by simp)).ex hs h1
    obtain⟨k1,k2,k3,k4⟩:=Ma hs (fun y hy=>hf y (by simp[hy])) (fun y hy=>hw y (by simp[hy])) g3 h2
    exact⟨by simp[k1],fun y hy=>by rcases List.mem_cons.1 hy with rfl|hy;exact g1;exact k2 y hy,by omega,k4⟩
/-! the order of attributes -/
theorem Hu(a:AtT):∀l,(MI a l).Perm (a::l)
  |[]=>.refl _
  |b::r=>by
    unfold MI
    split
    · exact((Hu a r).cons b).trans (List.Perm.swap a b r)
    · exact .refl _
theorem L1:∀(l acc:List AtT),(l.foldl (fun acc a=>MI a acc) acc).Perm (l++acc)
  |[],acc=>.refl _
  |a::r,acc=>(L1 r (MI a acc)).trans (((Hu a acc).append_left r).trans List.perm_middle)
theorem Gh(l:List AtT):(HN l).Perm l:=by have:=L1 l [];rwa [List.append_nil]at this
theorem GD(l:List AtT):(HN l).length=l.length:=(Gh l).length_eq
def FR(l:List AtT):Prop:=l.Pairwise fun a b=>Op.bytesLess b.name a.name=false
theorem Tc{a:AtT}:∀{l:List AtT},FR l→FR (MI a l)
  |[],_=>by simp[MI,FR]
  |b::r,h=>by
    obtain⟨h1,h2⟩:=List.pairwise_cons.1 h
    unfold MI
    split
    · rename_i hb
      refine List.pairwise_cons.2 ⟨fun c hc=>?_,Tc h2⟩
      rcases List.mem_cons.1 ((Hu a r).mem_iff.1 hc)with rfl|hc
      · exact C5 hb
      · exact h1 c hc
    · rename_i hb
      have hb:Op.bytesLess b.name a.name=false:=by simpa using hb
      refine List.pairwise_cons.2 ⟨fun c hc=>?_,h⟩
      rcases List.mem_cons.1 hc with rfl|hc
      · exact hb
      · have h3:=h1 c hc
        cases h4:Op.bytesLess c.name a.name with
        |false=>rfl
        |true=>
          rcases GL b.name c.name with k|k|k
          · rw[W3 k h4]at hb;cases hb
          · rw[k,h4]at hb;cases hb
          · rw[h3]at k;cases k
theorem Nd:∀(l acc:List AtT),FR acc→FR (l.foldl (fun acc a=>MI a acc) acc)
  |[],acc,h=>h
  |a::r,acc,h=>Nd r _ (Tc h)
theorem CI(l:List AtT):FR (HN l):=Nd l [] List.Pairwise.nil
theorem X1:∀{l:List QN},XE l=true↔l.Nodup
  |[]=>by simp[XE]
  |k::r=>by simp[XE,X1 (l:=r)]
theorem LR{l:List QN}:l.Nodup↔∀i (h:i<l.length),l[i]∉l.take i:=by
  unfold List.Nodup
  rw[List.pairwise_iff_getElem]
  constructor
  · intro h i hi hm
    obtain⟨j,hj,e⟩:=List.mem_take_iff_getElem.1 hm
    exact h j i (by omega) hi (by omega) e
  · intro h i j hi hj hij e
    exact h j hj (List.mem_take_iff_getElem.2 ⟨i,by omega,e⟩)
theorem CX{l:List QN}{i:Nat}(hi:i<l.length)(h:(l.take i).contains l[i]=true):XE l=false:=by
  rw[Bool.eq_false_iff]
  intro hc
  exact LR.1 (X1.1 hc) i hi (by simpa using h)
theorem T9{l:List QN}(h:∀i (hi:i<l.length),(l.take i).contains l[i]=false):XE l=true:=
  X1.2 (LR.2 fun i hi hm=>by have:=h i hi;simp at this;exact this hm)
theorem LE:∀{a b:List AtT},a.Perm b→(a.map AtT.name).Nodup→FR a→FR b→a=b
  |[],b,h,_,_,_=>(List.nil_perm.1 h).symm
  |x::r,[],h,_,_,_=>by have:=h.length_eq;simp at this
  |x::r,y::s,h,hn,ha,hb=>by
    obtain⟨h1,h2⟩:=List.pairwise_cons.1 ha
    obtain⟨h3,h4⟩:=List.pairwise_cons.1 hb
    have hxy:x=y:=by
      rcases List.mem_cons.1 (h.mem_iff.1 (List.mem_cons_self (a:=x) (l:=r)))with e|hx
      · exact e
      · rcases List.mem_cons.1 (h.mem_iff.2 (List.mem_cons_self (a:=y) (l:=s)))with e|hy
        · exact e.symm
        · have k1:=h1 y hy
          have k2:=h3 x hx
          have hne:¬x.name=y.name:=fun e=>(List.nodup_cons.1 hn).1 (List.mem_map.2 ⟨y,hy,e.symm⟩)
          rcases GL x.name y.name with k|k|k
          · rw[k2]at k;cases k
          · exact absurd k hne
          · rw[k1]at k;cases k
    subst hxy
    rw[LE (List.Perm.cons_inv h) (List.nodup_cons.1 hn).2 h2 h4]
theorem NH{a b:List AtT}(h:a.Perm b)(hn:(a.map AtT.name).Nodup)(hb:FR b):b=HN a:=
  (LE (h.symm.trans (Gh a).symm) ((h.map _).nodup_iff.1 hn) hb (CI a))
/-! trees that fit -/
theorem HV{s:QN}(h:Uq s=true):1≤s.length∧s.length≤16:=by
  simp only[Uq,Bool.and_eq_true,decide_eq_true_eq]at h;exact h.1
theorem Bf{l:List AtT}{a:List SetT}(hn:l.map AtT.name=a.map SetT.key)(hl:∀s∈a,Uq s.key=true)(hv:∀x∈l,x.value.length≤128):∀x∈HN l,AtT.wf x:=fun x hx=>by
  have hm:=(Gh l).mem_iff.1 hx
  obtain⟨s,hs,e⟩:=List.mem_map.1 (hn▸List.mem_map.2 ⟨x,hm,rfl⟩)
  have h1:=(HV (hl s hs)).2
  have h2:=hv x hm
  exact⟨by rw[← e];unfold Qr;omega,by unfold Qr;omega⟩
def OkT(f:Int)(r:ER (List TrT)):Prop:=∀l f',r=.ok (l,f')→(∀x∈l,x.wf)∧(l.length:Int)+f'≤f∧0≤f'
theorem Nh{t:QN}{k:EX}{a:List SetT}{g:ScT→Int→ER (List TrT)}{s:ScT}{f f':Int}{y:TrT}(hs:s.good)(h0:f≤4096)(ht:Uq t=true)(hk:k.Fine∧k.wf)(ha:a.length≤16)(haf:∀x∈a,x.ex.Fine)(haw:∀x∈a,x.wf)(hal:∀x∈a,Uq x.key=true)
    (hg:∀f,0≤f→f≤4096→OkT f (g s f)) (h:YW t k a g s f=.ok (y,f')):y.wf∧1+f'≤f∧0≤f':=by
  obtain⟨key,f1,h1,h⟩:=Wc h
  obtain⟨g1,g2,g3⟩:=XH hk.1 hk.2 hs h1
  split at h
  · cases h
  · obtain⟨l,f2,h2,h⟩:=Wc h
    obtain⟨ks,f3,h3,h⟩:=Wc h
    cases h
    obtain⟨k1,k2,k3,k4⟩:=Ma hs haf haw g3 h2
    obtain⟨j1,j2,j3⟩:=hg f2 k4 (by omega) ks f' h3
    have hlen:l.length=a.length:=by have:=congrArg List.length k1;simpa using this
    have htl:=(HV ht).2
    exact⟨.mk (by unfold Qr;omega) (by unfold Qr;omega) (by decide) (by rw[GD];unfold Qr;omega) (Bf k1 hal k2) (by unfold Qr;omega) j1,by omega,j3⟩
theorem Ni{g:V→Int→ER (List TrT)}:∀{l:List V} {f:Int},(∀x∈l,∀f,0≤f→f≤4096→OkT f (g x f))→0≤f→f≤4096→OkT f (WO g l f)
  |[],f,_,h0,_,l,f',h=>by rw[WO]at h;cases h;exact⟨(fun _ h=>by cases h),by simp,h0⟩
  |x::r,f,hg,h0,h1,l,f',h=>by
    rw[WO]at h
    obtain⟨a,f1,h2,h⟩:=Wc h
    obtain⟨b,f2,h3,h⟩:=Wc h
    cases h
    obtain⟨g1,g2,g3⟩:=hg x (by simp) f h0 h1 a f1 h2
    obtain⟨k1,k2,k3⟩:=Ni (fun y hy=>hg y (by simp[hy])) g3 (by omega) b f' h3
    exact⟨fun y hy=>(List.mem_append.1 hy).elim (g1 y) (k1 y),by simp;omega,k3⟩
theorem F1{w:QN}(h:w.length≤128):(TrT.txt w).wf:=.mk (by decide) (by decide) (by unfold Qr;omega) (by decide) (fun _ h=>by cases h) (by decide) (fun _ h=>by cases h)
theorem ScT.good.item{s:ScT}(h:s.good){y:V}(hy:y.good):ScT.good {s with it:=y}:=⟨h.st,h.ev,hy⟩
mutual
theorem Ga:∀(t:TmT) {s:ScT} {f:Int},t.Fine→t.wf→s.good→0≤f→f≤4096→OkT f (t.partE s f)
  |.mk w t k x a l,s,f,hf,hw,hs,h0,h1,r,f',h=>by
    obtain⟨hp,ha,hl,hk,hx,haf,hlf⟩:=hf.inv
    obtain⟨-,-,hkw,hxw,-,haw,-,hlw⟩:=hw.inv
    rw[TmT.partE]at h
    split at h
    · rename_i hw1
      subst hw1
      obtain⟨y,f1,h2,h⟩:=Wc h
      cases h
      obtain⟨e1,-,e3,-⟩:=Rg hf
      obtain⟨g1,g2,g3⟩:=Nh hs h1 e1 ⟨hk,hkw⟩ ha haf haw e3 (fun f hf0 hf1=>Ws l hlf hlw hs hf0 hf1) h2
      exact⟨fun z hz=>by rw[List.mem_singleton.1 hz];exact g1,by simp;omega,g3⟩
    · split at h
      · obtain⟨y,f1,h2,h⟩:=Wc h
        cases h
        obtain⟨g1,g2,g3⟩:=XH hx hxw hs h2
        exact⟨fun z hz=>by rw[List.mem_singleton.1 hz];exact F1 g1,by simp;omega,g3⟩
      · obtain⟨v,f1,h2,h⟩:=Wc h
        obtain⟨g1,g2,g3⟩:=(UL x s f hx hxw hs).fuel h2
        split at h
        · split at h
          · cases h
          · split at h
            · obtain⟨k1,k2,k3⟩:=Ws l hlf hlw hs g3 (by omega) r f' h
              exact⟨k1,by omega,k3⟩
            · cases h;exact⟨(fun _ h=>by cases h),by simp;omega,g3⟩
        · split at h
          · obtain⟨k1,k2,k3⟩:=Ni (fun y hy f hf0 hf1=>Ws l hlf hlw (hs.item (g1.kid hy)) hf0 hf1) g3 (by omega) r f' h
            exact⟨k1,by omega,k3⟩
          · cases h
theorem Ws:∀(l:List TmT) {s:ScT} {f:Int},(∀y∈l,y.Fine)→(∀y∈l,y.wf)→s.good→0≤f→f≤4096→OkT f (QK l s f)
  |[],s,f,_,_,_,h0,_,r,f',h=>by rw[QK]at h;cases h;exact⟨(fun _ h=>by cases h),by simp,h0⟩
  |x::q,s,f,hf,hw,hs,h0,h1,r,f',h=>by
    rw[QK]at h
    obtain⟨a,f1,h2,h⟩:=Wc h
    obtain⟨b,f2,h3,h⟩:=Wc h
    cases h
    obtain⟨g1,g2,g3⟩:=Ga x (hf x (by simp)) (hw x (by simp)) hs h0 h1 a f1 h2
    obtain⟨k1,k2,k3⟩:=Ws q (fun y hy=>hf y (by simp[hy])) (fun y hy=>hw y (by simp[hy])) hs g3 (by omega) b f' h3
    exact⟨fun y hy=>(List.mem_append.1 hy).elim (g1 y) (k1 y),by simp;omega,k3⟩
end
/-! errors are never 0 -/
theorem TI{t:TmT}{s:ScT}{f f':Int}{y:TrT}(hf:t.Fine)(hw:t.wf)(h1:t.what=1)(hs:s.good)(hf1:f≤4096)(h:t.elE s f=.ok (y,f')):y.wf∧1+f'≤f∧0≤f':=by
  obtain⟨w,t,k,x,a,l⟩:=t
  obtain rfl:w=1:=h1
  obtain⟨hp,ha,hl,hk,hx,haf,hlf⟩:=hf.inv
  obtain⟨-,-,hkw,hxw,-,haw,-,hlw⟩:=hw.inv
  obtain⟨e1,-,e3,-⟩:=Rg hf
  exact Nh hs hf1 e1 ⟨hk,hkw⟩ ha haf haw e3 (fun f hf0 hf1=>Ws l hlf hlw hs hf0 hf1) h

end
section
/- A drawn region that reads a variable and sets it at its end. -/
section
variable {P:Program} {E:Wy} {Q:Exit→St→Prop} {n:Nat} {env:List (Nat×AV)} {own:List Own} {F:List (Value×AV)} {D:List Deferred} {ops:Array Oper}
theorem JX.last{S:List Nat}{Φ:List Flt}(i:Nat){o:Oper}(ho:ops[i]? =some o)(hbk:Xi 0 ops.toList=true)(hblk:blkB ops.toList S (Φ.map (·.i)) i=true)(hS:memB i S=false)(hΦ:memB i (Φ.map (·.i))=false)
    (hlnd:R5 ops.toList o [] (Φ.map (·.i))=true) (hall:((List.range ops.size).all fun j=>Nat.beq j i||memB j S||memB j (Φ.map (·.i)))=true)
    (h:∀bs,JL P E ops [o] ⟨n,Ug bs Φ++env,own++Uo bs Φ,F,D⟩ (thenQ (fun s=>Q .normal s) Q)):JX P E ops S Φ ⟨n,env,own,F,D⟩ Q:=fun hw hF=>by
  have hlt:i<ops.size:=(Array.getElem?_eq_some_iff.1 ho).1
  intro fuel
  induction fuel with
  |zero=>
    intro L bs A a w hc hcf
    exfalso
    have hi:L.getD i true=false:=by
      rw[Uh (by rw[hcf.size];exact hlt)]
      exact hcf.no i (fun h=>by rw[Q5.2 h]at hS;cases hS) fun φ hφ he=>by rw[Q5.2 (List.mem_map.2 ⟨φ,hφ,he⟩)]at hΦ;cases hΦ
    have:=List.countP_eq_zero.1 (Nat.le_zero.1 hc) i (by simpa using hlt)
    simp[hi]at this
  |succ fuel ih=>
    intro L bs A a w hc hcf
    have hundone:L.getD i false=false:=hcf.no i (fun h=>by rw[Q5.2 h]at hS;cases hS) fun φ hφ he=>by rw[Q5.2 (List.mem_map.2 ⟨φ,hφ,he⟩)]at hΦ;cases hΦ
    refine⟨fun hr=>?_,fun j hj=>?_⟩
    · exfalso
      have key:∀j,j<ops.size→L.getD j false=true:=by
        intro j
        induction j using Nat.strongRecOn with
        |_ j ihj=>
          intro hjl
          cases hL:L.getD j false with
          |true=>rfl
          |false=>
            exfalso
            obtain⟨oj,hoj⟩:∃oj,ops[j]? =some oj:=⟨_,Array.getElem?_eq_getElem hjl⟩
            have:j∈Region.ready .any ops L:=Yr hcf.size hoj (by rw[Uh (by rw[hcf.size];exact hjl)];exact hL) fun e he hb=>by
              have hon:=Ym hbk (i:=j) (o:=oj) (by simpa using hoj) e he hb
              exact ihj e.on (by omega) (by omega)
            rw[hr]at this
            cases this
      rw[key i hlt]at hundone;cases hundone
    · obtain⟨hjl,oj,hoj,hunj,hdeps⟩:=Wb hj
      have hunj':L.getD j false=false:=by rw[← Uh (by rw[hcf.size];exact hjl)];exact hunj
      by_cases hjΦ:∃φ∈Φ,φ.i=j
      · obtain⟨φ,hφ,rfl⟩:=hjΦ
        exact hcf.run hw hF hφ hunj' hjl (fun o' ho'=>by rw[hoj]at ho';cases ho';exact hdeps) fun bs' A' a' w' hcf'=>ih _ bs' A' a' w' (KW hcf.size hjl hunj hc) hcf'
      · have hji:j=i:=by
          by_cases he:j=i
          · exact he
          · exfalso
            have h1:=List.all_eq_true.1 hall j (by simpa using hjl)
            have h2:memB j S=false:=by
              cases hb:memB j S with
              |false=>rfl
              |true=>rw[hcf.yes j (Q5.1 hb)]at hunj';cases hunj'
            have h3:memB j (Φ.map (·.i))=false:=by
              cases hb:memB j (Φ.map (·.i))with
              |false=>rfl
              |true=>
                obtain⟨φ,hφ,hφi⟩:=List.mem_map.1 (Q5.1 hb)
                exact absurd ⟨φ,hφ,hφi⟩ hjΦ
            have h4:Nat.beq j i=false:=by
              cases hb:Nat.beq j i with
              |false=>rfl
              |true=>exact absurd (Nat.eq_of_beq_eq_true hb) he
            rw[h2,h3,h4]at h1
            simp at h1
        subst hji
        rw[ho]at hoj;cases hoj
        have hland:∀φ∈Φ,L.getD φ.i false=true:=fun φ hφ=>KQ hcf.clo hdeps _ _ (fun o' h=>by cases h) hlnd φ.i (List.mem_map.2 ⟨φ,hφ,rfl⟩)
        have hdn:∀z,z<ops.size→z≠j→L.getD z false=true:=fun z hz hne=>by
          have h1:=List.all_eq_true.1 hall z (by simpa using hz)
          rw[Bool.or_eq_true,Bool.or_eq_true]at h1
          rcases h1 with (h1|h1)|h1
          · exact absurd (Nat.eq_of_beq_eq_true h1) hne
          · exact hcf.yes z (Q5.1 h1)
          · obtain⟨φ,hφ,rfl⟩:=List.mem_map.1 (Q5.1 h1)
            exact hland φ hφ
        have hsat0:SatA E A ⟨n,Ug bs Φ++env,own++Uo bs Φ,F,D⟩ a w:=by
          have h1:=hcf.sat
          rw[KG hland]at h1
          refine⟨h1.size,h1.defers,h1.keep,h1.hp,fun s x hl=>?_,h1.facts⟩
          rcases Gp hl with ⟨φ,hφ,rfl,rfl⟩|hl
          · exact hcf.val φ hφ (hland φ hφ)
          · exact hcf.sat.env s x hl
        have hl:=h bs a w ⟨A,hsat0⟩
        have hK:∀a' w',wpListIn (XG E.rd) 0 P ops (Wh E (thenQ (fun s=>Q .normal s) Q)) [] a' w'→wpAnyIn (XG E.rd) 0 P .any ops (Wh E Q) fuel (L.setIfInBounds j true) a' w':=by
          intro a' w' hq
          have hq':Wh E Q .normal a' w':=hq
          have hnil:Region.ready .any ops (L.setIfInBounds j true)=[]:=by
            rw[List.eq_nil_iff_forall_not_mem]
            intro z hz
            obtain⟨hzl,oz,hoz,hun,_⟩:=Wb hz
            have hlts:j<L.size:=by rw[hcf.size];exact hlt
            rw[Uh (by simpa[hcf.size]using hzl),Uk _ _ _ hlts]at hun
            by_cases hzj:z=j
            · rw[if_pos hzj]at hun;cases hun
            · rw[if_neg hzj,hdn z hzl hzj]at hun;cases hun
          cases fuel with
          |zero=>exact⟨hnil,hq'⟩
          |succ fuel=>exact⟨fun _=>hq',fun z hz=>by rw[hnil]at hz;cases hz⟩
        unfold wpOpIn
        simp only[ho]
        unfold wpListIn at hl
        split
        · rename_i hw'
          rw[if_pos hw']at hl
          exact W1 (fun ch a w h=>Hq (by intro h;cases h) h) (fun h=>by first|exact fun a w=>Hq (by intro h;cases h) (h a w)|exact h) (Oper.wpIn_mono hK hl)
        · rename_i hw'
          rw[if_neg hw']at hl
          exact⟨hl.1,hK _ _ hl.2⟩
theorem FN(kp:List Nat){id:Nat}{l:List Oper}(hm:P.follows .mixedOrders=true)(h:JX P E l.toArray [] [] ⟨n,U1 ((WM l).filter fun k=>!kp.any (Nat.beq k)) env,own,F,D⟩ Q):J P E (.region id l.toArray true) ⟨n,env,own,F,D⟩ Q:=fun a w ⟨A,hA⟩=>by
  have h0:∀i,(Array.replicate l.toArray.size false).getD i false=false:=fun i=>by simp only[Array.getD_eq_getD_getElem?,Array.getElem?_replicate];split<;>simp
  have hd:=hA.drawn
  refine wpIn_region_any hm (h ⟨List.nodup_nil,List.nodup_nil,fun φ h=>(by cases h),fun φ h=>(by cases h)⟩ (fun φ h=>by cases h) l.toArray.size _ (fun _=>0) A a _ (Nat.le_trans List.countP_le_length (by simp)) ⟨by simp,fun i h=>(by cases h),fun i _ _=>h0 i,fun i o _ hL=>(by rw[h0]at hL;cases hL),?_,fun φ h=>by cases h⟩)
  have:XT (Array.replicate l.toArray.size false) (fun _=>0) []=[]:=rfl
  rw[this,List.append_nil]
  exact⟨hd.size,hd.defers,hd.keep,hd.hp,fun s y hl=>hd.env s y (WK (fun k=>!(((WM l).filter fun k=>!kp.any (Nat.beq k)).any (Nat.beq k))) env s y hl).1,hd.facts⟩
end

end
section
/- Maps of texts that are true: an own entry. -/
open Go Go.RowKit Go.MapKept
def TD(l:List QN)(s:QN):List QN:=if l.contains s then l else l++[s]
abbrev mpK(b:Nat)(l:List QN):Own:=.mp b (l.map Q4)
theorem Sf{a b:QN}(h:Q4 a=Q4 b):a=b:=by simpa[Q4]using h
theorem RZ{es:Array MapEntry}{l:List QN}(h:es.toList.map (fun e=>(e.key,e.val))=(l.map Q4).map fun k=>(k,Value.bool true)):∀x∈es.toList,IsKey .string x.key:=fun x hx=>by
  have hm:(x.key,x.val)∈(l.map Q4).map fun k=>(k,Value.bool true):=h▸List.mem_map.2 ⟨x,hx,rfl⟩
  obtain⟨k,hk,e⟩:=List.mem_map.1 hm
  obtain⟨s,_,rfl⟩:=List.mem_map.1 hk
  rw[← (Prod.mk.inj e).1];simp[IsKey]
theorem BM{es:Array MapEntry}{l:List QN}(h:es.toList.map (fun e=>(e.key,e.val))=(l.map Q4).map fun k=>(k,Value.bool true)){x:MapEntry}(hx:x∈es.toList){s:QN}(hs:x.key=Q4 s):x.val=.bool true∧s∈l:=by
  have hm:(x.key,x.val)∈(l.map Q4).map fun k=>(k,Value.bool true):=h▸List.mem_map.2 ⟨x,hx,rfl⟩
  obtain⟨k,hk,e⟩:=List.mem_map.1 hm
  obtain⟨u,hu,rfl⟩:=List.mem_map.1 hk
  obtain⟨e1,e2⟩:=Prod.mk.inj e
  exact⟨e2.symm,Sf (e1.trans hs)▸hu⟩
theorem mp_no{es:Array MapEntry}{l:List QN}(h:es.toList.map (fun e=>(e.key,e.val))=(l.map Q4).map fun k=>(k,Value.bool true)){s:QN}(hn:∀x∈es.toList,x.key≠Q4 s):s∉l:=fun hm=>by
  have:(Q4 s,Value.bool true)∈es.toList.map (fun e=>(e.key,e.val)):=h▸List.mem_map.2 ⟨Q4 s,List.mem_map.2 ⟨s,hm,rfl⟩,rfl⟩
  obtain⟨x,hx,e⟩:=List.mem_map.1 this
  exact hn x hx (Prod.mk.inj e).1
section
variable {P:Program} {E:Wy} {Q:Exit→St→Prop} {n:Nat} {env:List (Nat×AV)} {own:List Own} {F:List (Value×AV)} {D:List Deferred}
variable {d:Nat} {ty t kt et:TypeId} {pos:String} {af:Array Edge} {x y z:Operand} {ops:Array Oper} {rest:List Oper}
theorem JL.makeMap(hd:Nat.blt d n=true)(h:∀b,JL P E ops rest ⟨n,(d,.c (.map (some b)))::env,mpK b []::own,F,D⟩ Q):
    JL P E ops (⟨some d,.makeMap t none,ty,pos,af,none⟩::rest) ⟨n,env,own,F,D⟩ Q:=fun a w ⟨A,hA⟩=>by
  refine wpListIn_plain rfl fun K hK=>?_
  refine Hd (by intro c h;cases h) ?_
  unfold Oper.wp
  have hr:(execOp a.eval ⟨some d,.makeMap t none,ty,pos,af,none⟩).run P w=.ok (.value (.map (some w.heap.size))) (QH w (.map #[] 0)):=by
    have h1:(Instr.makeMap t none).run P w=.ok (.map (some w.heap.size)) (QH w (.map #[] 0)):=rfl
    simp only[execOp,Option.map_none,h1,Sem.run_bind,Result.andThen_ok,Sem.run_pure]
  rw[hr,Oper.upon_value]
  refine hK _ _ (h w.heap.size _ _ ⟨A,?_⟩)
  exact(hA.step (.push _ _ _) (fun _ _ h=>h) (hA.hp.push hA.keep.size (o:=mpK w.heap.size []) rfl (by simp only[Own.ok];exact⟨#[],0,Ya _ _,rfl⟩))).put (Ui hd) (.c _)
theorem Nx(i:Nat){b:Nat}{l:List QN}{s:QN}(hm:P.underlying t=some (.map kt et))(hk:P.underlying kt=some .string)(hx:Ev E ⟨n,env,own,F,D⟩ x (.c (.map (some b))))(hy:Ev E ⟨n,env,own,F,D⟩ y (.c (Q4 s)))
    (hz:Ev E ⟨n,env,own,F,D⟩ z (.c (.bool true))) (ho:own[i]? =some (mpK b l)) {own':List Own} (hown:own.set i (mpK b (TD l s))=own') (h:JL P E ops rest ⟨n,env,own',F,D⟩ Q):
    JL P E ops (⟨none,.mapUpdate t x y z,ty,pos,af,none⟩::rest) ⟨n,env,own,F,D⟩ Q:=fun a w ⟨A,hA⟩=>by
  refine wpListIn_plain rfl fun K hK=>?_
  refine Hd (by intro c h;cases h) ?_
  unfold Oper.wp
  subst hown
  have hok:=hA.hp.own _ (List.mem_of_getElem? ho)
  simp only[Own.ok]at hok
  obtain⟨es,ck,hb,he⟩:=hok
  have hks:=RZ he
  have hkey:IsKey .string (Q4 s):=by simp[IsKey]
  obtain⟨es',ck',hr,he'⟩:∃es' ck',(execOp a.eval ⟨none,.mapUpdate t x y z,ty,pos,af,none⟩).run P w=.ok .skip {w with heap:=w.heap.setIfInBounds b (.map es' ck')}∧
      es'.toList.map (fun e=>(e.key,e.val))=((TD l s).map Q4).map fun k=>(k,Value.bool true):=by
    rcases findNow_spec hkey es.toList 0 hks with ⟨h1,h2⟩|⟨j,e,h1,h2,h3⟩
    · refine⟨_,_,by simp[execOp,hx.eq hA,hy.eq hA,hz.eq hA,Instr.mapUpdate,Qq _ hm,Go.MapKept.run_getObj_map hb,Go.MapKept.run_checkKey hk hkey,Go.MapKept.run_findKey hk h1,Go.MapKept.run_setObj_map _ hb,Result.andThen];rfl,?_⟩
      have hns:=mp_no he h2
      rw[TD,if_neg (by simpa using hns)]
      simp[he]
    · have hj:es[j]? =some e:=by simpa using h2
      refine⟨_,_,by simp[execOp,hx.eq hA,hy.eq hA,hz.eq hA,Instr.mapUpdate,Qq _ hm,Go.MapKept.run_getObj_map hb,Go.MapKept.run_checkKey hk hkey,Go.MapKept.run_findKey hk h1,hj,h3,Go.MapKept.run_keyThatStays hkey,Go.MapKept.run_setObj_map _ hb,Result.andThen];rfl,?_⟩
      obtain⟨hv,hsl⟩:=BM he (List.mem_of_getElem? h2) h3
      rw[TD,if_pos (by simpa using hsl),← he]
      rw[Array.toList_modify]
      apply List.ext_getElem?
      intro m
      rw[List.getElem?_map,List.getElem?_map,List.getElem?_modify]
      by_cases hjm:j=m
      · subst hjm;rw[h2];simp[h3,hv]
      · simp[hjm]
  rw[hr,Oper.upon_skip]
  have hlt:=X4 hb
  have hh:=Go.MapKept.heap_set (o':=.map es' ck') hb
  have hkp:Keep [b] w {w with heap:=w.heap.setIfInBounds b (.map es' ck')}:=⟨rfl,rfl,rfl,by simp,fun k _ hk=>hh.2 k (by simpa using hk)⟩
  refine hK _ _ (h _ _ ⟨A,?_⟩)
  refine hA.step (hkp.mono fun c hc=>?_) (fun _ _ h=>h) (hA.hp.upd (o':=mpK b _) ho rfl hkp (by simp) ?_)
  · simp only[List.mem_singleton]at hc;subst hc;exact Ur (List.mem_of_getElem? ho) (by simp[Own.fp])
  · simp only[Own.ok];exact⟨es',ck',hh.1,he'⟩
end
section
variable {P:Program} {E:Wy} {st:St} {ty t kt et:TypeId} {pos:String} {af:Array Edge} {d:Option Tmp} {gd:Option (Nat×Bool)} {x y:Operand}
theorem Ha(i:Nat){b:Nat}{l:List QN}{s:QN}(hm:P.underlying t=some (.map kt et))(hk:P.underlying kt=some .string)(hza:∀w,(zeroValue et).run P w=.ok (.bool false) w)(hx:Ev E st x (.c (.map (some b))))(hy:Ev E st y (.c (Q4 s)))
    (ho:st.own[i]? =some (mpK b l)):QW P E st ⟨d,.lookup t x y false,ty,pos,af,gd⟩ (.c (.bool (l.contains s))):=.pure fun A a w hs=>by
  have hok:=hs.hp.own _ (List.mem_of_getElem? ho)
  simp only[Own.ok]at hok
  obtain⟨es,ck,hb,he⟩:=hok
  have hkey:IsKey .string (Q4 s):=by simp[IsKey]
  rcases findNow_spec hkey es.toList 0 (RZ he)with ⟨h1,h2⟩|⟨j,e,h1,h2,h3⟩
  · refine⟨_,by simp[execOp,hx.eq hs,hy.eq hs,Instr.lookup,Qq _ hm,Go.MapKept.run_getObj_map hb,Go.MapKept.run_checkKey hk hkey,Go.MapKept.run_findKey hk h1,hza,Result.andThen];rfl,?_⟩
    have:l.contains s=false:=by simpa using mp_no he h2
    rw[this];exact .c _
  · obtain⟨hv,hsl⟩:=BM he (List.mem_of_getElem? h2) h3
    refine⟨_,by simp[execOp,hx.eq hs,hy.eq hs,Instr.lookup,Qq _ hm,Go.MapKept.run_getObj_map hb,Go.MapKept.run_checkKey hk hkey,Go.MapKept.run_findKey hk h1,Result.andThen];rfl,?_⟩
    have:l.contains s=true:=by simpa using hsl
    rw[this,hv];exact .c _
end
theorem SatA.freshW{E:Wy}{A:QS}{st:St}{a:Act}{w w':World}(hA:SatA E A st a w)(hk:Keep [] w w')(hz:w'.heap.size=w.heap.size+1):
    ∃A',SatA E A' st a w'∧Frm w A w' A'∧∀fr,A' fr w.heap.size:=by
  obtain⟨n,env,own,F,D⟩:=st
  let A':QS:=fun fr b=>A fr b∨b=w.heap.size
  have hup:∀fr b,A fr b→A' fr b:=fun fr b hb=>.inl hb
  have hkeep:∀fr b,A fr b→b<w.heap.size→w'.heap[b]? =w.heap[b]? :=fun fr b _ hlt=>hk.block b hlt (by simp)
  refine⟨A',hA.step (hk.mono (fun x hx=>by cases hx)) hup ⟨fun b hb=>hb.imp (hA.hp.mono b) id,fun fr b hb=>hup fr b (hA.hp.sup fr b hb),fun fr b hb=>?_,fun fr b hb=>?_,fun b hb=>?_,hA.hp.nodup,fun o ho=>?_⟩,
    fun u y h=>h.move (fun fr b hb _=>hup fr b hb) hkeep,fun fr=>.inr rfl⟩
  · rcases hb with hb|rfl
    · exact hA.hp.sub fr b hb
    · exact .inr hA.keep.size
  · rw[hz]
    rcases hb with hb|rfl
    · have:=hA.hp.lt fr b hb;omega
    · omega
  · obtain⟨h1,h2,h3⟩:=hA.hp.fp b hb
    exact⟨by rw[hz];omega,h2,fun fr h=>h.elim (h3 fr) (fun he=>by omega)⟩
  · exact(hA.hp.own o ho).move (fun fr b hb _=>hup fr b hb) hkeep fun b hb=>hk.block b (hA.hp.fp b (Ur ho hb)).1 (by simp)
theorem Ro{P:Program}{E:Wy}{st:St}{ty s0 t e8:TypeId}{pos:String}{af:Array Edge}{dd:Option Tmp}{gd:Option (Nat×Bool)}{x:Operand}{l:QN}(hS:P.underlying s0=some .string)(hT:P.underlying t=some (.slice e8))(hE:P.underlying e8=some (.int .u8))
    (hx:Ev E st x (.c (Q4 l))) (hl:l.length≤Qr):QW P E st ⟨dd,.convert s0 t x,ty,pos,af,gd⟩ (.sl true false ⟨1,1⟩ (W0 l)):=fun A a w hA K Qx hK=>by
  refine Hd (by intro c h;cases h) ?_
  unfold Oper.wp
  have hsz:(⟨l.toArray⟩:ByteArray).size=l.length:=by simp[ByteArray.size]
  have hr:(execOp a.eval ⟨dd,.convert s0 t x,ty,pos,af,gd⟩).run P w=.ok (.value (.slice (some ⟨w.heap.size,0,none⟩) l.length (grownCap w l.length 0 e8))) (Lib.bytesWorld w e8 ⟨l.toArray⟩):=by
    simp only[execOp,hx.eq hA,Sem.run_bind,Lib.run_convert_string_bytes w s0 t e8 _ hS hT hE,Result.andThen_ok,Sem.run_pure,hsz]
  rw[hr,Oper.upon_value]
  have hk:Keep [] w (Lib.bytesWorld w e8 ⟨l.toArray⟩):=⟨by simp[Lib.bytesWorld,World.freeze,World.alloc,World.drew,-World.alloc_eq,-World.drew_eq],by simp[Lib.bytesWorld,World.freeze,World.alloc,World.drew,-World.alloc_eq,-World.drew_eq],by simp[Lib.bytesWorld,World.freeze,World.alloc,World.drew,-World.alloc_eq,-World.drew_eq],
    by rw[Lib.bytesWorld_size];omega,fun k hk _=>Lib.bytesWorld_at_old w e8 _ k hk⟩
  obtain⟨A',h1,h2,h3⟩:=hA.freshW hk (Lib.bytesWorld_size w e8 _)
  refine hK _ _ A' h2 h1 ?_
  have hb:=Lib.bytesWorld_at_new w e8 ⟨l.toArray⟩
  have hlen:(W0 l).length=l.length:=UU l
  have hg:Rd (Lib.bytesWorld w e8 ⟨l.toArray⟩) A' (.slice (some ⟨w.heap.size,0,none⟩) (W0 l).length (grownCap w l.length 0 e8)) (.sl true false ⟨1,1⟩ (W0 l)):=by
    refine .sl true false ⟨1,1⟩ (W0 l) w.heap.size 0 _ _ _ _ (fun k=>Value.int .u8 ((l.getD k 0).toNat:Int)) (h3 true) hb (by rw[hlen];exact grownCap_ge _ _ _ _) (fun h=>by cases h) (fun x hx=>?_) (by rw[hlen,Nat.mul_one];exact hl) (fun k y hk=>?_) (fun k y hk=>?_)
    · obtain⟨c,_,rfl⟩:=List.mem_map.1 hx;rfl
    · rw[G2,List.getElem?_map]at hk
      cases hc:l[k]? with
      |none=>rw[hc]at hk;cases hk
      |some c=>
        have hlt:k<l.length:=(List.getElem?_eq_some_iff.1 hc).1
        refine⟨?_,rfl⟩
        rw[Nat.zero_add]
        have hgd:l.getD k 0=c:=by simp[List.getD_eq_getElem?_getD,hc]
        rw[hgd,Lib.bytesCells,Array.getElem?_append_left (by simpa using hlt)]
        simp[hc]
    · rw[G2,List.getElem?_map]at hk
      cases hc:l[k]? with
      |none=>rw[hc]at hk;cases hk
      |some c=>
        rw[hc]at hk;cases hk
        have hgd:l.getD k 0=c:=by simp[List.getD_eq_getElem?_getD,hc]
        rw[hgd];exact .c _
  rwa [hlen]at hg
/-! who may defer one call, or none -/
def retE(P:Program)(fn:Func)(R:Wl→List Own→Prop)(e:Exit)(s:St):Prop:=
  retD P fn R e s∨(YO e=some .returning∧s.dfs=[]∧∃x own' dr,RetEv P fn s x∧s.own.Perm (own'++dr)∧R (.ret x) own')
theorem retE.none{P:Program}{fn:Func}{R:Wl→List Own→Prop}{s:St}{x:AV}(ms:List Cd)(h1:RetEv P fn s x)(h2:s.dfs=[])(h3:R (.ret x) (QI ms s.own)):retE P fn R .ret s:=.inr ⟨rfl,h2,x,QI ms _,_,h1,Qk ms _,h3⟩
theorem TU{P:Program}{own:List Own}{f:FuncId}{fn:Func}{c:Code}{N:Nat}{xs:List AV}{R:Wl→List Own→Prop}(hf:P.funcs[f]? =some fn)(hb:fn.body=some c)(hN:fn.ntmps=N)(hlen:Nat.ble xs.length N=true)
    (h:∀w0 A0,J P ⟨w0,UM own,A0,none⟩ c ⟨N,Xu 0 xs,own,[],[]⟩ (retE P fn R)):AC P f own xs R:=fun w A0 vs hp hargs=>by
  refine calls_of_wp_defers hf hb ?_
  subst hN
  have hin:c.wpIn Fence.wide 0 P _ _ w:=h w A0 _ w ⟨A0,GR hp hargs (Nat.le_of_ble_eq_true hlen)⟩
  refine wp_mono (wpIn_wide.1 hin) fun e a' w' ⟨s,hq,A,hs⟩=>?_
  have hl:∀u,YO e=some u→u≠ .run→Leaves P fn a'.tmps (fun e w'=>∃r own' A,R r own'∧Keep (UM own) w w'∧Hp w.heap.size (UM own) A0 own' w' A∧RdE w' A e r) a'.defers u w':=by
    intro u hu hne
    rcases hq with ⟨u2,g,fi,ca,op,ro,hu2,hdf,hg,hperm,hD⟩|⟨hu2,hdf,x,own',dr,hev,hperm,hR⟩
    · rw[hu]at hu2
      cases hu2
      obtain⟨n,env,own1,F,D⟩:=s
      simp only at hdf hperm
      have hs':=hs.perm hperm
      rw[hs.defers]
      simp only
      rw[hdf]
      refine leaves_cons (args:=fi.toArray++ca.toArray) (f:=g) hne (by simp only[invoke,LY hg]) ?_
      have hrl:RdL w' A (fi.toArray++ca.toArray) ((fi++ca).map AV.c):=by
        refine⟨by simp,fun i z hz=>?_⟩
        rw[List.getElem?_map]at hz
        cases hv:(fi++ca)[i]? with
        |none=>rw[hv]at hz;cases hz
        |some v=>
          rw[hv]at hz;cases hz
          have:(fi.toArray++ca.toArray).getD i undef=v:=by
            rw[List.append_toArray,Array.getD_eq_getD_getElem?,List.getElem?_toArray,hv];rfl
          rw[this];exact .c v
      refine(hD w' A _ hs'.callee hrl).mono ?_
      rintro e u' w'' ⟨r,own',A',⟨⟨x,rfl⟩,hst,y,own'',dr,hev,hp2,hR⟩,hk,hp',v,rfl,hv⟩
      have hcalled:=hs'.called hk hp'
      simp only
      rw[hst]
      obtain⟨v',g1,g2⟩:=hev _ A' a' w'' hcalled
      exact⟨v',g1,.ret y,own'',A',hR,hcalled.keep,(hcalled.hp.perm hp2).left,v',rfl,g2⟩
    · rw[hu]at hu2
      cases hu2
      rw[hs.defers,hdf]
      obtain⟨v',g1,g2⟩:=hev _ A a' w' hs
      exact⟨v',g1,.ret x,own',A,hR,hs.keep,(hs.hp.perm hperm).left,v',rfl,g2⟩
  cases e with
  |normal=>exact hl _ rfl (by simp)
  |ret=>exact hl _ rfl (by simp)
  |panic chain=>exact hl _ rfl (by simp)
  |exit id=>rcases hq with ⟨u,g,fi,ca,op,ro,hu,_⟩|⟨hu,_⟩<;>simp[YO]at hu
  |goto l=>rcases hq with ⟨u,g,fi,ca,op,ro,hu,_⟩|⟨hu,_⟩<;>simp[YO]at hu
  |outgrown=>rcases hq with ⟨u,g,fi,ca,op,ro,hu,_⟩|⟨hu,_⟩<;>simp[YO]at hu

end
section
/- Walks: trees: letters, what may be by itself, the walk over nodes. -/
set_option maxRecDepth 10000
set_option maxHeartbeats 4000000
theorem SR(a b:QN):(Op.bytesLess a b||a==b)=!Op.bytesLess b a:=by rw[WV]
theorem R7(s:QN):Uq s=(s !=[]&&decide (s.length≤16)&&!s.any fun c=>!MG c):=by
  have h1:decide (1≤s.length)=(s !=[]):=by cases s<;>simp
  have h2:(!s.any fun c=>!MG c)=s.all MG:=by
    rw[List.not_any_eq_all_not];simp
  rw[Uq,h1,h2]
def FB(last:QN)(a:AtT):Bool:=!(Op.bytesLess last a.name&&Uq a.name&&decide (a.value.length≤128))
theorem Mb{last:QN}{l:List AtT}{j:Nat}(h:j<l.length):K8 last (l.drop j)=(!FB last l[j]&&K8 l[j].name (l.drop (j+1))):=by
  rw[List.drop_eq_getElem_cons h,K8];simp[FB]
def fPl(b:Nat):Value:=.func (.func 225) #[] #[.pointer (some ⟨b,0,none⟩)]
theorem SG(c:UInt8):Fn Tryz.prog 191 [.c (.int .u8 (c.toNat:Int))] (.c (.bool (!MG c))):=by
  refine AC.of_J Tryz.func191 rfl Tryz.ntmps191 rfl fun w0 A0=>?_
  refine Zs (Zq rfl (QW.assign .const) (Zn (Zs (Zm rfl (Zq rfl (QW.lss (.r rfl) .const) (Zm rfl (Zg rfl (fun hg=>(QW.move (.r rfl))) (Zg rfl (fun hg=>(QW.gtr (.when rfl hg) .const)) (Zq rfl (QW.pick_or (.r rfl) (.r rfl)) ?_)))))))))
  exact Za rfl (Zn (J.ret (Zr [] (RetEv.one rfl (REv.tmp rfl lr)) rfl ⟨U0 (by rw[MG,Bool.eq_iff_iff];simp;omega),rfl⟩)))
theorem Fg{fr c:Bool}{l:QN}(hl:l.length≤Qr):Fn Tryz.prog 220 [.sl fr c ⟨1,1⟩ (W0 l),.c (.func (.func 191) #[] #[])] (.c (.int .i64 (MJ (fun c=>!MG c) l 0))):=by
  have hlen:l.length≤9223372036854775805:=by unfold Qr at hl;omega
  refine AC.of_J Tryz.func220 rfl Tryz.ntmps220 rfl fun w0 A0=>?_
  refine Zs (Zq rfl (QW.assign .const) (Zn (J.seq (Zs (Zm rfl (Zq rfl (by first|exact Qh LH (.r rfl) (TrT.css_length _ _)|exact Qh LH (.r rfl) (AtT.css_length _)|exact Qh LH (.r rfl) (UU _)|exact Qw LH (.r rfl)|exact QW.len_nil LH (.r rfl)) ?_))))))
  refine Zq rfl (QW.move .const) (Zn (J.block (Ua (ι:=Nat) [0,1,7] (fun j=>[(8,.c (.int .i64 (j:Int)))]) (fun _ oo=>oo) (fun j=>j≤l.length∧MJ (fun c=>!MG c) l 0=MJ (fun c=>!MG c) (l.drop j) (j:Int)) (fun j=>l.length-j) 0 (⟨Nat.zero_le _,rfl⟩) (QQ (.cons rfl lr (.cons rfl lr (.cons rfl lr (.cons rfl lr .nil)))) (Reown.refl _) (fun _ h=>by first|exact h|simp[h])) ?_)))
  intro j ⟨hj,hi⟩
  refine J.conv (by(try simp only[nl,Qj,QA,QC,Qy,QZ,AV.cellsOf,Qc,Qd,Nat.reduceAdd]);rfl) ?_
  refine Zs (Zq rfl (QW.lss (.r rfl) (.r rfl)) (Zn (J.seq ?_)))
  refine J.cond (.r rfl) (fun c1=>?_) (fun c1=>?_)
  · skip
    have hlt:j<l.length:=by simpa[UU]using c1
    refine Zk (J.seq (J.block (Zs (Zm rfl (Za rfl (Zn (Zs (Zm rfl (Zm rfl ?_)))))))))
    refine Zm rfl (Zq rfl (Qi LH ty5 rfl (.r rfl) (.r rfl) (by first|rfl|omega|(simp;done)) (by exact Tw (List.getElem?_eq_getElem hlt))) ?_)
    refine Zt ty5 rfl (Zq rfl (QW.callV Qax (.r rfl) (.cons (.r rfl) .nil) rfl (SG _)) (Zn ?_))
    refine J.cond (.r rfl) (fun c2=>?_) (fun c2=>?_)
    · skip
      exact Zs (Zm rfl (Za rfl (Zn (J.ret (blkQ.r (thenQ.r (thenQ.r (blkQ.r (thenQ.r (Zr [] (RetEv.one rfl (REv.tmp rfl lr)) rfl ⟨by rw[hi,M9 _ hlt,c2];rfl,rfl⟩))))))))))
    refine J.skip (blkQ.n (thenQ.n (Qg (Zq rfl (QW.add (.r rfl) .const (by first|exact U6 (by first|rfl|omega|(simp;done)) (by omega)|exact Yy (by omega)|rfl)) ?_))))
    refine Zm rfl (Zn ?_)
    rw[M9 _ hlt,c2]at hi
    exact⟨j+1,⟨hlt,by rw[hi];simp⟩,by omega,QQ (.cons rfl lr (.cons rfl lr (.cons rfl lr (.cons rfl lr .nil)))) (Reown.refl _) (fun _ h=>by first|exact h|simp[h])⟩
  have hge:l.length≤j:=by simpa[UU]using c1
  exact J.exit (Qz (Qz (QY (thenQ.n (Zs (Zq rfl (QW.assign .const) (Zn (J.ret (Zr [] (RetEv.one rfl (REv.tmp rfl lr)) rfl ⟨by rw[hi,List.drop_of_length_le hge];rfl,rfl⟩)))))))))
theorem Rh{fr c:Bool}{l:QN}(hl:l.length≤Qr):Fn Tryz.prog 192 [.sl fr c ⟨1,1⟩ (W0 l),.c (.func (.func 191) #[] #[])] (.c (.bool (l.any fun c=>!MG c))):=by
  refine AC.of_J Tryz.func192 rfl Tryz.ntmps192 rfl fun w0 A0=>?_
  refine Zs (Zq rfl (QW.assign .const) (Zn (Zs (Zm rfl (Zm rfl (Zq rfl (QW.call Qas (.cons (.r rfl) (.cons (.r rfl) .nil)) (Fg hl)) (Zq rfl (QW.geq (.r rfl) .const) (Za rfl (Zn ?_)))))))))
  exact J.ret (Zr [] (RetEv.one rfl (REv.tmp rfl lr)) rfl ⟨U0 (by rw[← Td _ l 0 (Int.le_refl _)]),rfl⟩)
theorem X3{s:QN}(hw:s.length≤Qr):Fn Tryz.prog 146 [.c (Q4 s)] (.c (.bool (Uq s))):=by
  refine AC.of_J Tryz.func146 rfl Tryz.ntmps146 rfl fun w0 A0=>?_
  refine Zs (Zq rfl (QW.assign .const) (Zn (Zs (Zq rfl (QW.assign .func) (Zn (Zs (Zm rfl (Zq rfl (Wp (.r rfl) .const) (Zm rfl ?_)))))))))
  refine Zg rfl (fun hg=>(QW.move (.r rfl))) (Zg rfl (fun hg=>(U3 Mx (.when rfl hg))) (Zg rfl (fun hg=>(QW.leq (.when rfl hg) .const)) (Zq rfl (QW.pick_and (.r rfl) (.r rfl)) (Zm rfl (Zg rfl (fun hg=>(QW.move (.r rfl))) (Zg rfl (fun hg=>(Ro Mx LH iu5 (.when rfl hg) (by exact hw))) ?_))))))
  exact Zg rfl (fun hg=>(QW.move (.r rfl))) (Zg rfl (fun hg=>(QW.call Qaw (.cons (.when rfl hg) (.cons (.when rfl hg) .nil)) (Rh hw))) (Zg rfl (fun hg=>(QW.not (.when rfl hg))) (Zq rfl (QW.pick_and (.r rfl) (.r rfl)) (Za rfl (Zn (J.ret (Zr [] (RetEv.one rfl (REv.tmp rfl lr)) rfl ⟨U0 (by rw[R7,Bool.eq_iff_iff];simp;intros;omega),rfl⟩)))))))
theorem CS(b:Nat)(last:QN){a:AtT}(hw:a.wf):AC Tryz.prog 225 [.box b [.c (Q4 last)]] [.agg a.cs,.c (.pointer (some ⟨b,0,none⟩))] (YV fun x o=>x=.c (.bool (FB last a))∧o=[.box b [.c (Q4 a.name)]]):=by
  obtain⟨nm,v⟩:=a
  obtain⟨hn,hv⟩:=hw
  simp only at hn hv
  refine AC.of_J Tryz.func225 rfl Tryz.ntmps225 rfl fun w0 A0=>?_
  refine Zs (Qs (.r rfl) rfl fun b2=>Zq rfl (QW.assign .const) (Zn (Zs (Zd Rb rfl (Zl 0 UO rfl (Zl 1 UO rfl (Zq rfl (PP (.r rfl) (.r rfl)) (Zm rfl ?_))))))))
  refine Zg rfl (fun hg=>(Qf Rb (.r rfl) rfl)) (Zg rfl (fun hg=>(Qb 0 UO (.when rfl hg) rfl rfl)) (Zg rfl (fun hg=>(QW.call Li (.cons (.when rfl hg) .nil) (X3 hn))) (Zg rfl (fun hg=>(QW.not (.when rfl hg))) (Zq rfl (QW.pick_or (.r rfl) (.r rfl)) (Zm rfl (Zg rfl (fun hg=>(Qf QaQ (.r rfl) rfl)) (Zg rfl (fun hg=>(Qb 0 UO (.when rfl hg) rfl rfl)) (Zg rfl (fun hg=>(U3 Mx (.when rfl hg))) (Zg rfl (fun hg=>(QW.gtr (.when rfl hg) .const)) ?_)))))))))
  refine Zq rfl (QW.pick_or (.r rfl) (.r rfl)) (Za rfl (Zn (Zs (Zd Rb rfl (Zl 0 UO rfl (JL.store_box 1 UO (.r rfl) rfl (.r rfl) (by first|rfl|assumption) rfl rfl rfl rfl ?_))))))
  exact Zn (Zs (Zm rfl (Za rfl (Zn (J.ret (Zr [.k,.p] (RetEv.one rfl (REv.tmp rfl lr)) rfl ⟨_,rfl,congrArg (fun b=>AV.c (.bool b)) (by simp[FB,SR,show decide ((128:Int)<((v.length:Nat):Int))=!decide (v.length≤128)from by rw[Bool.eq_iff_iff];simp;omega]),rfl⟩))))))
theorem Dl(b:Nat)(last:QN){fr c:Bool}{l:List AtT}(hl:l.length*32≤Qr)(hw:∀x∈l,AtT.wf x):AC Tryz.prog 250 [.box b [.c (Q4 last)]] [.sl fr c DH (AtT.css l),.c (fPl b)]
    (YV fun x o=>∃(n:Int) (s:QN),decide (0≤n)=(!K8 last l)∧x=.c (.int .i64 n)∧o=[.box b [.c (Q4 s)]]):=by
  have hlen:l.length≤9223372036854775805:=by unfold Qr at hl;omega
  refine AC.of_J Tryz.func250 rfl Tryz.ntmps250 rfl fun w0 A0=>?_
  refine Zs (Zq rfl (QW.assign .const) (Zn (J.seq (Zs (Zm rfl (Zq rfl (by first|exact Qh WS (.r rfl) (TrT.css_length _ _)|exact Qh WS (.r rfl) (AtT.css_length _)|exact Qh WS (.r rfl) (UU _)|exact Qw WS (.r rfl)|exact QW.len_nil WS (.r rfl)) ?_))))))
  refine Zq rfl (QW.move .const) (Zn (J.block (Ua (ι:=Nat×QN) [0,1,7] (fun⟨j,s⟩=>[(8,.c (.int .i64 (j:Int)))]) (fun⟨j,s⟩ oo=>List.set oo 0 (.box b [.c (Q4 s)])) (fun⟨j,s⟩=>j≤l.length∧K8 last l=K8 s (l.drop j)) (fun⟨j,s⟩=>l.length-j) ⟨0,last⟩ (⟨Nat.zero_le _,rfl⟩) (QQ (.cons rfl lr (.cons rfl lr (.cons rfl lr (.cons rfl lr .nil)))) (Reown.refl _) (fun _ h=>by first|exact h|simp[h])) ?_)))
  intro⟨j,s⟩ ⟨hj,hi⟩
  refine J.conv (by(try simp only[nl,Qj,QA,QC,Qy,QZ,AV.cellsOf,Qc,Qd,Nat.reduceAdd]);rfl) ?_
  refine Zs (Zq rfl (QW.lss (.r rfl) (.r rfl)) (Zn (J.seq ?_)))
  refine J.cond (.r rfl) (fun c1=>?_) (fun c1=>?_)
  · skip
    have hlt:j<l.length:=by simpa[AtT.css_length]using c1
    refine Zk (J.seq (J.block (Zs (Zm rfl (Za rfl (Zn (Zs (Zm rfl (Zm rfl ?_)))))))))
    refine Zm rfl (Zq rfl (Qi WS Ko rfl (.r rfl) (.r rfl) (by first|rfl|omega|(simp;done)) (by exact AtT.css_getE hlt)) ?_)
    refine Zq rfl (by first|exact Qm Ko (.r rfl) rfl rfl|exact Qm Ko (.r rfl) (QF rfl rfl) rfl) ?_
    refine TT [.p] Qap rfl (.r rfl) Lent.nil (fun _=>(.cons (.r rfl) .nil)) rfl (CS b s (hw _ (List.getElem_mem hlt))) (.inl rfl) fun x16 o16 h16=>?_
    obtain⟨rfl,rfl⟩:=h16
    refine Zn ?_
    refine J.cond (.r rfl) (fun c2=>?_) (fun c2=>?_)
    · skip
      have hbad:FB s l[j]=true:=c2
      exact Zs (Zm rfl (Za rfl (Zn (J.ret (blkQ.r (thenQ.r (thenQ.r (blkQ.r (thenQ.r (Zr [.p] (RetEv.one rfl (REv.tmp rfl lr)) rfl ⟨_,rfl,_,_,by rw[hi,Mb hlt,hbad];simp,rfl,rfl⟩))))))))))
    have hgo:FB s l[j]=false:=by simpa using c2
    refine J.skip (blkQ.n (thenQ.n (Qg (Zq rfl (QW.add (.r rfl) .const (by first|exact U6 (by first|rfl|omega|(simp;done)) (by omega)|exact Yy (by omega)|rfl)) ?_))))
    refine Zm rfl (Zn ?_)
    rw[Mb hlt,hgo]at hi
    exact⟨⟨j+1,l[j].name⟩,⟨hlt,by rw[hi];simp⟩,by show l.length-(j+1)<l.length-j;omega,QQ (.cons rfl lr (.cons rfl lr (.cons rfl lr (.cons rfl lr .nil)))) (Reown.refl _) (fun _ h=>by first|exact h|simp[h])⟩
  have hge:l.length≤j:=by simpa[AtT.css_length]using c1
  exact J.exit (Qz (Qz (QY (thenQ.n (Zs (Zq rfl (QW.assign .const) (Zn (J.ret (Zr [.p] (RetEv.one rfl (REv.tmp rfl lr)) rfl ⟨_,rfl,_,_,by rw[hi,List.drop_of_length_le hge];simp[K8],rfl,rfl⟩)))))))))
theorem ML(b:Nat)(last:QN){fr c:Bool}{l:List AtT}(hl:l.length*32≤Qr)(hw:∀x∈l,AtT.wf x):AC Tryz.prog 224 [.box b [.c (Q4 last)]] [.sl fr c DH (AtT.css l),.c (fPl b)]
    (YV fun x o=>∃s:QN,x=.c (.bool (!K8 last l))∧o=[.box b [.c (Q4 s)]]):=by
  refine AC.of_J Tryz.func224 rfl Tryz.ntmps224 rfl fun w0 A0=>?_
  refine Zs (Zq rfl (QW.assign .const) (Zn (Zs (Zm rfl (Zm rfl (JL.callRF [.p] Qam rfl Lent.nil (fun _=>(.cons (.r rfl) (.cons (.r rfl) .nil))) (Dl b last hl hw) (.inl rfl) fun x7 o7 h7=>?_))))))
  obtain⟨n7,s7,hn7,rfl,rfl⟩:=h7
  exact Zq rfl (QW.geq (.r rfl) .const) (Za rfl (Zn (J.ret (Zr [.p] (RetEv.one rfl (REv.tmp rfl lr)) rfl ⟨_,rfl,_,by rw[← hn7],rfl⟩))))
theorem CF{fr:Bool}{t k x:QN}{a:List AtT}(ht:t.length≤Qr)(hl:a.length*32≤Qr)(hw:∀x∈a,AtT.wf x):Fn Tryz.prog 198 [.c (Q4 t),.c (Q4 k),.c (Q4 x),.sl fr false DH (AtT.css a)] (.c (.bool (Yh t k x a))):=by
  refine AC.of_J Tryz.func198 rfl Tryz.ntmps198 rfl fun w0 A0=>?_
  refine Zs (Zq rfl (QW.assign .const) (Zn (J.seq (Zs (Zm rfl (Zq rfl (WJ (.r rfl) .const) (Zn ?_)))))))
  refine J.cond (.r rfl) (fun c1=>?_) (fun c1=>?_)
  · skip
    have ht0:t=[]:=by simpa using c1
    refine Zs (Zm rfl (Zq rfl (WJ (.r rfl) .const) (Zm rfl (Zg rfl (fun hg=>(QW.move (.r rfl))) (Zg rfl (fun hg=>(U3 Mx (.when rfl hg))) (Zg rfl (fun hg=>(QW.leq (.when rfl hg) .const)) (Zq rfl (QW.pick_and (.r rfl) (.r rfl)) (Zm rfl (Zg rfl (fun hg=>(QW.move (.r rfl))) ?_)))))))))
    refine Zg rfl (fun hg=>(by first|exact Qh WS (.when rfl hg) (TrT.css_length _ _)|exact Qh WS (.when rfl hg) (AtT.css_length _)|exact Qh WS (.when rfl hg) (UU _)|exact Qw WS (.when rfl hg)|exact QW.len_nil WS (.when rfl hg))) ?_
    exact Zg rfl (fun hg=>(QW.eql (.when rfl hg) .const)) (Zq rfl (QW.pick_and (.r rfl) (.r rfl)) (Za rfl (Zn (J.ret (thenQ.r (Zr [] (RetEv.one rfl (REv.tmp rfl lr)) rfl ⟨U0 (by rw[Yh,if_pos ht0,Bool.eq_iff_iff];simp[AtT.css_length];intros;omega),rfl⟩))))))
  have ht0:¬t=[]:=by simpa using c1
  refine Zk (J.seq (Zs (Zm rfl (Zq rfl (QW.call Li (.cons (.r rfl) .nil) (X3 ht)) (Zq rfl (QW.not (.r rfl)) (Zm rfl (Zg rfl (fun hg=>(QW.move (.r rfl))) (Zg rfl (fun hg=>(U3 Mx (.when rfl hg))) (Zg rfl (fun hg=>(QW.gtr (.when rfl hg) .const)) ?_)))))))))
  refine Zq rfl (QW.pick_or (.r rfl) (.r rfl)) (Zm rfl (Zg rfl (fun hg=>(QW.move (.r rfl))) (Zg rfl (fun hg=>(Wp (.when rfl hg) .const)) (Zq rfl (QW.pick_or (.r rfl) (.r rfl)) (Zm rfl (Zg rfl (fun hg=>(QW.move (.r rfl))) (Zg rfl (fun hg=>(by first|exact Qh WS (.when rfl hg) (TrT.css_length _ _)|exact Qh WS (.when rfl hg) (AtT.css_length _)|exact Qh WS (.when rfl hg) (UU _)|exact Qw WS (.when rfl hg)|exact QW.len_nil WS (.when rfl hg))) ?_)))))))
  refine Zg rfl (fun hg=>(QW.gtr (.when rfl hg) .const)) (Zq rfl (QW.pick_or (.r rfl) (.r rfl)) (Zn ?_))
  refine J.cond (.r rfl) (fun c2=>?_) (fun c2=>?_)
  · skip
    simp[AtT.css_length]at c2
    exact Zs (Zq rfl (QW.assign .const) (Zn (J.ret (thenQ.r (Zr [] (RetEv.one rfl (REv.tmp rfl lr)) rfl ⟨U0 (by rw[Yh,if_neg ht0];simp;grind),rfl⟩)))))
  simp[AtT.css_length]at c2
  refine Zk (Zs (JL.alloc z9 rfl rfl fun b9=>JL.store_box 0 UO (.r rfl) rfl .const (by first|rfl|assumption) rfl rfl rfl rfl ?_))
  refine Zn (Zs (Zm rfl (Zq rfl (WN .nil (.cons (.r rfl) .nil)) (JL.callRF [.p] Qaq rfl Lent.nil (fun _=>(.cons (.r rfl) (.cons (.r rfl) .nil))) (ML b9 [] hl hw) (.inl rfl) fun x43 o43 h43=>?_))))
  obtain⟨s43,rfl,rfl⟩:=h43
  exact Zq rfl (QW.not (.r rfl)) (Za rfl (Zn (J.ret (Zr [.k] (RetEv.one rfl (REv.tmp rfl lr)) rfl ⟨U0 (by rw[Yh,if_neg ht0];simp;grind),rfl⟩))))

end
section
/- Walks: trees: the walk over nodes, which may be. -/
set_option maxRecDepth 10000
set_option maxHeartbeats 4000000
def wkB(b:Nat)(w:RC):Own:=.box b [.c (.int .i64 w.n),.c (.int .i64 w.d),.c (.int .i64 w.e)]
theorem SI{t:TrT}{level n:Int}(h:8<level):t.nodeE level n=10:=if_pos h
theorem node_3{t:TrT}{level n:Int}(h:¬8<level)(h2:n=256):t.nodeE level n=3:=by rw[TrT.nodeE,if_neg h,if_pos h2]
theorem Da{t:TrT}{level n:Int}(h:¬8<level)(h2:¬n=256)(h3:Yh t.tag t.key t.text t.attrs=false∨16<t.kids.length∨(t.tag=[]∧0<t.kids.length)):t.nodeE level n=9:=by rw[TrT.nodeE,if_neg h,if_neg h2,if_pos h3]
theorem node_6{t:TrT}{level n:Int}(h:¬8<level)(h2:¬n=256)(h3:¬(Yh t.tag t.key t.text t.attrs=false∨16<t.kids.length∨(t.tag=[]∧0<t.kids.length)))(h4:Gf (t.kids.map TrT.key)=true):t.nodeE level n=6:=by rw[TrT.nodeE,if_neg h,if_neg h2,if_neg h3,if_pos h4]
theorem node_0{t:TrT}{level n:Int}(h:¬8<level)(h2:¬n=256)(h3:¬(Yh t.tag t.key t.text t.attrs=false∨16<t.kids.length∨(t.tag=[]∧0<t.kids.length)))(h4:Gf (t.kids.map TrT.key)=false):t.nodeE level n=0:=by rw[TrT.nodeE,if_neg h,if_neg h2,if_neg h3,if_neg (by simp[h4])]
theorem TC(l:List QN)(k s:QN):(TD l k).contains s=(l++[k]).contains s:=by
  unfold TD
  split
  · rename_i h
    have h:k∈l:=by simpa using h
    rw[Bool.eq_iff_iff];simp
    exact fun e=>e▸h
  · rfl
theorem RG{l:List TrT}{j:Nat}(h:j<l.length){ks:List QN}(hk:∀s,ks.contains s=((l.map TrT.key).take j).contains s):YX (l.map TrT.key) j=(!(l[j].key==[])&&ks.contains l[j].key):=by
  rw[hk];simp[YX,h]
theorem TrT.at1{fr:Bool}{v:TrT}:(v.cs fr)[1]? =some (.c (Q4 v.key)):=by cases v;rfl
theorem F8{fr:Bool}{t:TrT}(hw:t.wf)(b:Nat)(w:RC)(level:Int):AC Tryz.prog 151 [wkB b w] [.c (.pointer (some ⟨b,0,none⟩)),.agg (t.cs fr),.c (.int .i64 level)] (YV fun x o=>x=.c (.int .i64 (t.nodeE level w.n))∧o=[wkB b w]):=by
  obtain⟨tg,ky,tx,ats,l⟩:=t
  obtain⟨h1,h2,h3,h4,h5,h6,h7⟩:=hw.inv
  have hlen:l.length≤9223372036854775805:=by unfold Qr at h6;omega
  refine AC.of_J Tryz.func151 rfl Tryz.ntmps151 rfl fun w0 A0=>?_
  refine Zs (Qs (.r rfl) rfl fun b4=>Zq rfl (QW.assign .const) (Zn (J.seq (J.block (Zs (Zm rfl (Zq rfl (QW.gtr (.r rfl) .const) (Za rfl ?_))))))))
  refine Zn ?_
  refine J.cond (.r rfl) (fun c1=>?_) (fun c1=>?_)
  · skip
    have hlv:8<level:=by simpa using c1
    exact Zs (Zq rfl (QW.assign .const) (Zn (J.ret (blkQ.r (thenQ.r (Zr [.k,.p] (RetEv.one rfl (REv.tmp rfl lr)) rfl ⟨_,rfl,congrArg (fun n=>AV.c (.int .i64 n)) (SI hlv).symm,rfl⟩))))))
  have hlv:¬8<level:=by simpa using c1
  refine Zs (Zm rfl (Zu rfl (Zd Lo rfl (Zl 1 UA rfl (Zq rfl (QW.eql (.r rfl) .const) (Za rfl (Zn ?_)))))))
  refine J.cond (.r rfl) (fun c2=>?_) (fun c2=>?_)
  · skip
    have h256:w.n=256:=by simpa using c2
    exact Zs (Zq rfl (QW.assign .const) (Zn (J.ret (blkQ.r (thenQ.r (Zr [.k,.p] (RetEv.one rfl (REv.tmp rfl lr)) rfl ⟨_,rfl,congrArg (fun n=>AV.c (.int .i64 n)) (node_3 hlv h256).symm,rfl⟩))))))
  have h256:¬w.n=256:=by simpa using c2
  refine J.seq (Zs (Zd KC rfl (Zl 0 UO rfl (Zd Gv rfl (Zl 0 UO rfl (Zd Hy rfl (Zl 0 UO rfl (Zd Hx rfl (Zl 0 CB rfl ?_)))))))))
  refine Zq rfl (QW.call Qav (.cons (.r rfl) (.cons (.r rfl) (.cons (.r rfl) (.cons (.r rfl) .nil)))) (CF h1 h4 h5)) (Zq rfl (QW.not (.r rfl)) (Za rfl (Zn ?_)))
  refine J.cond (.r rfl) (fun c3=>?_) (fun c3=>?_)
  · skip
    have hbad:(Yh tg ky tx ats=false∨16<l.length∨(tg=[]∧0<l.length)):=.inl (by simpa using c3)
    refine Zk ?_
    refine J.cond (.r rfl) (fun c4=>?_) (fun c4=>absurd c4 (by first|(rw[c3];decide)|(simp at*;done)|(simp at*;omega)))
    exact Zs (Zq rfl (QW.assign .const) (Zn (J.ret (blkQ.r (thenQ.r (Zr [.k,.p] (RetEv.one rfl (REv.tmp rfl lr)) rfl ⟨_,rfl,congrArg (fun n=>AV.c (.int .i64 n)) (Da (t:=.mk tg ky tx ats l) hlv h256 hbad).symm,rfl⟩))))))
  have hpl:Yh tg ky tx ats=true:=by simpa using c3
  refine Zs (Zd UJ rfl (Zl 0 YN rfl (Zq rfl (by first|exact Qh Q6 (.r rfl) (TrT.css_length _ _)|exact Qh Q6 (.r rfl) (AtT.css_length _)|exact Qw Q6 (.r rfl)|exact QW.len_nil Q6 (.r rfl)) ?_)))
  refine Zq rfl (QW.gtr (.r rfl) .const) (Za rfl (Zn ?_))
  refine J.cond (.r rfl) (fun c4=>?_) (fun c4=>?_)
  · skip
    have hbad:(Yh tg ky tx ats=false∨16<l.length∨(tg=[]∧0<l.length)):=.inr (.inl (by simp at c4;omega))
    refine Zk ?_
    refine J.cond (.r rfl) (fun c5=>?_) (fun c5=>absurd c5 (by first|(rw[c4];decide)|(simp at*;done)|(simp at*;omega)))
    exact Zs (Zq rfl (QW.assign .const) (Zn (J.ret (blkQ.r (thenQ.r (Zr [.k,.p] (RetEv.one rfl (REv.tmp rfl lr)) rfl ⟨_,rfl,congrArg (fun n=>AV.c (.int .i64 n)) (Da (t:=.mk tg ky tx ats l) hlv h256 hbad).symm,rfl⟩))))))
  have h16:¬16<l.length:=by(simp at c4;omega)
  refine Qg (Zd KC rfl (Zl 0 UO rfl (Zq rfl (WJ (.r rfl) .const) (Zm rfl (Zg rfl (fun hg=>(Qf UJ (.r rfl) rfl)) (Zg rfl (fun hg=>(Qb 0 YN (.when rfl hg) rfl rfl)) (Zg rfl (fun hg=>(by first|exact Qh Q6 (.when rfl hg) (TrT.css_length _ _)|exact Qh Q6 (.when rfl hg) (AtT.css_length _)|exact Qw Q6 (.when rfl hg)|exact QW.len_nil Q6 (.when rfl hg))) ?_)))))))
  refine Zg rfl (fun hg=>(QW.gtr (.when rfl hg) .const)) (Zq rfl (QW.pick_and (.r rfl) (.r rfl)) (Za rfl (Zn ?_)))
  refine J.cond (.r rfl) (fun c5=>?_) (fun c5=>?_)
  · skip
    have hbad:(Yh tg ky tx ats=false∨16<l.length∨(tg=[]∧0<l.length)):=.inr (.inr (by simp[TrT.css_length]at c5;exact c5))
    exact Zs (Zq rfl (QW.assign .const) (Zn (J.ret (blkQ.r (thenQ.r (Zr [.k,.p] (RetEv.one rfl (REv.tmp rfl lr)) rfl ⟨_,rfl,congrArg (fun n=>AV.c (.int .i64 n)) (Da (t:=.mk tg ky tx ats l) hlv h256 hbad).symm,rfl⟩))))))
  have hgo:¬(Yh tg ky tx ats=false∨16<l.length∨(tg=[]∧0<l.length)):=by(rintro(h|h|⟨ha,hb⟩);rw[hpl]at h;cases h;exact h16 h;simp[TrT.css_length,ha]at c5;subst c5;simp at hb)
  refine J.skip (blkQ.n (thenQ.n (Zs (JL.makeMap rfl fun b43=>Za rfl (Zn (J.seq (Zs (Zd UJ rfl ?_))))))))
  refine Zl 1 YN rfl (Zq rfl (by first|exact Qh Q6 (.r rfl) (TrT.css_length _ _)|exact Qh Q6 (.r rfl) (AtT.css_length _)|exact Qw Q6 (.r rfl)|exact QW.len_nil Q6 (.r rfl)) ?_)
  refine Zq rfl (QW.move .const) (Zn (J.block (Ua (ι:=Nat×List QN) [7,45,46] (fun⟨j,ks⟩=>[(47,.c (.int .i64 (j:Int)))]) (fun⟨j,ks⟩ oo=>List.set oo 0 (mpK b43 ks)) (fun⟨j,ks⟩=>j≤l.length∧(∀s,ks.contains s=((l.map TrT.key).take j).contains s)∧∀i,i<j→YX (l.map TrT.key) i=false) (fun⟨j,ks⟩=>l.length-j) ⟨0,[]⟩ (⟨Nat.zero_le _,fun s=>rfl,fun i hi=>by omega⟩) (QQ (.cons rfl lr (.cons rfl lr (.cons rfl lr (.cons rfl lr .nil)))) (Reown.refl _) (fun _ h=>by first|exact h|simp[h])) ?_)))
  intro⟨j,ks⟩ ⟨hj,hks,hno⟩
  refine J.conv (by(try simp only[nl,Qj,QA,QC,Qy,QZ,AV.cellsOf,Qc,Qd,Nat.reduceAdd]);rfl) ?_
  refine Zs (Zq rfl (QW.lss (.r rfl) (.r rfl)) (Zn (J.seq ?_)))
  refine J.cond (.r rfl) (fun c6=>?_) (fun c6=>?_)
  · skip
    have hlt:j<l.length:=by simpa[TrT.css_length]using c6
    refine Zk (J.seq (J.block (Zs (Zq rfl (Qi Q6 QB rfl (.r rfl) (.r rfl) (by first|rfl|omega|(simp;done)) (by exact TrT.css_getE _ hlt)) ?_))))
    refine Zq rfl (by first|exact Qm QB (.r rfl) rfl rfl|exact Qm QB (.r rfl) (QF (TrT.cs_length _ _) rfl) (TrT.cs_length _ _)) ?_
    refine JL.alloc z46 rfl rfl fun b9=>?_
    first|refine Qa 0 QB (.r rfl) rfl (.r rfl) (by first|rfl|assumption) rfl rfl rfl ?_|refine Qa 0 QB (.r rfl) rfl (.r rfl) (by first|rfl|assumption) rfl (TrT.cs_length _ _) rfl ?_|refine Qa 0 QB (.r rfl) rfl (.r rfl) (by first|rfl|assumption) (TrT.cs_length _ _) rfl rfl ?_|refine Qa 0 QB (.r rfl) rfl (.r rfl) (by first|rfl|assumption) (TrT.cs_length _ _) (TrT.cs_length _ _) rfl ?_|refine JL.store_box 0 QB (.r rfl) rfl (.r rfl) (by first|rfl|assumption) rfl rfl rfl rfl ?_|refine JL.store_box 0 QB (.r rfl) rfl (.r rfl) (by first|rfl|assumption) (TrT.cs_length _ _) rfl rfl rfl ?_
    refine Zn (J.seq (Zs (Zd Gv rfl (Zq rfl (Qb 0 UO (.r rfl) rfl TrT.at1) (Zq rfl (Wp (.r rfl) .const) (Zm rfl (Zg rfl (fun hg=>(QW.move (.r rfl))) (Zg rfl (fun hg=>(Qf Gv (.r rfl) rfl)) (Zg rfl (fun hg=>(Qb 0 UO (.when rfl hg) rfl TrT.at1)) ?_)))))))))
    refine Zg rfl (fun hg=>(Ha 1 Ex Mx (fun w=>by kernel_rfl) (.when rfl hg) (.when rfl hg) rfl)) ?_
    refine Zq rfl (QW.pick_and (.r rfl) (.r rfl)) (Zn ?_)
    refine J.cond (.r rfl) (fun c7=>?_) (fun c7=>?_)
    · skip
      have htw:YX (l.map TrT.key) j=true:=by(rw[RG hlt hks];simpa[bne]using c7)
      exact Zs (Zq rfl (QW.assign .const) (Zn (J.ret (thenQ.r (blkQ.r (thenQ.r (thenQ.r (blkQ.r (thenQ.r (Zr [.k,.k,.k,.p] (RetEv.one rfl (REv.tmp rfl lr)) rfl ⟨_,rfl,congrArg (fun n=>AV.c (.int .i64 n)) (node_6 (t:=.mk tg ky tx ats l) hlv h256 hgo (CC (by rw[List.length_map];exact hlt) htw)).symm,rfl⟩))))))))))
    have htw:YX (l.map TrT.key) j=false:=by(rw[RG hlt hks];simpa[bne]using c7)
    refine Zk (Qg (Zm rfl (Zd Gv rfl (Zq rfl (Qb 0 UO (.r rfl) rfl TrT.at1) (Nx 1 Ex Mx (.r rfl) (.r rfl) .const rfl rfl (JL.nil (blkQ.n (thenQ.n (Qg ?_)))))))))
    refine Zq rfl (QW.add (.r rfl) .const (by first|exact U6 (by first|rfl|omega|(simp;done)) (by omega)|exact Yy (by omega)|rfl)) ?_
    refine Zm rfl (Zn ?_)
    exact⟨⟨j+1,TD ks l[j].key⟩,⟨hlt,fun s=>by rw[TC,List.contains_append,hks,List.take_succ_eq_append_getElem (by simpa using hlt),List.contains_append];simp,fun i hi=>by rcases Nat.lt_succ_iff_lt_or_eq.1 hi with h|rfl;exact hno i h;exact htw⟩,by show l.length-(j+1)<l.length-j;omega,QQ (.cons rfl lr (.cons rfl lr (.cons rfl lr (.cons rfl lr .nil)))) (Q3 1 _ rfl) (fun _ h=>by first|exact h|simp[h])⟩
  have hge:l.length≤j:=by simpa[TrT.css_length]using c6
  exact J.exit (Qz (Qz (QY (thenQ.n (Zs (Zq rfl (QW.assign .const) (Zn (J.ret (Zr [.k,.k,.p] (RetEv.one rfl (REv.tmp rfl lr)) rfl ⟨_,rfl,congrArg (fun n=>AV.c (.int .i64 n)) (node_0 (t:=.mk tg ky tx ats l) hlv h256 hgo (MU fun i hi=>hno i (Nat.lt_of_lt_of_le (by rw[List.length_map]at hi;exact hi) hge))).symm,rfl⟩)))))))))
mutual
theorem TrT.walk_bd:∀(t:TrT) (level:Int) (w:RC),0≤w.n∧w.n≤256→0≤(t.walk level w).n∧(t.walk level w).n≤256
  |.mk t k x a l,level,w,h=>by
    unfold TrT.walk
    split
    · exact h
    · split
      · exact h
      · rename_i h1 h2
        refine TrT.walks_bd l _ _ ⟨by show 0≤w.n+1;omega,?_⟩
        show w.n+1≤256
        have:¬w.n=256:=fun e=>h2 (by unfold TrT.nodeE;split<;>(try split)<;>simp_all)
        omega
theorem TrT.walks_bd:∀(l:List TrT) (level:Int) (w:RC),0≤w.n∧w.n≤256→0≤(TrT.walks l level w).n∧(TrT.walks l level w).n≤256
  |[],_,_,h=>h
  |x::r,level,w,h=>TrT.walks_bd r level _ (TrT.walk_bd x level w h)
end
theorem P5{t:TrT}{level:Int}{w:RC}(h:¬w.e=0):t.walk level w=w:=by cases t;rw[TrT.walk,if_pos h]
theorem P3{t:TrT}{level:Int}{w:RC}(h:w.e=0)(h2:¬t.nodeE level w.n=0):t.walk level w=⟨w.n,w.d,t.nodeE level w.n⟩:=by cases t;rw[TrT.walk,if_neg (fun hc=>hc h),if_pos h2]
theorem P4{t k x:QN}{a:List AtT}{l:List TrT}{level:Int}{w:RC}(h:w.e=0)(h2:(TrT.mk t k x a l).nodeE level w.n=0):(TrT.mk t k x a l).walk level w=TrT.walks l (level+1) ⟨w.n+1,if level>w.d then level else w.d,0⟩:=by rw[TrT.walk,if_neg (fun hc=>hc h),if_neg (fun hc=>hc h2)]
theorem FX{l:List TrT}{j:Nat}(h:j<l.length){level:Int}{w:RC}:TrT.walks (l.drop j) level w=TrT.walks (l.drop (j+1)) level (l[j].walk level w):=by rw[List.drop_eq_getElem_cons h,TrT.walks]
theorem SH{t:TrT}{level n:Int}(h:t.nodeE level n=0):level≤8∧¬n=256:=by
  unfold TrT.nodeE at h
  split at h
  · cases h
  · split at h
    · cases h
    · exact⟨by omega,by assumption⟩
def K3(t:TrT):Int×Int×Int:=if t.tag=[]then(0,0,9)else if(t.walk 1 ⟨0,0,0⟩).e≠0 then(0,0,(t.walk 1 ⟨0,0,0⟩).e)else((t.walk 1 ⟨0,0,0⟩).n,(t.walk 1 ⟨0,0,0⟩).d,0)
theorem Bg(t:TrT):(K3 t).2.2=t.err:=by
  unfold K3 TrT.err
  split
  · rfl
  · split
    · rfl
    · rename_i h;exact(Decidable.not_not.1 h).symm
theorem Sa:∀(n:Nat) {t:TrT} {fr:Bool} {w:RC} {level:Int} {b:Nat},t.wf→t.sz≤n→(0≤w.n∧w.n≤256)→(1≤level∧level≤9)→
    AC Tryz.prog 100 [wkB b w] [.c (.pointer (some ⟨b,0,none⟩)),.agg (t.cs fr),.c (.int .i64 level)] (YV fun x o=>x=.tup []∧o=[wkB b (t.walk level w)]):=by
  intro n
  induction n with
  |zero=>intro t fr w level b hw hn;exact absurd hn (by have:=t.sz_pos;omega)
  |succ n ih=>
    intro t fr w level b hw hn hbd hlv
    obtain⟨tg,ky,tx,ats,l⟩:=t
    obtain⟨h1,h2,h3,h4,h5,h6,h7⟩:=hw.inv
    have hlen:l.length≤9223372036854775805:=by unfold Qr at h6;omega
    obtain⟨wn,wd,we⟩:=w
    obtain⟨q,hq⟩:∃q,(TrT.mk tg ky tx ats l).nodeE level wn=q:=⟨_,rfl⟩
    refine AC.of_J Tryz.func100 rfl Tryz.ntmps100 rfl fun w0 A0=>?_
    refine Zs (Qs (.r rfl) rfl fun b4=>Zn (J.seq (Zs (Zm rfl (Zu rfl (Zd KU rfl (Zl 1 We rfl (Zq rfl (QW.eql (.r rfl) .const) ?_))))))))
    refine Zn ?_
    refine J.cond (.r rfl) (fun c1=>?_) (fun c1=>?_)
    · skip
      have he:we=0:=by simpa using c1
      refine Qg (Zm rfl (Zm rfl (Zq rfl (by first|exact Qe 0 QB (.r rfl) rfl rfl rfl|exact Qe 0 QB (.r rfl) rfl (Qo (TrT.cs_length _ _) rfl) (TrT.cs_length _ _)) ?_)))
      refine Zm rfl (JL.callRF [.k,.p] QaD rfl Lent.nil (fun _=>(.cons (.r rfl) (.cons (.r rfl) (.cons (.r rfl) .nil)))) (F8 (fr:=fr) hw b ⟨wn,wd,we⟩ level) (.inl rfl) fun x17 o17 h17=>?_)
      obtain⟨rfl,rfl⟩:=h17
      rw[show(RC.mk wn wd we).n=wn from rfl,hq]
      refine Zu rfl (Zd KU rfl (JL.store_box 1 We (.r rfl) rfl (.r rfl) (by first|rfl|assumption) rfl rfl rfl rfl ?_))
      refine Zn (J.seq (Zs (Zm rfl (Zu rfl (Zd KU rfl (Zl 1 We rfl (Zq rfl (QW.neq (.r rfl) .const) (Zn ?_))))))))
      refine J.cond (.r rfl) (fun c2=>?_) (fun c2=>?_)
      · skip
        have hb:¬q=0:=by simpa using c2
        exact J.ret (thenQ.r (Zr [.k,.p] (RetEv.none rfl) rfl ⟨_,rfl,rfl,by rw[P3 he (by rw[hq];exact hb),hq];rfl⟩))
      have hg:q=0:=by simpa using c2
      obtain⟨hl8,hn256⟩:=SH (hq.trans hg)
      have hlv2:1≤level+1∧level+1≤9:=by omega
      have hbd1:0≤wn∧wn≤256:=hbd
      subst hg
      refine Zk (Zs (Zm rfl (Zu rfl (Zd Lo rfl (Zl 1 UA rfl (Zq rfl (QW.add (.r rfl) .const (by first|exact U6 (by first|rfl|omega|(simp;done)) (by omega)|exact Yy (by omega)|rfl)) ?_))))))
      refine Zu rfl (Zd Lo rfl (JL.store_box 1 UA (.r rfl) rfl (.r rfl) (by first|rfl|assumption) rfl rfl rfl rfl ?_))
      refine Zn (Zs (Zm rfl (Zm rfl (Zu rfl (Zd Ra rfl (Zl 1 UA rfl (Zm rfl (Zq rfl (QW.max2 (.r rfl) (.r rfl)) (Zu rfl ?_)))))))))
      refine Zd Ra rfl (JL.store_box 1 UA (.r rfl) rfl (.r rfl) (by first|rfl|assumption) rfl rfl rfl rfl ?_)
      refine Zn (Zs (Zd UJ rfl (Zl 0 YN rfl (Zq rfl (by first|exact Qh Q6 (.r rfl) (TrT.css_length _ _)|exact Qh Q6 (.r rfl) (AtT.css_length _)|exact Qw Q6 (.r rfl)|exact QW.len_nil Q6 (.r rfl)) ?_))))
      refine Zq rfl (QW.move .const) (Zn (J.block (Ua (ι:=Nat×RC) [0,2,42,43] (fun⟨j,u⟩=>[(44,.c (.int .i64 (j:Int)))]) (fun⟨j,u⟩ oo=>List.set oo 1 (wkB b u)) (fun⟨j,u⟩=>j≤l.length∧(0≤u.n∧u.n≤256)∧(TrT.mk tg ky tx ats l).walk level ⟨wn,wd,we⟩=TrT.walks (l.drop j) (level+1) u) (fun⟨j,u⟩=>l.length-j) ⟨0,⟨wn+1,if level>wd then level else wd,0⟩⟩ (⟨Nat.zero_le _,by show 0≤wn+1∧wn+1≤256;omega,P4 he hq⟩) (QQ (.cons rfl lr (.cons rfl lr (.cons rfl lr (.cons rfl lr (.cons rfl lr .nil))))) (Reown.refl _) (fun _ h=>by first|exact h|simp[h])) ?_)))
      intro⟨j,u⟩ ⟨hj,hu,hwk⟩
      refine J.conv (by(try simp only[nl,Qj,QA,QC,Qy,QZ,AV.cellsOf,Qc,Qd,Nat.reduceAdd]);rfl) ?_
      refine Zs (Zq rfl (QW.lss (.r rfl) (.r rfl)) (Zn (J.seq ?_)))
      refine J.cond (.r rfl) (fun c3=>?_) (fun c3=>?_)
      · skip
        have hlt:j<l.length:=by simpa[TrT.css_length]using c3
        refine Zk (J.seq (J.block (Zs (Zq rfl (Qi Q6 QB rfl (.r rfl) (.r rfl) (by first|rfl|omega|(simp;done)) (by exact TrT.css_getE _ hlt)) ?_))))
        refine Zq rfl (by first|exact Qm QB (.r rfl) rfl rfl|exact Qm QB (.r rfl) (QF (TrT.cs_length _ _) rfl) (TrT.cs_length _ _)) ?_
        refine JL.alloc z46 rfl rfl fun b7=>?_
        first|refine Qa 0 QB (.r rfl) rfl (.r rfl) (by first|rfl|assumption) rfl rfl rfl ?_|refine Qa 0 QB (.r rfl) rfl (.r rfl) (by first|rfl|assumption) rfl (TrT.cs_length _ _) rfl ?_|refine Qa 0 QB (.r rfl) rfl (.r rfl) (by first|rfl|assumption) (TrT.cs_length _ _) rfl rfl ?_|refine Qa 0 QB (.r rfl) rfl (.r rfl) (by first|rfl|assumption) (TrT.cs_length _ _) (TrT.cs_length _ _) rfl ?_|refine JL.store_box 0 QB (.r rfl) rfl (.r rfl) (by first|rfl|assumption) rfl rfl rfl rfl ?_|refine JL.store_box 0 QB (.r rfl) rfl (.r rfl) (by first|rfl|assumption) (TrT.cs_length _ _) rfl rfl rfl ?_
        refine Zn (Qg (Zm rfl (Zq rfl (by first|exact Qe 0 QB (.r rfl) rfl rfl rfl|exact Qe 0 QB (.r rfl) rfl (Qo (TrT.cs_length _ _) rfl) (TrT.cs_length _ _)) ?_)))
        refine Zm rfl (Zq rfl (QW.add (.r rfl) .const (by first|exact U6 (by first|rfl|omega|(simp;done)) (by omega)|exact Yy (by omega)|rfl)) ?_)
        refine JL.callRF [.k,.k,.p] E4 rfl Lent.nil (fun _=>(.cons (.r rfl) (.cons (.r rfl) (.cons (.r rfl) .nil)))) (ih (h7 _ (List.getElem_mem hlt)) (TrT.sz_get hn hlt) hu hlv2) (.inl rfl) fun x52 o52 h52=>?_
        obtain⟨rfl,rfl⟩:=h52
        refine JL.nil (blkQ.n (thenQ.n (Qg (Zq rfl (QW.add (.r rfl) .const (by first|exact U6 (by first|rfl|omega|(simp;done)) (by omega)|exact Yy (by omega)|rfl)) ?_))))
        refine Zm rfl (Zn ?_)
        rw[FX hlt]at hwk
        exact⟨⟨j+1,l[j].walk (level+1) u⟩,⟨hlt,TrT.walk_bd _ _ _ hu,hwk⟩,by show l.length-(j+1)<l.length-j;omega,QQ (.cons rfl lr (.cons rfl lr (.cons rfl lr (.cons rfl lr (.cons rfl lr .nil))))) (Q3 1 _ rfl) (fun _ h=>by first|exact h|simp[h])⟩
      have hge:l.length≤j:=by simpa[TrT.css_length]using c3
      exact J.exit (Qz (Qz (QY (Zr [.k,.p] (RetEv.none rfl) rfl ⟨_,rfl,rfl,by rw[hwk,List.drop_of_length_le hge];rfl⟩))))
    have he:¬we=0:=by simpa using c1
    refine Zk (J.seq (Zs (Zm rfl (Zu rfl (Zd KU rfl (Zl 1 We rfl (Zq rfl (QW.neq (.r rfl) .const) (Zn ?_))))))))
    refine J.cond (.r rfl) (fun c2=>?_) (fun c2=>absurd c2 (by simpa using he))
    exact J.ret (thenQ.r (Zr [.k,.p] (RetEv.none rfl) rfl ⟨_,rfl,rfl,by rw[P5 he];rfl⟩))
theorem F4{fr:Bool}{t:TrT}(hw:t.wf):Fn Tryz.prog 57 [.agg (t.cs fr)] (.tup [.c (.int .i64 (K3 t).1),.c (.int .i64 (K3 t).2.1),.c (.int .i64 (K3 t).2.2)]):=by
  obtain⟨tg,ky,tx,ats,l⟩:=t
  obtain⟨⟨wn,wd,we⟩,hW⟩:∃q,(TrT.mk tg ky tx ats l).walk 1 ⟨0,0,0⟩=q:=⟨_,rfl⟩
  refine AC.of_J Tryz.func57 rfl Tryz.ntmps57 rfl fun w0 A0=>?_
  refine Zs (Qs (.r rfl) rfl fun b1=>Zq rfl (QW.assign .const) (Zq rfl (QW.assign .const) (Zq rfl (QW.assign .const) (Zn (J.seq (Zs (Zd KC rfl (Zl 0 UO rfl ?_))))))))
  refine Zq rfl (WJ (.r rfl) .const) (Zn ?_)
  refine J.cond (.r rfl) (fun c1=>?_) (fun c1=>?_)
  · skip
    have h0:tg=[]:=by simpa using c1
    exact Zs (Zq rfl (QW.assign .const) (Zq rfl (QW.assign .const) (Zq rfl (QW.assign .const) (Zn (J.ret (thenQ.r (Zr [.k] (U2 rfl (REv.tmp rfl lr) (REv.tmp rfl lr) (REv.tmp rfl lr)) rfl ⟨by rw[show K3 (.mk tg ky tx ats l)=(0,0,9)from if_pos h0],rfl⟩)))))))
  have h0:¬tg=[]:=by simpa using c1
  refine Zk (Zs (JL.alloc z212 rfl rfl fun b5=>Zn (J.seq (Zs (Zq rfl (by first|exact Qe 1 QB (.r rfl) rfl rfl rfl|exact Qe 1 QB (.r rfl) rfl (Qo (TrT.cs_length _ _) rfl) (TrT.cs_length _ _)) ?_)))))
  refine JL.callRF [.p] E4 rfl Lent.nil (fun _=>(.cons (.r rfl) (.cons (.r rfl) (.cons .const .nil)))) (Sa _ (fr:=fr) (w:=⟨0,0,0⟩) (level:=1) (b:=b5) hw (Nat.le_refl _) ⟨by decide,by decide⟩ ⟨by decide,by decide⟩) (.inl rfl) fun x10 o10 h10=>?_
  obtain⟨rfl,rfl⟩:=h10
  refine Zn (J.seq ?_)
  rw[hW]
  refine Qg (Zd KU rfl (Zl 0 We rfl (Zq rfl (QW.neq (.r rfl) .const) (Zn ?_))))
  refine J.cond (.r rfl) (fun c2=>?_) (fun c2=>?_)
  · skip
    have he:¬we=0:=by simpa using c2
    refine J.seq (Ud 4 mixed (by kernel_rfl) (by kernel_rfl) (by kernel_rfl) rfl ?_)
    refine .cons [] rfl rfl rfl (.q rfl (Qf KU (.r rfl) rfl)) ?_
    refine .cons [14] rfl rfl rfl (.q rfl (Qb 0 We (.r rfl) rfl rfl)) ?_
    refine .cons [] rfl rfl rfl (.q rfl (QW.assign .const)) ?_
    refine .cons [] rfl rfl rfl (.q rfl (QW.assign .const)) ?_
    refine .nil ?_
    exact Za rfl (Zn (J.ret (thenQ.r (Zr [.k,.k] (U2 rfl (REv.tmp rfl lr) (REv.tmp rfl lr) (REv.tmp rfl lr)) rfl ⟨by rw[show K3 (.mk tg ky tx ats l)=(0,0,we)from by rw[K3,if_neg (show ¬(TrT.mk tg ky tx ats l).tag=[]from h0),hW,if_pos he]],rfl⟩))))
  obtain rfl:we=0:=by simpa using c2
  refine Zk (J.seq (Ud 5 mixed (by kernel_rfl) (by kernel_rfl) (by kernel_rfl) rfl ?_))
  refine .cons [] rfl rfl rfl (.q rfl (Qf Lo (.r rfl) rfl)) ?_
  refine .cons [16] rfl rfl rfl (.q rfl (Qb 0 UA (.r rfl) rfl rfl)) ?_
  refine .cons [] rfl rfl rfl (.q rfl (Qf Ra (.r rfl) rfl)) ?_
  refine .cons [18] rfl rfl rfl (.q rfl (Qb 0 UA (.r rfl) rfl rfl)) ?_
  refine .cons [17] rfl rfl rfl (.q rfl (QW.assign (.r rfl))) ?_
  refine .nil ?_
  exact Za rfl (Zq rfl (QW.assign .const) (Zn (J.ret (Zr [.k,.k] (U2 rfl (REv.tmp rfl lr) (REv.tmp rfl lr) (REv.tmp rfl lr)) rfl ⟨by rw[show K3 (.mk tg ky tx ats l)=(wn,wd,0)from by rw[K3,if_neg (show ¬(TrT.mk tg ky tx ats l).tag=[]from h0),hW,if_neg (by simp)]],rfl⟩))))
theorem CG{fr:Bool}{t:TrT}(hw:t.wf):Fn Tryz.prog 24 [.agg (t.cs fr)] (.c (.int .i64 t.err)):=by
  refine AC.of_J Tryz.func24 rfl Tryz.ntmps24 rfl fun w0 A0=>?_
  refine Zs (Qs (.r rfl) rfl fun b1=>Zq rfl (QW.assign .const) (Zn (Zs (Zq rfl (by first|exact Qe 0 QB (.r rfl) rfl rfl rfl|exact Qe 0 QB (.r rfl) rfl (Qo (TrT.cs_length _ _) rfl) (TrT.cs_length _ _)) ?_))))
  refine Zq rfl (QW.call gofn57 (.cons (.r rfl) .nil) (F4 hw)) (Zm rfl (Zx rfl (Zx rfl (Zx rfl (Za rfl (Za rfl (Za rfl (Zn (Zs ?_)))))))))
  exact Zm rfl (Za rfl (Zn (J.ret (Zr [.k] (RetEv.one rfl (REv.tmp rfl lr)) rfl ⟨by rw[← Bg],rfl⟩))))

end
section
/- Walks: templates: may one be? a value as a word. -/
set_option maxRecDepth 10000
set_option maxHeartbeats 4000000
theorem LQ{fr:Bool}{e:EX}(hw:e.wf):Fn Tryz.prog 145 [.agg (e.cs fr)] (.c (.bool e.none)):=by
  refine AC.of_J Tryz.func145 rfl Tryz.ntmps145 rfl fun w0 A0=>?_
  refine Zs (Qs (.r rfl) rfl fun b1=>Zq rfl (QW.assign .const) (Zn (Zs (Zq rfl (by first|exact Qe 0 Ub (.r rfl) rfl rfl rfl|exact Qe 0 Ub (.r rfl) rfl (Qo xl rfl) xl) ?_))))
  exact Zq rfl (QW.build (idx:=[]) pl36 P0 rfl .nil rfl rfl rfl rfl) (Zq rfl (QW.call EZ (.cons (.r rfl) (.cons (Ev.le (.r rfl) ((.aggL (.cons lr (.cons lr (.cons lr (.cons (.nil true false _) .nil))))))) .nil)) (Ft (fr:=fr) (fr2:=true) (v:=e) (u:=.nil) Xc.self Xc.self hw EX.wf_nil)) (Za rfl (Zn (J.ret (Zr [.k] (RetEv.one rfl (REv.tmp rfl lr)) rfl ⟨rfl,rfl⟩)))))
theorem Mz{w:Int}{t:QN}{k x:EX}{a:List SetT}{l:List TmT}:(TmT.mk w t k x a l).what=w∧(TmT.mk w t k x a l).tag=t∧(TmT.mk w t k x a l).key=k∧(TmT.mk w t k x a l).ex=x∧(TmT.mk w t k x a l).attrs=a∧(TmT.mk w t k x a l).kids=l:=⟨rfl,rfl,rfl,rfl,rfl,rfl⟩
theorem Sq{w:Int}{t:QN}{k x:EX}{a:List SetT}{l:List TmT}(h1:w=1)(h:(a.map SetT.key).all Uq=false∨XE (a.map SetT.key)=false):(TmT.mk w t k x a l).partOk=false:=by
  rw[TmT.partOk,if_pos h1]
  rcases h with h|h<;>simp[h]
theorem Bv{w:Int}{t:QN}{k x:EX}{a:List SetT}{l:List TmT}(h1:w=1)(h2:(a.map SetT.key).all Uq=true)(h3:XE (a.map SetT.key)=true):(TmT.mk w t k x a l).partOk=(Uq t&&x.none):=by
  rw[TmT.partOk,if_pos h1,h2,h3];simp
theorem SetT.at0{fr:Bool}{s:SetT}:(s.cs fr)[0]? =some (.c (Q4 s.key)):=rfl
theorem all_no{l:List SetT}{j:Nat}(h:j<l.length)(hn:Uq l[j].key=false):(l.map SetT.key).all Uq=false:=by
  rw[Bool.eq_false_iff];intro hc
  have:=List.all_eq_true.1 hc l[j].key (List.mem_map.2 ⟨_,List.getElem_mem h,rfl⟩)
  rw[hn]at this;cases this
theorem all_yes{l:List SetT}(h:∀i (hi:i<l.length),Uq l[i].key=true):(l.map SetT.key).all Uq=true:=by
  rw[List.all_eq_true]
  intro x hx
  obtain⟨s,hs,rfl⟩:=List.mem_map.1 hx
  obtain⟨i,hi,rfl⟩:=List.getElem_of_mem hs
  exact h i hi
theorem R9{l:List SetT}{j:Nat}(h:j<l.length){ks:List QN}(hk:∀s,ks.contains s=((l.map SetT.key).take j).contains s):((l.map SetT.key).take j).contains ((l.map SetT.key)[j]'(by simpa using h))=ks.contains l[j].key:=by
  rw[hk];simp
theorem FZ{fr:Bool}{t:TmT}(hw:t.wf):Fn Tryz.prog 96 [.agg (t.cs fr)] (.c (.bool t.partOk)):=by
  obtain⟨w,tg,k,x,a,l⟩:=t
  obtain⟨h0,h1,h2,h3,h4,h5,h6,h7⟩:=hw.inv
  have ha:a.length≤9223372036854775805:=by unfold Qr at h4;omega
  have hl:l.length≤9223372036854775805:=by unfold Qr at h6;omega
  refine AC.of_J Tryz.func96 rfl Tryz.ntmps96 rfl fun w0 A0=>?_
  refine Zs (Qs (.r rfl) rfl fun b1=>Zq rfl (QW.assign .const) (Zn (Zs (Zd Dv rfl (Zq rfl (Qb 0 UO (.r rfl) rfl TmT.at1) (Zq rfl (WJ (.r rfl) .const) (Zm rfl (Zg rfl (fun hg=>(Qf Du (.r rfl) rfl)) ?_))))))))
  refine Zg rfl (fun hg=>(Qe 0 Ub (.when rfl hg) rfl Lw xl)) (Zg rfl (fun hg=>(QW.call E0 (.cons (.when rfl hg) .nil) (LQ h2))) (Zq rfl (QW.pick_and (.r rfl) (.r rfl)) (Zm rfl (Zg rfl (fun hg=>(Qf Gw (.r rfl) rfl)) (Zg rfl (fun hg=>(Qb 0 TY (.when rfl hg) rfl YJ)) (Zg rfl (fun hg=>(by first|exact Qh Ye (.when rfl hg) (TmT.css_length _ _)|exact Qh Ye (.when rfl hg) (SetT.css_length _ _)|exact Qw Ye (.when rfl hg)|exact QW.len_nil Ye (.when rfl hg))) ?_))))))
  refine Zg rfl (fun hg=>(QW.eql (.when rfl hg) .const)) (Zq rfl (QW.pick_and (.r rfl) (.r rfl)) (Za rfl (Zn (J.seq (Zs (Zd N6 rfl (Zq rfl (Qb 0 UA (.r rfl) rfl TmT.at0) (Zn (J.block ?_)))))))))
  refine Zs (Zq rfl (QW.eql (.r rfl) .const) (Za rfl (Zn ?_)))
  refine J.cond (.r rfl) (fun c1=>?_) (fun c1=>?_)
  · skip
    have hw1:w=1:=by simpa[Mz]using c1
    refine Zs (JL.makeMap rfl fun b25=>Za rfl (Zn (J.seq (Zs (Zd Gw rfl (Zq rfl (Qb 1 TY (.r rfl) rfl YJ) (Zq rfl (by first|exact Qh Ye (.r rfl) (TmT.css_length _ _)|exact Qh Ye (.r rfl) (SetT.css_length _ _)|exact Qw Ye (.r rfl)|exact QW.len_nil Ye (.r rfl)) ?_)))))))
    refine Zq rfl (QW.move .const) (Zn (J.block (Ua (ι:=Nat×List QN) [1,4,27,28] (fun⟨j,ks⟩=>[(29,.c (.int .i64 (j:Int)))]) (fun⟨j,ks⟩ oo=>List.set oo 0 (mpK b25 ks)) (fun⟨j,ks⟩=>j≤a.length∧(∀s,ks.contains s=((a.map SetT.key).take j).contains s)∧∀i (hi:i<a.length),i<j→Uq a[i].key=true∧((a.map SetT.key).take i).contains ((a.map SetT.key)[i]'(by simpa using hi))=false) (fun⟨j,ks⟩=>a.length-j) ⟨0,[]⟩ (⟨Nat.zero_le _,fun s=>rfl,fun i _ hi=>by omega⟩) (QQ (.cons rfl lr (.cons rfl lr (.cons rfl lr (.cons rfl lr (.cons rfl lr .nil))))) (Reown.refl _) (fun _ h=>by first|exact h|simp[h])) ?_)))
    intro⟨j,ks⟩ ⟨hj,hks,hall⟩
    refine J.conv (by(try simp only[nl,Qj,QA,QC,Qy,QZ,AV.cellsOf,Qc,Qd,Nat.reduceAdd]);rfl) ?_
    refine Zs (Zq rfl (QW.lss (.r rfl) (.r rfl)) (Zn (J.seq ?_)))
    refine J.cond (.r rfl) (fun c2=>?_) (fun c2=>?_)
    · skip
      have hlt:j<a.length:=by simpa[SetT.css_length,Mz]using c2
      refine Zk (J.seq (J.block (Zs (Zq rfl (Qi Ye U9 rfl (.r rfl) (.r rfl) (by first|rfl|omega|(simp;done)) (by exact SetT.css_getE _ hlt)) ?_))))
      refine Zq rfl (by first|exact Qm U9 (.r rfl) rfl rfl|exact Qm U9 (.r rfl) (QF (SetT.cs_length _ _) rfl) (SetT.cs_length _ _)) ?_
      refine JL.alloc FS rfl rfl fun b6=>?_
      first|refine Qa 0 U9 (.r rfl) rfl (.r rfl) (by first|rfl|assumption) rfl rfl rfl ?_|refine Qa 0 U9 (.r rfl) rfl (.r rfl) (by first|rfl|assumption) rfl (SetT.cs_length _ _) rfl ?_|refine Qa 0 U9 (.r rfl) rfl (.r rfl) (by first|rfl|assumption) (SetT.cs_length _ _) rfl rfl ?_|refine Qa 0 U9 (.r rfl) rfl (.r rfl) (by first|rfl|assumption) (SetT.cs_length _ _) (SetT.cs_length _ _) rfl ?_|refine JL.store_box 0 U9 (.r rfl) rfl (.r rfl) (by first|rfl|assumption) rfl rfl rfl rfl ?_|refine JL.store_box 0 U9 (.r rfl) rfl (.r rfl) (by first|rfl|assumption) (SetT.cs_length _ _) rfl rfl rfl ?_
      refine Zn (J.seq (Zs (Zm rfl (Zd Lq rfl (Zq rfl (Qb 0 UO (.r rfl) rfl SetT.at0) (Zq rfl (Ha 1 Ex Mx (fun w=>by kernel_rfl) (.r rfl) (.r rfl) rfl) ?_))))))
      refine Zm rfl (Zg rfl (fun hg=>(Qf Lq (.r rfl) rfl)) (Zg rfl (fun hg=>(Qb 0 UO (.when rfl hg) rfl SetT.at0)) (Zg rfl (fun hg=>(QW.call Li (.cons (.when rfl hg) .nil) (X3 (h5 _ (List.getElem_mem hlt)).key))) (Zg rfl (fun hg=>(QW.not (.when rfl hg))) (Zq rfl (QW.pick_or (.r rfl) (.r rfl)) (Zn ?_))))))
      refine J.cond (.r rfl) (fun c3=>?_) (fun c3=>?_)
      · skip
        have hbad:ks.contains a[j].key=true∨Uq a[j].key=false:=by simpa[Mz]using c3
        refine Zs (Zq rfl (QW.assign .const) (Zn (J.ret (thenQ.r (blkQ.r (thenQ.r (thenQ.r (blkQ.r (thenQ.r ?_)))))))))
        exact blkQ.r (thenQ.r (Zr [.k,.k,.k] (RetEv.one rfl (REv.tmp rfl lr)) rfl ⟨U0 (by rw[Sq hw1 (hbad.elim (fun h=>.inr (CX (by simpa using hlt) ((R9 hlt hks).trans h))) (fun h=>.inl (all_no hlt h)))]),rfl⟩))
      obtain⟨hno,hle⟩:ks.contains a[j].key=false∧Uq a[j].key=true:=by simpa[Mz]using c3
      refine Zk (Qg (Zm rfl (Zd Lq rfl (Zq rfl (Qb 0 UO (.r rfl) rfl SetT.at0) (Nx 1 Ex Mx (.r rfl) (.r rfl) .const rfl rfl (JL.nil (blkQ.n (thenQ.n (Qg ?_)))))))))
      refine Zq rfl (QW.add (.r rfl) .const (by first|exact U6 (by first|rfl|omega|(simp;done)) (by omega)|exact Yy (by omega)|rfl)) ?_
      refine Zm rfl (Zn ?_)
      exact⟨⟨j+1,TD ks a[j].key⟩,⟨hlt,fun s=>by rw[TC,List.contains_append,hks,List.take_succ_eq_append_getElem (by simpa using hlt),List.contains_append];simp,fun i hia hi=>by rcases Nat.lt_succ_iff_lt_or_eq.1 hi with h|rfl;exact hall i hia h;exact⟨hle,(R9 hlt hks).trans hno⟩⟩,by show a.length-(j+1)<a.length-j;omega,QQ (.cons rfl lr (.cons rfl lr (.cons rfl lr (.cons rfl lr (.cons rfl lr .nil))))) (Q3 1 _ rfl) (fun _ h=>by first|exact h|simp[h])⟩
    have hge:a.length≤j:=by simpa[SetT.css_length,Mz]using c2
    refine J.exit (Qz (Qz (QY (thenQ.n (Zs (Zd Dv rfl (Zq rfl (Qb 1 UO (.r rfl) rfl TmT.at1) (Zq rfl (QW.call Li (.cons (.r rfl) .nil) (X3 h1)) (Zm rfl ?_)))))))))
    exact Zg rfl (fun hg=>(Qf N5 (.r rfl) rfl)) (Zg rfl (fun hg=>(Qe 1 Ub (.when rfl hg) rfl G7 xl)) (Zg rfl (fun hg=>(QW.call E0 (.cons (.when rfl hg) .nil) (LQ h3))) (Zq rfl (QW.pick_and (.r rfl) (.r rfl)) (Za rfl (Zn (J.ret (blkQ.r (thenQ.r (Zr [.k,.k] (RetEv.one rfl (REv.tmp rfl lr)) rfl ⟨U0 (by rw[Bv hw1 (all_yes fun i hi=>(hall i hi (by omega)).1) (T9 fun i hi=>(hall i (by simpa using hi) (by simp at hi;omega)).2)];exact Iff.rfl),rfl⟩)))))))))
  have hw1:¬w=1:=by simpa[Mz]using c1
  refine Zs (Zq rfl (QW.eql (.r rfl) .const) (Za rfl (Zn ?_)))
  refine J.cond (.r rfl) (fun c2=>?_) (fun c2=>?_)
  · skip
    have hw2:w=2:=by simpa[Mz]using c2
    refine Zs (Zm rfl (Zm rfl (Zg rfl (fun hg=>(Qf KD (.r rfl) rfl)) (Zg rfl (fun hg=>(Qb 0 RF (.when rfl hg) rfl YI)) (Zg rfl (fun hg=>(by first|exact Qh Y8 (.when rfl hg) (TmT.css_length _ _)|exact Qh Y8 (.when rfl hg) (SetT.css_length _ _)|exact Qw Y8 (.when rfl hg)|exact QW.len_nil Y8 (.when rfl hg))) ?_)))))
    exact Zg rfl (fun hg=>(QW.eql (.when rfl hg) .const)) (Zq rfl (QW.pick_and (.r rfl) (.r rfl)) (Za rfl (Zn (J.ret (blkQ.r (thenQ.r (Zr [.k] (RetEv.one rfl (REv.tmp rfl lr)) rfl ⟨U0 (by rw[TmT.partOk,if_neg hw1,if_pos hw2,Bool.eq_iff_iff];simp[SetT.css_length,TmT.css_length,Mz]),rfl⟩)))))))
  have hw2:¬w=2:=by simpa[Mz]using c2
  refine J.seq (Zs (Zq rfl (QW.eql (.r rfl) .const) (Za rfl (Zn ?_))))
  refine J.cond (.r rfl) (fun c3=>?_) (fun c3=>?_)
  · skip
    have hw3:w=3:=by simpa[Mz]using c3
    refine Zk ?_
    refine J.cond (.r rfl) (fun c4=>?_) (fun c4=>absurd c4 (by first|(rw[c3];decide)|(simp at*;done)|(simp at*;omega)))
    exact Zs (Zm rfl (Za rfl (Zn (J.ret (blkQ.r (thenQ.r (Zr [.k] (RetEv.one rfl (REv.tmp rfl lr)) rfl ⟨U0 (by rw[TmT.partOk,if_neg hw1,if_neg hw2,if_pos (.inl hw3),Bool.eq_iff_iff];simp[SetT.css_length,Mz]),rfl⟩)))))))
  have hw3:¬w=3:=by simpa[Mz]using c3
  refine Qg (Zq rfl (QW.eql (.r rfl) .const) (Za rfl (Zn ?_)))
  refine J.cond (.r rfl) (fun c4=>?_) (fun c4=>?_)
  · skip
    have hw4:w=4:=by simpa[Mz]using c4
    exact Zs (Zm rfl (Za rfl (Zn (J.ret (blkQ.r (thenQ.r (Zr [.k] (RetEv.one rfl (REv.tmp rfl lr)) rfl ⟨U0 (by rw[TmT.partOk,if_neg hw1,if_neg hw2,if_pos (.inr hw4),Bool.eq_iff_iff];simp[SetT.css_length,Mz]),rfl⟩)))))))
  have hw4:¬w=4:=by simpa[Mz]using c4
  exact J.skip (blkQ.n (thenQ.n (Zs (Zq rfl (QW.assign .const) (Zn (J.ret (Zr [.k] (RetEv.one rfl (REv.tmp rfl lr)) rfl ⟨U0 (by rw[TmT.partOk,if_neg hw1,if_neg hw2,if_neg (fun h=>h.elim hw3 hw4)]),rfl⟩)))))))

end
section
/- Two structs of two texts: are they one? -/
theorem ba_beq(a b:QN):((⟨a.toArray⟩:ByteArray).toList==(⟨b.toArray⟩:ByteArray).toList)=(a==b):=by rw[Uu,Uu]
theorem Fq{P:Program}{t ts:TypeId}(h1:P.underlying t=some (.struct (P.fieldsOf t)))(h2:P.stoodInHeld t=false)(h3:((P.fieldsOf t).toList.map fun f=>(decide (f.name≠ "_"),f.type,f.offset))=[(true,ts,0),(true,ts,1)])
    (h4:P.underlying ts=some .string) {n B:Nat} (h5:Un P ts=some (false,n,B)) (a b c e:QN) (w:World):(Op.equalIn 10000 t (.agg #[Q4 a,Q4 b]) (.agg #[Q4 c,Q4 e])).run P w=.ok (a==c&&b==e) w:=by
  obtain⟨f0,f1,hf⟩:∃f0 f1,(P.fieldsOf t).toList=[f0,f1]:=by
    generalize (P.fieldsOf t).toList=l at h3
    have hl:l.length=2:=by have:=congrArg List.length h3;simpa using this
    match l,hl with
    |[f0,f1],_=>exact⟨f0,f1,rfl⟩
  rw[hf]at h3
  simp only[List.map_cons,List.map_nil,List.cons.injEq,Prod.mk.injEq,decide_eq_true_eq,and_true]at h3
  obtain⟨⟨n0,t0,o0⟩,n1,t1,o1⟩:=h3
  rw[run_equalIn_agg w 9999 t _ _ h1 h2,hf]
  have hp:∀(xs:Array Value) k v,xs[k]? =some v→(part ts xs k).run P w=.ok v w:=fun xs k v hv=>by
    simp only[part,Sem.run_bind,Y2 h5,Result.andThen_ok,Bool.false_eq_true,if_false,hv,Sem.run_pure]
  have hs:∀x y:QN,(Op.equalIn 9999 ts (Q4 x) (Q4 y)).run P w=.ok (x==y) w:=fun x y=>by
    rw[run_equalIn_string w 9998 ts _ _ h4,ba_beq]
  simp only[Op.eqFields,n0,n1,ne_eq,not_false_eq_true,if_true,t0,t1,o0,o1,Sem.run_bind,hp #[Q4 a,Q4 b] 0 (Q4 a) rfl,hp #[Q4 c,Q4 e] 0 (Q4 c) rfl,hp #[Q4 a,Q4 b] 1 (Q4 b) rfl,hp #[Q4 c,Q4 e] 1 (Q4 e) rfl,Result.andThen_ok,hs,Sem.run_ite]
  cases h6:(a==c)<;>cases h7:(b==e)<;>simp[hs,h7,Result.andThen_ok]
theorem DX{P:Program}{E:Wy}{st:St}{ty t ts yt:TypeId}{pos:String}{af:Array Edge}{d:Option Tmp}{gd:Option (Nat×Bool)}{x y:Operand}{n B:Nat}{a b c e:QN}(h1:P.underlying t=some (.struct (P.fieldsOf t)))(h2:P.stoodInHeld t=false)
    (h3:((P.fieldsOf t).toList.map fun f=>(decide (f.name≠ "_"),f.type,f.offset))=[(true,ts,0),(true,ts,1)]) (h4:P.underlying ts=some .string) (h5:Un P ts=some (false,n,B)) (h6:P.eqGuardType P.depth t=false)
    (hx:Ev E st x (.agg [.c (Q4 a),.c (Q4 b)])) (hy:Ev E st y (.agg [.c (Q4 c),.c (Q4 e)])):QW P E st ⟨d,.binOp .neq t x y yt,ty,pos,af,gd⟩ (.c (.bool (!(a==c&&b==e)))):=.pure fun A act w hs=>by
  have two:∀{u:Value} {p q:QN},Rd w A u (.agg [.c (Q4 p),.c (Q4 q)])→u=.agg #[Q4 p,Q4 q]:=fun {u p q} h=>by
    obtain⟨vs,rfl,hn,hc⟩:=h.of_agg
    obtain⟨u0,g0,_,r0⟩:=hc 0 _ rfl
    obtain⟨u1,g1,_,r1⟩:=hc 1 _ rfl
    have e0:=r0.eq
    have e1:=r1.eq
    subst e0 e1
    congr 1
    apply Array.ext_getElem?
    intro i
    match i with
    |0=>simpa using g0
    |1=>simpa using g1
    |i+2=>rw[Array.getElem?_eq_none (by simp[hn]),Array.getElem?_eq_none (by simp)]
  refine⟨.bool (!(a==c&&b==e)),?_,.c _⟩
  simp only[execOp,two (hx A act w hs),two (hy A act w hs),Sem.run_bind,run_eqGuard_agg w .neq t _ _ _ _ h6,Result.andThen_ok,run_neq_struct,Fq h1 h2 h3 h4 h5,Sem.run_pure]
theorem D1{P:Program}{E:Wy}{st:St}{t et ty:TypeId}{pos:String}{af:Array Edge}{dd:Option Tmp}{gd:Option (Nat×Bool)}{x y:Operand}{B:Nat}{ys:List AV}{v:AV}{ln m:Nat}{k:IntKind}{i:Int}(hU:P.underlying t=some (.array ln et))(hT:Un P et=some (false,1,B))
    (h:Ev E st x (.agg ys)) (hi:Ev E st y (.c (.int k i))) (him:i=(m:Int)) (hm:m<ln) (hz:ys[m]? =some v):QW P E st ⟨dd,.index t x y,ty,pos,af,gd⟩ v:=.pure fun A a w hs=>by
  obtain⟨vs,hv,hn,hc⟩:=(h A a w hs).of_agg
  subst him
  have hlt:(m:Int)<(ln:Int):=by omega
  obtain⟨u,k1,_,k2⟩:=hc m v hz
  rw[Nat.zero_add]at k1
  exact⟨u,by simp[execOp,Instr.index,asIntOf,asInt,hi.eq hs,Qq _ hU,hv,Us hT,CO hT k1,hm],k2⟩

end
section
/- Walks: templates: the walk over parts, which may be; a value as a word. -/
set_option maxRecDepth 10000
set_option maxHeartbeats 4000000
theorem XI(ok:Bool)(e:Int):AC Tryz.prog 83 [] [.c (.bool ok),.c (.int .i64 e)] (PanR (ok=true) (WT e) fun x o=>x=.tup []∧o=[]):=by
  refine AC.of_J Tryz.func83 rfl Tryz.ntmps83 rfl fun w0 A0=>?_
  refine Zs (Zm rfl (Zq rfl (QW.not (.r rfl)) (Zn ?_)))
  refine J.cond (.r rfl) (fun c1=>?_) (fun c1=>?_)
  · skip
    have ho:¬ok=true:=by(simp at c1;simp[c1])
    refine Qg (Zm rfl (Zq rfl (Yx ⟨_,Tryz.underlying47,by intro ms h;cases h⟩ (.r rfl)) ?_))
    refine JL.panic (.r rfl) ?_
    exact⟨_,QI [] _,_,rfl,rfl,Qk [] _,PanR.pan ho⟩
  have ho:ok=true:=by simpa using c1
  exact J.skip (Zr [] (RetEv.none rfl) rfl (.inl ⟨ho,_,rfl,rfl,rfl⟩))
theorem Y6(e:Int):AC Tryz.prog 46 [] [.c (.int .i64 e)] (PanR (e=0) (WT e) fun x o=>x=.tup []∧o=[]):=by
  refine AC.of_J Tryz.func46 rfl Tryz.ntmps46 rfl fun w0 A0=>?_
  refine Qg (Zm rfl (Zq rfl (QW.eql (.r rfl) .const) (Zm rfl ?_)))
  refine Qn [] Hv rfl Lent.nil (fun _=>(.cons (.r rfl) (.cons (.r rfl) .nil))) (XI _ e) (.inl rfl) (fun k5 x5 o5 h5=>?_) (fun k5=>?_)
  rotate_left
  · skip
    exact⟨_,QI [] _,_,rfl,rfl,Qk [] _,PanR.pan (by simpa using k5)⟩
  obtain⟨rfl,rfl⟩:=h5
  exact JL.nil (Zr [] (RetEv.none rfl) rfl (.inl ⟨by simpa using k5,_,rfl,rfl,rfl⟩))
def VwR(r:Int×Int)(b:Nat):Wl→List Own→Prop:=PanR (r.2=0) (WT r.2) fun x o=>x=.tup []∧o=[UB b r.1]
theorem VwR.ok{r:Int×Int}{b:Nat}{n:Int}(h:r=(n,0)):VwR r b (.ret (.tup [])) [UB b n]:=.inl ⟨by rw[h],_,rfl,rfl,by rw[h]⟩
theorem VwR.er{r:Int×Int}{b:Nat}{n c:Int}(h:r=(n,c))(hc:¬c=0):VwR r b (.pan (.iface 47 (.int .i64 c))) []:=.inr ⟨by rw[h];exact hc,by rw[h];rfl,rfl⟩
section
variable {w:Int} {t:QN} {k x:EX} {a:List SetT} {l:List TmT} {level n:Int}
theorem own_10(h:8<level):(TmT.mk w t k x a l).ownE level n=10:=if_pos h
theorem own_3(h:¬8<level)(h2:64≤n∨16<a.length∨16<l.length):(TmT.mk w t k x a l).ownE level n=3:=by rw[TmT.ownE,if_neg h];exact if_pos h2
theorem own_9(h:¬8<level)(h2:¬(64≤n∨16<a.length∨16<l.length))(h3:(TmT.mk w t k x a l).partOk=false):(TmT.mk w t k x a l).ownE level n=9:=by rw[TmT.ownE,if_neg h];exact(if_neg h2).trans (if_pos h3)
theorem Eo(h:¬8<level)(h2:¬(64≤n∨16<a.length∨16<l.length))(h3:(TmT.mk w t k x a l).partOk=true):(TmT.mk w t k x a l).ownE level n=(TmT.mk w t k x a l).exE:=by rw[TmT.ownE,if_neg h];exact(if_neg h2).trans (if_neg (by simp[h3]))
theorem Pe:∀{l:List Int} {j:Nat} (h:j<l.length),(∀i (hi:i<l.length),i<j→l[i]=0)→¬l[j]=0→Hw l=l[j]
  |y::r,0,h,_,hn=>by rw[Hw];exact if_pos (show y≠0 from hn)
  |y::r,j+1,h,h0,hn=>by
    have h1:y=0:=h0 0 (by simp) (by omega)
    rw[Hw,if_neg (fun hc=>hc h1)]
    exact Pe (l:=r) (j:=j) (by simpa using h) (fun i hi hij=>h0 (i+1) (by simpa using hi) (by omega)) hn
theorem ex_k(h:¬k.err=0):(TmT.mk w t k x a l).exE=k.err:=if_pos h
theorem ex_x(h:k.err=0)(h2:¬x.err=0):(TmT.mk w t k x a l).exE=x.err:=(if_neg (fun hc=>hc h)).trans (if_pos h2)
theorem ex_a(h:k.err=0)(h2:x.err=0){j:Nat}(hj:j<a.length)(h3:∀i (hi:i<a.length),i<j→a[i].ex.err=0)(h4:¬a[j].ex.err=0):(TmT.mk w t k x a l).exE=a[j].ex.err:=by
  show Hw (k.err::x.err::a.map fun s=>s.ex.err)=_
  rw[Hw,if_neg (fun hc=>hc h),Hw,if_neg (fun hc=>hc h2)]
  have:=Pe (l:=a.map fun s=>s.ex.err) (j:=j) (by simpa using hj) (fun i hi hij=>by simpa using h3 i (by simpa using hi) hij) (by simpa using h4)
  simpa using this
theorem Tg:∀{l:List Int},(∀x∈l,x=0)→Hw l=0
  |[],_=>rfl
  |y::r,h=>by rw[Hw,if_neg (fun hc=>hc (h y (by simp)))];exact Tg fun x hx=>h x (by simp[hx])
theorem ex_0(h:k.err=0)(h2:x.err=0)(h3:∀i (hi:i<a.length),a[i].ex.err=0):(TmT.mk w t k x a l).exE=0:=Tg fun y hy=>by
  rcases List.mem_cons.1 hy with rfl|hy
  · exact h
  · rcases List.mem_cons.1 hy with rfl|hy
    · exact h2
    · obtain⟨s,hs,rfl⟩:=List.mem_map.1 hy
      obtain⟨i,hi,rfl⟩:=List.getElem_of_mem hs
      exact h3 i hi
theorem vw_own(h:¬(TmT.mk w t k x a l).ownE level n=0):(TmT.mk w t k x a l).walk level n=(n,(TmT.mk w t k x a l).ownE level n):=by rw[TmT.walk,if_pos h]
theorem vw_go(h:(TmT.mk w t k x a l).ownE level n=0):(TmT.mk w t k x a l).walk level n=TmT.walks l (level+1) (n+1):=by rw[TmT.walk,if_neg (fun hc=>hc h)]
theorem Cv{c:Int}(h:(TmT.mk w t k x a l).ownE level n=c)(hc:¬c=0):(TmT.mk w t k x a l).walk level n=(n,c):=by rw[vw_own (by rw[h];exact hc),h]
end
theorem vws_go{l:List TmT}{j:Nat}(h:j<l.length){level m:Int}(h2:(l[j].walk level m).2=0):TmT.walks (l.drop j) level m=TmT.walks (l.drop (j+1)) level (l[j].walk level m).1:=by rw[List.drop_eq_getElem_cons h,TmT.walks,if_neg (fun hc=>hc h2)]
theorem vws_no{l:List TmT}{j:Nat}(h:j<l.length){level m:Int}(h2:¬(l[j].walk level m).2=0):TmT.walks (l.drop j) level m=l[j].walk level m:=by rw[List.drop_eq_getElem_cons h,TmT.walks,if_pos h2]
mutual
theorem TmT.walk_bd:∀(t:TmT) (level n:Int),0≤n∧n≤64→0≤(t.walk level n).1∧(t.walk level n).1≤64
  |.mk w t k x a l,level,n,h=>by
    unfold TmT.walk
    split
    · exact h
    · rename_i h1
      obtain⟨-,h2,-⟩:=RT (Decidable.not_not.1 h1)
      exact TmT.walks_bd l _ _ ⟨by omega,by omega⟩
theorem TmT.walks_bd:∀(l:List TmT) (level n:Int),0≤n∧n≤64→0≤(TmT.walks l level n).1∧(TmT.walks l level n).1≤64
  |[],_,_,h=>h
  |x::r,level,n,h=>by
    unfold TmT.walks
    split
    · exact TmT.walk_bd x _ _ h
    · exact TmT.walks_bd r _ _ (TmT.walk_bd x _ _ h)
end
theorem P6:∀(n:Nat) {t:TmT} {fr:Bool} {level n0:Int} {b:Nat},t.wf→t.sz≤n→(0≤n0∧n0≤64)→(1≤level∧level≤9)→
    AC Tryz.prog 53 [UB b n0] [.agg (t.cs fr),.c (.int .i64 level),.c (.pointer (some ⟨b,0,none⟩))] (VwR (t.walk level n0) b):=by
  intro n
  induction n with
  |zero=>intro t fr level n0 b hw hn;exact absurd hn (by have:=t.sz_pos;omega)
  |succ n ih=>
    intro t fr level n0 b hw hn hbd hlv
    obtain⟨w,tg,k,x,a,l⟩:=t
    obtain⟨h0,h1,h2,h3,h4,h5,h6,h7⟩:=hw.inv
    have ha:a.length≤9223372036854775805:=by unfold Qr at h4;omega
    have hl:l.length≤9223372036854775805:=by unfold Qr at h6;omega
    refine AC.of_J Tryz.func53 rfl Tryz.ntmps53 rfl fun w0 A0=>?_
    refine Zs (Qs (.r rfl) rfl fun b3=>Zn (Zs (Zm rfl (Zq rfl (QW.leq (.r rfl) .const) ?_))))
    refine Qn [] Hv rfl Lent.nil (fun _=>(.cons (.r rfl) (.cons .const .nil))) (XI _ _) (.inl rfl) (fun k12 x12 o12 h12=>?_) (fun k12=>?_)
    rotate_left
    · skip
      refine thenQ.p ?_
      exact⟨_,QI [.k,.k] _,_,rfl,rfl,Qk [.k,.k] _,VwR.er (c:=10) (Cv (own_10 (by simp at k12;omega)) (by decide)) (by decide)⟩
    obtain⟨rfl,rfl⟩:=h12
    refine Zn (J.seq ?_)
    have hlv8:¬8<level:=by(simp at k12;omega)
    refine Qg (Zm rfl (Zu rfl (Zl 1 UA rfl (Zq rfl (QW.lss (.r rfl) .const) (Zm rfl (Zg rfl (fun hg=>(Qf Gw (.r rfl) rfl)) (Zg rfl (fun hg=>(Qb 0 TY (.when rfl hg) rfl YJ)) (Zg rfl (fun hg=>(by first|exact Qh Ye (.when rfl hg) (TmT.css_length _ _)|exact Qh Ye (.when rfl hg) (SetT.css_length _ _)|exact Qw Ye (.when rfl hg)|exact QW.len_nil Ye (.when rfl hg))) ?_))))))))
    refine Zg rfl (fun hg=>(Qf KD (.r rfl) rfl)) (Zg rfl (fun hg=>(Qb 0 RF (.when rfl hg) rfl YI)) (Zg rfl (fun hg=>(by first|exact Qh Y8 (.when rfl hg) (TmT.css_length _ _)|exact Qh Y8 (.when rfl hg) (SetT.css_length _ _)|exact Qw Y8 (.when rfl hg)|exact QW.len_nil Y8 (.when rfl hg))) ?_))
    refine Zg rfl (fun hg=>(QW.max2 (.when rfl hg) (.when rfl hg))) (Zg rfl (fun hg=>(QW.leq (.when rfl hg) .const)) (Zq rfl (QW.pick_and (.r rfl) (.r rfl)) ?_))
    refine Qn [] Hv rfl Lent.nil (fun _=>(.cons (.r rfl) (.cons .const .nil))) (XI _ _) (.inl rfl) (fun k27 x27 o27 h27=>?_) (fun k27=>?_)
    rotate_left
    · skip
      refine thenQ.p ?_
      exact⟨_,QI [.k,.k] _,_,rfl,rfl,Qk [.k,.k] _,VwR.er (c:=3) (Cv (own_3 hlv8 (by simp[SetT.css_length,TmT.css_length,Mz]at k27;omega)) (by decide)) (by decide)⟩
    obtain⟨rfl,rfl⟩:=h27
    refine Zn (J.seq ?_)
    have hct:¬(64≤n0∨16<a.length∨16<l.length):=by(simp[SetT.css_length,TmT.css_length,Mz]at k27;omega)
    refine Qg (Zq rfl (by first|exact Qe 0 UR (.r rfl) rfl rfl rfl|exact Qe 0 UR (.r rfl) rfl (Qo (TmT.cs_length _ _) rfl) (TmT.cs_length _ _)) ?_)
    refine Zq rfl (QW.call gofn96 (.cons (.r rfl) .nil) (FZ hw)) ?_
    refine Qn [] Hv rfl Lent.nil (fun _=>(.cons (.r rfl) (.cons .const .nil))) (XI _ _) (.inl rfl) (fun k30 x30 o30 h30=>?_) (fun k30=>?_)
    rotate_left
    · skip
      refine thenQ.p ?_
      exact⟨_,QI [.k,.k] _,_,rfl,rfl,Qk [.k,.k] _,VwR.er (c:=9) (Cv (own_9 hlv8 hct (by simpa using k30)) (by decide)) (by decide)⟩
    obtain⟨rfl,rfl⟩:=h30
    refine Zn (J.seq ?_)
    have hpt:(TmT.mk w tg k x a l).partOk=true:=k30
    refine Qg (Zd Du rfl (Zq rfl (Qe 0 Ub (.r rfl) rfl Lw xl) (Zq rfl (QW.call Dm (.cons (.r rfl) .nil) (HD Xc.self h2)) ?_)))
    refine Qn [] Gs rfl Lent.nil (fun _=>(.cons (.r rfl) .nil)) (Y6 _) (.inl rfl) (fun k34 x34 o34 h34=>?_) (fun k34=>?_)
    rotate_left
    · skip
      refine thenQ.p ?_
      exact⟨_,QI [.k,.k] _,_,rfl,rfl,Qk [.k,.k] _,VwR.er (Cv ((Eo hlv8 hct hpt).trans (ex_k k34)) k34) k34⟩
    obtain⟨rfl,rfl⟩:=h34
    refine Zn (Zs (Zd N5 rfl (Zq rfl (Qe 0 Ub (.r rfl) rfl G7 xl) (Zq rfl (QW.call Dm (.cons (.r rfl) .nil) (HD Xc.self h3)) ?_))))
    refine Qn [] Gs rfl Lent.nil (fun _=>(.cons (.r rfl) .nil)) (Y6 _) (.inl rfl) (fun k38 x38 o38 h38=>?_) (fun k38=>?_)
    rotate_left
    · skip
      refine thenQ.p ?_
      exact⟨_,QI [.k,.k] _,_,rfl,rfl,Qk [.k,.k] _,VwR.er (Cv ((Eo hlv8 hct hpt).trans (ex_x k34 k38)) k38) k38⟩
    obtain⟨rfl,rfl⟩:=h38
    refine Zn (J.seq (Zs (Zd Gw rfl (Zq rfl (Qb 0 TY (.r rfl) rfl YJ) (Zq rfl (by first|exact Qh Ye (.r rfl) (TmT.css_length _ _)|exact Qh Ye (.r rfl) (SetT.css_length _ _)|exact Qw Ye (.r rfl)|exact QW.len_nil Ye (.r rfl)) ?_)))))
    refine Zq rfl (QW.move .const) (Zn (J.block (Ua (ι:=Nat) [1,2,3,40,41] (fun j=>[(42,.c (.int .i64 (j:Int)))]) (fun _ oo=>oo) (fun j=>j≤a.length∧∀i (hi:i<a.length),i<j→a[i].ex.err=0) (fun j=>a.length-j) 0 (⟨Nat.zero_le _,fun i _ hi=>by omega⟩) (QQ (.cons rfl lr (.cons rfl lr (.cons rfl lr (.cons rfl lr (.cons rfl lr (.cons rfl lr .nil)))))) (Reown.refl _) (fun _ h=>by first|exact h|simp[h])) ?_)))
    intro j ⟨hj,hall⟩
    refine J.conv (by(try simp only[nl,Qj,QA,QC,Qy,QZ,AV.cellsOf,Qc,Qd,Nat.reduceAdd]);rfl) ?_
    refine Zs (Zq rfl (QW.lss (.r rfl) (.r rfl)) (Zn (J.seq ?_)))
    refine J.cond (.r rfl) (fun c1=>?_) (fun c1=>?_)
    · skip
      have hlt:j<a.length:=by simpa[SetT.css_length,Mz]using c1
      refine Zk (J.seq (J.block (Zs (Zq rfl (Qi Ye U9 rfl (.r rfl) (.r rfl) (by first|rfl|omega|(simp;done)) (by exact SetT.css_getE _ hlt)) ?_))))
      refine Zq rfl (by first|exact Qm U9 (.r rfl) rfl rfl|exact Qm U9 (.r rfl) (QF (SetT.cs_length _ _) rfl) (SetT.cs_length _ _)) ?_
      refine JL.alloc FS rfl rfl fun b7=>?_
      first|refine Qa 0 U9 (.r rfl) rfl (.r rfl) (by first|rfl|assumption) rfl rfl rfl ?_|refine Qa 0 U9 (.r rfl) rfl (.r rfl) (by first|rfl|assumption) rfl (SetT.cs_length _ _) rfl ?_|refine Qa 0 U9 (.r rfl) rfl (.r rfl) (by first|rfl|assumption) (SetT.cs_length _ _) rfl rfl ?_|refine Qa 0 U9 (.r rfl) rfl (.r rfl) (by first|rfl|assumption) (SetT.cs_length _ _) (SetT.cs_length _ _) rfl ?_|refine JL.store_box 0 U9 (.r rfl) rfl (.r rfl) (by first|rfl|assumption) rfl rfl rfl rfl ?_|refine JL.store_box 0 U9 (.r rfl) rfl (.r rfl) (by first|rfl|assumption) (SetT.cs_length _ _) rfl rfl rfl ?_
      refine Zn (Qg (Zd Ca rfl (Zq rfl (Qe 0 Ub (.r rfl) rfl SetT.at1 xl) (Zq rfl (QW.call Dm (.cons (.r rfl) .nil) (HD Xc.self (h5 _ (List.getElem_mem hlt)).ex)) ?_))))
      refine Qn [] Gs rfl Lent.nil (fun _=>(.cons (.r rfl) .nil)) (Y6 _) (.inl rfl) (fun k49 x49 o49 h49=>?_) (fun k49=>?_)
      rotate_left
      · skip
        refine blkQ.p (thenQ.p (thenQ.p (blkQ.p (thenQ.p ?_))))
        exact⟨_,QI [.k,.k,.k] _,_,rfl,rfl,Qk [.k,.k,.k] _,VwR.er (Cv ((Eo hlv8 hct hpt).trans (ex_a k34 k38 hlt hall k49)) k49) k49⟩
      obtain⟨rfl,rfl⟩:=h49
      refine JL.nil (blkQ.n (thenQ.n (Qg (Zq rfl (QW.add (.r rfl) .const (by first|exact U6 (by first|rfl|omega|(simp;done)) (by omega)|exact Yy (by omega)|rfl)) ?_))))
      refine Zm rfl (Zn ?_)
      exact⟨j+1,⟨hlt,fun i hi hij=>by rcases Nat.lt_succ_iff_lt_or_eq.1 hij with h|rfl;exact hall i hi h;exact k49⟩,by omega,QQ (.cons rfl lr (.cons rfl lr (.cons rfl lr (.cons rfl lr (.cons rfl lr (.cons rfl lr .nil)))))) (Q3 1 _ rfl) (fun _ h=>by first|exact h|simp[h])⟩
    have hge:a.length≤j:=by simpa[SetT.css_length,Mz]using c1
    refine J.exit (Qz (Qz (QY (thenQ.n (J.seq ?_)))))
    have hx0:=ex_0 (w:=w) (t:=tg) (l:=l) k34 k38 fun i hi=>hall i hi (by omega)
    have how:(TmT.mk w tg k x a l).ownE level n0=0:=(Eo hlv8 hct hpt).trans hx0
    have hlv2:1≤level+1∧level+1≤9:=by omega
    refine Qg (Zm rfl (Zu rfl (Zl 1 UA rfl (Zq rfl (QW.add (.r rfl) .const (by first|exact U6 (by first|rfl|omega|(simp;done)) (by omega)|exact Yy (by omega)|rfl)) ?_))))
    refine Zu rfl (JL.store_box 1 UA (.r rfl) rfl (.r rfl) (by first|rfl|assumption) rfl rfl rfl rfl ?_)
    refine Zn (Zs (Zd KD rfl (Zq rfl (Qb 0 RF (.r rfl) rfl YI) (Zq rfl (by first|exact Qh Y8 (.r rfl) (TmT.css_length _ _)|exact Qh Y8 (.r rfl) (SetT.css_length _ _)|exact Qw Y8 (.r rfl)|exact QW.len_nil Y8 (.r rfl)) ?_))))
    refine Zq rfl (QW.move .const) (Zn (J.block (Ua (ι:=Nat×Int) [1,2,57,58] (fun⟨i,m⟩=>[(59,.c (.int .i64 (i:Int)))]) (fun⟨i,m⟩ oo=>List.set oo 1 (UB b m)) (fun⟨i,m⟩=>i≤l.length∧(0≤m∧m≤64)∧(TmT.mk w tg k x a l).walk level n0=TmT.walks (l.drop i) (level+1) m) (fun⟨i,m⟩=>l.length-i) ⟨0,n0+1⟩ (⟨Nat.zero_le _,by show 0≤n0+1∧n0+1≤64;omega,vw_go how⟩) (QQ (.cons rfl lr (.cons rfl lr (.cons rfl lr (.cons rfl lr (.cons rfl lr .nil))))) (Reown.refl _) (fun _ h=>by first|exact h|simp[h])) ?_)))
    intro⟨i,m⟩ ⟨hi,hm,hwk⟩
    refine J.conv (by(try simp only[nl,Qj,QA,QC,Qy,QZ,AV.cellsOf,Qc,Qd,Nat.reduceAdd]);rfl) ?_
    refine Zs (Zq rfl (QW.lss (.r rfl) (.r rfl)) (Zn (J.seq ?_)))
    refine J.cond (.r rfl) (fun c2=>?_) (fun c2=>?_)
    · skip
      have hlt2:i<l.length:=by simpa[TmT.css_length,Mz]using c2
      refine Zk (J.seq (J.block (Zs (Zq rfl (Qi Y8 UR rfl (.r rfl) (.r rfl) (by first|rfl|omega|(simp;done)) (by exact TmT.css_getE _ hlt2)) ?_))))
      refine Zq rfl (by first|exact Qm UR (.r rfl) rfl rfl|exact Qm UR (.r rfl) (QF (TmT.cs_length _ _) rfl) (TmT.cs_length _ _)) ?_
      refine JL.alloc z40 rfl rfl fun b9=>?_
      first|refine Qa 0 UR (.r rfl) rfl (.r rfl) (by first|rfl|assumption) rfl rfl rfl ?_|refine Qa 0 UR (.r rfl) rfl (.r rfl) (by first|rfl|assumption) rfl (TmT.cs_length _ _) rfl ?_|refine Qa 0 UR (.r rfl) rfl (.r rfl) (by first|rfl|assumption) (TmT.cs_length _ _) rfl rfl ?_|refine Qa 0 UR (.r rfl) rfl (.r rfl) (by first|rfl|assumption) (TmT.cs_length _ _) (TmT.cs_length _ _) rfl ?_|refine JL.store_box 0 UR (.r rfl) rfl (.r rfl) (by first|rfl|assumption) rfl rfl rfl rfl ?_|refine JL.store_box 0 UR (.r rfl) rfl (.r rfl) (by first|rfl|assumption) (TmT.cs_length _ _) rfl rfl rfl ?_
      refine Zn (Qg (Zq rfl (by first|exact Qe 0 UR (.r rfl) rfl rfl rfl|exact Qe 0 UR (.r rfl) rfl (Qo (TmT.cs_length _ _) rfl) (TmT.cs_length _ _)) ?_))
      refine Zm rfl (Zq rfl (QW.add (.r rfl) .const (by first|exact U6 (by first|rfl|omega|(simp;done)) (by omega)|exact Yy (by omega)|rfl)) ?_)
      refine Zm rfl ?_
      refine Qn [.k,.k,.p] B8 rfl Lent.nil (fun _=>(.cons (.r rfl) (.cons (.r rfl) (.cons (.r rfl) .nil)))) (ih (h7 _ (List.getElem_mem hlt2)) (TmT.sz_get hn hlt2) hm hlv2) (.inl rfl) (fun k67 x67 o67 h67=>?_) (fun k67=>?_)
      rotate_left
      · skip
        refine blkQ.p (thenQ.p (thenQ.p (blkQ.p ?_)))
        exact⟨_,QI [.k,.k] _,_,rfl,rfl,Qk [.k,.k] _,VwR.er (n:=(l[i].walk (level+1) m).1) (hwk.trans (vws_no hlt2 k67)) k67⟩
      obtain⟨rfl,rfl⟩:=h67
      refine JL.nil (blkQ.n (thenQ.n (Qg (Zq rfl (QW.add (.r rfl) .const (by first|exact U6 (by first|rfl|omega|(simp;done)) (by omega)|exact Yy (by omega)|rfl)) ?_))))
      refine Zm rfl (Zn ?_)
      rw[vws_go hlt2 k67]at hwk
      exact⟨⟨i+1,(l[i].walk (level+1) m).1⟩,⟨hlt2,TmT.walk_bd _ _ _ hm,hwk⟩,by show l.length-(i+1)<l.length-i;omega,QQ (.cons rfl lr (.cons rfl lr (.cons rfl lr (.cons rfl lr (.cons rfl lr .nil))))) (Q3 1 _ rfl) (fun _ h=>by first|exact h|simp[h])⟩
    have hge2:l.length≤i:=by simpa[TmT.css_length,Mz]using c2
    exact J.exit (Qz (Qz (QY (Zr [.k,.p] (RetEv.none rfl) rfl (VwR.ok (hwk.trans (by rw[List.drop_of_length_le hge2];rfl)))))))
theorem MR(c:Nat)(z:Int):AC Tryz.prog 44 [UB c z] [.c .nilIface,.c (.pointer (some ⟨c,0,none⟩))] (YV fun x o=>x=.c (.bool false)∧o=[UB c z]):=by
  refine AC.of_J Tryz.func44 rfl Tryz.ntmps44 rfl fun w0 A0=>?_
  refine Zs (Zq rfl (QW.assign .const) (Zn (Zs (Zm rfl (Zn (J.block (Zs (Zq rfl (YB ⟨_,Tryz.underlying47,by intro ms h;cases h⟩ KM (.r rfl)) ?_))))))))
  refine Zx rfl (Zx rfl (Zn ?_))
  refine J.cond (.r rfl) (fun c1=>absurd c1 (by simp)) (fun c1=>?_)
  refine Zs (Zq rfl (QW.bin (r:=.bool true) (.r rfl) .const (fun w=>by kernel_rfl) (fun w=>by kernel_rfl)) ?_)
  refine Zn ?_
  refine J.cond (.r rfl) (fun c2=>?_) (fun c2=>absurd c2 (by simp))
  exact Zs (Za rfl (Zn (Zs (Zq rfl (QW.assign .const) (Zn (J.ret (blkQ.r (Zr [.p] (RetEv.one rfl (REv.tmp rfl lr)) rfl ⟨_,rfl,rfl,rfl⟩))))))))
theorem RD(c:Nat)(z e:Int):AC Tryz.prog 44 [UB c z] [.c (WT e),.c (.pointer (some ⟨c,0,none⟩))] (YV fun x o=>x=.c (.bool true)∧o=[UB c e]):=by
  refine AC.of_J Tryz.func44 rfl Tryz.ntmps44 rfl fun w0 A0=>?_
  refine Zs (Zq rfl (QW.assign .const) (Zn (Zs (Zm rfl (Zn (J.block (Zs (Zq rfl (YC ⟨_,Tryz.underlying47,by intro ms h;cases h⟩ (.r rfl)) ?_))))))))
  refine Zx rfl (Zx rfl (Zn ?_))
  refine J.cond (.r rfl) (fun c1=>?_) (fun c1=>absurd c1 (by simp))
  refine Zs (Za rfl (Zn (Zs (Zm rfl (Zm rfl (Zu rfl (JL.store_box 0 We (.r rfl) rfl (.r rfl) (by first|rfl|assumption) rfl rfl rfl rfl ?_)))))))
  exact Zn (Zs (Zq rfl (QW.assign .const) (Zn (J.ret (blkQ.r (Zr [.p] (RetEv.one rfl (REv.tmp rfl lr)) rfl ⟨_,rfl,rfl,rfl⟩))))))
theorem Cy(c:Nat)(z:Int):DC Tryz.prog 52 [UB c z] [.c (.pointer (some ⟨c,0,none⟩))] .returning fun r u' o=>r=.ret (.tup [])∧u'=.returning∧o=[UB c z]:=by
  refine DC.of_JD Tryz.func52 rfl Tryz.ntmps52 rfl fun w0 A0=>?_
  refine Uf rfl rfl (.inl ⟨rfl,rfl,rfl⟩) rfl (JL.callRF [.p] NV rfl Lent.nil (fun _=>(.cons (.r rfl) (.cons (.r rfl) .nil))) (MR c z) (.inl rfl) fun x2 o2 h2=>?_)
  obtain⟨rfl,rfl⟩:=h2
  refine JL.nil ?_
  exact⟨_,QI [.p] _,_,RetEv.none rfl,rfl,Qk [.p] _,⟨rfl,rfl,rfl⟩⟩
theorem Cz(c:Nat)(z e:Int):DC Tryz.prog 52 [UB c z] [.c (.pointer (some ⟨c,0,none⟩))] (.panicking [{v:=WT e,recovered:=false}]) fun r u' o=>r=.ret (.tup [])∧u'=.panicking [{v:=WT e,recovered:=true}]∧o=[UB c e]:=by
  refine DC.of_JD Tryz.func52 rfl Tryz.ntmps52 rfl fun w0 A0=>?_
  refine Uf rfl rfl (.inr ⟨[],rfl,rfl⟩) rfl (JL.callRF [.p] NV rfl Lent.nil (fun _=>(.cons (.r rfl) (.cons (.r rfl) .nil))) (RD c z e) (.inl rfl) fun x2 o2 h2=>?_)
  obtain⟨rfl,rfl⟩:=h2
  refine JL.nil ?_
  exact⟨_,QI [.p] _,_,RetEv.none rfl,rfl,Qk [.p] _,⟨rfl,rfl,rfl⟩⟩

end
section
/- Walks: may a template be? a value as a word. -/
set_option maxRecDepth 10000
set_option maxHeartbeats 4000000
theorem F9{t:TmT}(h:t.what=1):t.err=(t.walk 1 0).2:=if_neg (fun hc=>hc h)
theorem terr_9{t:TmT}(h:¬t.what=1):t.err=9:=if_pos h
def Kn(r:QN×Int):AV:=.tup [.c (Q4 r.1),.c (.int .i64 r.2)]
theorem Dz:Xg (fun i=>some (i*1,1)) [AV.c (Q4 []),AV.c (Q4 [])] [(0,[AV.c (Q4 Hk)]),(1,[AV.c (Q4 MW)])]=some [AV.c (Q4 Hk),AV.c (Q4 MW)]:=rfl
section
variable {v:V}
theorem wk_0(h:v.kind=0):Km v=([],0):=if_pos h
theorem wk_1(h0:¬v.kind=0)(h:v.kind=1):Km v=(if v.bits=1 then MW else Hk,0):=(if_neg h0).trans (if_pos h)
theorem wk_2(h0:¬v.kind=0)(h1:¬v.kind=1)(h:v.kind=2)(hi:YG v.bits=0):Km v=(Ht (YP v.bits),0):=(if_neg h0).trans ((if_neg h1).trans ((if_pos h).trans (if_pos hi)))
theorem wk_2n(h0:¬v.kind=0)(h1:¬v.kind=1)(h:v.kind=2)(hi:¬YG v.bits=0):Km v=([],81):=(if_neg h0).trans ((if_neg h1).trans ((if_pos h).trans (if_neg hi)))
theorem wk_3(h0:¬v.kind=0)(h1:¬v.kind=1)(h2:¬v.kind=2)(h:v.kind=3):Km v=(v.text,0):=(if_neg h0).trans ((if_neg h1).trans ((if_neg h2).trans (if_pos h)))
theorem wk_n(h0:¬v.kind=0)(h1:¬v.kind=1)(h2:¬v.kind=2)(h:¬v.kind=3):Km v=([],81):=(if_neg h0).trans ((if_neg h1).trans ((if_neg h2).trans (if_neg h)))
theorem wt_e(h:¬v.err=0):Xm v=([],v.err):=if_pos h
theorem Cr(h:v.err=0){r:QN×Int}(hk:Km v=r):Xm v=r:=(if_neg (fun hc=>hc h)).trans hk
end
theorem TZ{v:V}(h:v.err=0)(hk:v.kind=1):v.bits≤1:=by
  have:=(V.fine_of h).part
  obtain⟨k,b,t,ks,is⟩:=v
  obtain rfl:k=1:=hk
  simp[Uc]at this
  exact this.1.1.1
theorem CA{fr:Bool}{t:TmT}(hw:t.wf):Fn Tryz.prog 19 [.agg (t.cs fr)] (.c (.int .i64 t.err)):=by
  refine TU Tryz.func19 rfl Tryz.ntmps19 rfl fun w0 A0=>?_
  refine Zs (Qs (.r rfl) rfl fun b1=>JL.alloc z47 rfl rfl fun b2=>Zn (J.seq (Zs (Zd N6 rfl (Zq rfl (Qb 1 UA (.r rfl) rfl TmT.at0) (Zq rfl (QW.neq (.r rfl) .const) (Zn ?_)))))))
  refine J.cond (.r rfl) (fun c1=>?_) (fun c1=>?_)
  · skip
    have h1:¬t.what=1:=by simpa using c1
    refine Zs (JL.store_box 0 We (.r rfl) rfl .const (by first|rfl|assumption) rfl rfl rfl rfl ?_)
    refine Zn (J.ret (thenQ.r ?_))
    exact retE.none [.k,.k] (RetEv.one rfl (QR 0 We rfl rfl rfl lr)) rfl ⟨(congrArg (fun n=>Wl.ret (.c (.int .i64 n))) (terr_9 h1).symm),rfl⟩
  have h1:t.what=1:=by simpa using c1
  refine Zk (Zs (Zq rfl (WN .nil (.cons (.r rfl) .nil)) (JL.defer rfl (.r rfl) (Zn (Zs (JL.alloc z3 rfl rfl fun b3=>JL.store_box 0 UA (.r rfl) rfl .const (by first|rfl|assumption) rfl rfl rfl rfl ?_))))))
  refine Zn (Zs (Zq rfl (by first|exact Qe 2 UR (.r rfl) rfl rfl rfl|exact Qe 2 UR (.r rfl) rfl (Qo (TmT.cs_length _ _) rfl) (TmT.cs_length _ _)) ?_))
  refine Qn [.p] B8 rfl Lent.nil (fun _=>(.cons (.r rfl) (.cons .const (.cons (.r rfl) .nil)))) (P6 _ (fr:=fr) (t:=t) (level:=1) (n0:=0) (b:=b3) hw (Nat.le_refl _) ⟨by decide,by decide⟩ ⟨by decide,by decide⟩) (.inl rfl) (fun k9 x9 o9 h9=>?_) (fun k9=>?_)
  rotate_left
  · skip
    refine thenQ.p ?_
    exact .inl ⟨_,_,[],[_],QI [.p,.k] _,_,rfl,rfl,B9,Qk [.p,.k] _,DC.mono (Cz _ _ _) fun r u' o ⟨h1,h2,h3⟩=>by subst h1 h2 h3;exact⟨⟨_,rfl⟩,rfl,_,[],_,RetEv.one rfl (QR 0 We rfl rfl rfl lr),List.Perm.refl _,(congrArg (fun n=>Wl.ret (.c (.int .i64 n))) (F9 h1).symm),rfl⟩⟩
  obtain⟨rfl,rfl⟩:=h9
  refine Zn (Zs (JL.store_box 1 We (.r rfl) rfl .const (by first|rfl|assumption) rfl rfl rfl rfl ?_))
  refine Zn (J.ret ?_)
  exact .inl ⟨_,_,[],[_],QI [.k,.p,.k] _,_,rfl,rfl,B9,Qk [.k,.p,.k] _,DC.mono (Cy _ _) fun r u' o ⟨h1,h2,h3⟩=>by subst h1 h2 h3;exact⟨⟨_,rfl⟩,rfl,_,[],_,RetEv.one rfl (QR 0 We rfl rfl rfl lr),List.Perm.refl _,(congrArg (fun n=>Wl.ret (.c (.int .i64 n))) ((F9 h1).trans k9).symm),rfl⟩⟩
theorem FY{fr:Bool}{v:V}(hw:v.wf):Fn Tryz.prog 16 [.agg (v.cs fr)] (Kn (Xm v)):=by
  obtain⟨vk,vb,vt,vks,vis⟩:=v
  obtain⟨-,hb64,-⟩:=hw.inv
  refine AC.of_J Tryz.func16 rfl Tryz.ntmps16 rfl fun w0 A0=>?_
  refine Zs (Qs (.r rfl) rfl fun b1=>Zq rfl (QW.assign .const) (Zq rfl (QW.assign .const) (Zn (J.seq (Zs (Zq rfl (by first|exact Qe 0 Ql (.r rfl) rfl rfl rfl|exact Qe 0 Ql (.r rfl) rfl (Qo vl rfl) vl) ?_))))))
  refine Zq rfl (QW.call X5 (.cons (.r rfl) .nil) (Yl (fr:=fr) (v:=.mk vk vb vt vks vis) Vc.self hw)) (Za rfl (Zn (Zs (Zm rfl (Zq rfl (QW.neq (.r rfl) .const) (Zn ?_))))))
  refine J.cond (.r rfl) (fun c1=>?_) (fun c1=>?_)
  · skip
    have he:¬(V.mk vk vb vt vks vis).err=0:=by simpa using c1
    exact Zs (Zm rfl (Zq rfl (QW.assign .const) (Za rfl (Zn (J.ret (thenQ.r (Zr [.k] (Qt rfl (REv.tmp rfl lr) (REv.tmp rfl lr)) rfl ⟨congrArg (fun r=>Wl.ret (Kn r)) (wt_e he).symm,rfl⟩)))))))
  have he:(V.mk vk vb vt vks vis).err=0:=by simpa using c1
  refine Zk (J.seq (Zs (Zd UZ rfl (Zl 0 UA rfl (Zn (J.block (Zs (Zq rfl (QW.eql (.r rfl) .const) (Za rfl ?_)))))))))
  refine Zn ?_
  refine J.cond (.r rfl) (fun c2=>?_) (fun c2=>?_)
  · skip
    have k0:vk=0:=by simpa using c2
    exact Zs (Zq rfl (QW.assign .const) (Zq rfl (QW.assign .const) (Zn (J.ret (blkQ.r (thenQ.r (Zr [.k] (Qt rfl (REv.tmp rfl lr) (REv.tmp rfl lr)) rfl ⟨congrArg (fun r=>Wl.ret (Kn r)) (Cr he (wk_0 k0)).symm,rfl⟩)))))))
  have k0:¬vk=0:=by simpa using c2
  refine Zs (Zq rfl (QW.eql (.r rfl) .const) (Za rfl (Zn ?_)))
  refine J.cond (.r rfl) (fun c3=>?_) (fun c3=>?_)
  · skip
    have k1:vk=1:=by simpa using c3
    have hb1:vb≤1:=TZ he k1
    refine Zs (Zq rfl (Nv (idx:=[0,1]) (sz:=1) (by kernel_rfl) z132 rfl (.cons .const (.cons .const .nil)) rfl rfl rfl Dz) ?_)
    refine Zd UE rfl (Zl 0 WQ rfl (Zq rfl (D1 (v:=.c (Q4 (if vb=1 then MW else Hk))) (ln:=2) (et:=9) (by kernel_rfl) UO (.r rfl) (.r rfl) rfl (by omega) (by rcases(show vb=0∨vb=1 by omega)with rfl|rfl<;>rfl)) ?_))
    exact Za rfl (Zq rfl (QW.assign .const) (Zn (J.ret (blkQ.r (thenQ.r (Zr [.k] (Qt rfl (REv.tmp rfl lr) (REv.tmp rfl lr)) rfl ⟨congrArg (fun r=>Wl.ret (Kn r)) (Cr he (wk_1 k0 k1)).symm,rfl⟩))))))
  have k1:¬vk=1:=by simpa using c3
  refine Zs (Zq rfl (QW.eql (.r rfl) .const) (Za rfl (Zn ?_)))
  refine J.cond (.r rfl) (fun c4=>?_) (fun c4=>?_)
  · skip
    have k2:vk=2:=by simpa using c4
    refine Zs (Zd UE rfl (Zl 0 WQ rfl (Zq rfl (QW.call Pa (.cons (.r rfl) .nil) (Nk vb hb64)) (Zm rfl (Zx rfl (Zx rfl (Za rfl (Za rfl (Zn ?_)))))))))
    refine Zs (Zm rfl (Zq rfl (QW.eql (.r rfl) .const) (Zn ?_)))
    refine J.cond (.r rfl) (fun c5=>?_) (fun c5=>?_)
    · skip
      have hi:YG vb=0:=by(simp at c5;by_cases hc:YG vb=0;exact hc;simp[hc]at c5)
      exact Zs (Zm rfl (Za rfl (Zq rfl (QW.assign .const) (Zn (J.ret (blkQ.r (thenQ.r (Zr [.k] (Qt rfl (REv.tmp rfl lr) (REv.tmp rfl lr)) rfl ⟨by rw[Cr he (wk_2 k0 k1 k2 hi)];show _=Wl.ret (Kn (Ht (YP vb),0));rw[if_pos hi];rfl,rfl⟩))))))))
    have hi:¬YG vb=0:=by(intro hc;simp[hc]at c5)
    exact J.skip (blkQ.n (thenQ.n (Zs (Zq rfl (QW.assign .const) (Zq rfl (QW.assign .const) (Zn (J.ret (Zr [.k] (Qt rfl (REv.tmp rfl lr) (REv.tmp rfl lr)) rfl ⟨congrArg (fun r=>Wl.ret (Kn r)) (Cr he (wk_2n k0 k1 k2 hi)).symm,rfl⟩))))))))
  have k2:¬vk=2:=by simpa using c4
  refine Zs (Zq rfl (QW.eql (.r rfl) .const) (Za rfl (Zn ?_)))
  refine J.cond (.r rfl) (fun c5=>?_) (fun c5=>?_)
  · skip
    have k3:vk=3:=by simpa using c5
    exact Zs (Zd Xf rfl (Zl 0 UO rfl (Za rfl (Zq rfl (QW.assign .const) (Zn (J.ret (blkQ.r (thenQ.r (Zr [.k] (Qt rfl (REv.tmp rfl lr) (REv.tmp rfl lr)) rfl ⟨congrArg (fun r=>Wl.ret (Kn r)) (Cr he (wk_3 k0 k1 k2 k3)).symm,rfl⟩)))))))))
  have k3:¬vk=3:=by simpa using c5
  exact J.skip (blkQ.n (thenQ.n (Zs (Zq rfl (QW.assign .const) (Zq rfl (QW.assign .const) (Zn (J.ret (Zr [.k] (Qt rfl (REv.tmp rfl lr) (REv.tmp rfl lr)) rfl ⟨congrArg (fun r=>Wl.ret (Kn r)) (Cr he (wk_n k0 k1 k2 k3)).symm,rfl⟩))))))))

end
section
/- Walks: the renderer: what it reckons; words. -/
set_option maxRecDepth 10000
set_option maxHeartbeats 4000000
theorem RE{e:EX}{s:ScT}{f:Int}{b:Nat}{fr:Bool}(hw:e.wf)(hf:e.Fine)(hs:s.good)(h0:He f):
    AC Tryz.prog 126 [mb b s f] [pb b,.agg (e.cs fr)] (EvS (e.ev s f) b s):=by
  obtain⟨⟨v,g,c⟩,hR⟩:∃p,MA e s f=p:=⟨_,rfl⟩
  have hrun:=hR▸run_ok (fr:=fr) Xc.self hw hf hs h0
  refine AC.of_J Tryz.func126 rfl Tryz.ntmps126 rfl fun w0 A0=>?_
  refine Zs (Qs (.r rfl) rfl fun b3=>JL.alloc Yd rfl rfl fun b4=>Zn (J.seq (QV mixed (Zo 0 1 [] rfl (fun _ ho_=>by first|exact Qe 1 Ub (.r rfl) ho_ rfl rfl|exact Qe 1 Ub (.r rfl) ho_ (Qo xl rfl) xl) ?_))))
  refine Zf 1 [] rfl (fun _=>QW.move (.r rfl)) (Zf 2 [10] rfl (fun _=>W6 (.r rfl)) (Zf 3 [11] rfl (fun _=>Qf Lp (.r rfl) rfl) (Zo 4 2 [12] rfl (fun _ ho_=>Qe 2 ty120 (.r rfl) ho_ BN (Mn _)) (Zf 5 [] rfl (fun _=>QW.move (.r rfl)) (Zf 6 [14] rfl (fun _=>W6 (.r rfl)) (Zf 7 [15] rfl (fun _=>Qf E9 (.r rfl) rfl) (Zo 8 2 [16] rfl (fun _ ho_=>Qb 2 UA (.r rfl) ho_ NQ) (Zf 9 [9,13,17] rfl (fun _=>QW.call QaB (.cons (.r rfl) (.cons (.r rfl) (.cons (.r rfl) .nil))) (hrun)) (Zf 10 [18] rfl (fun _=>QW.move (.r rfl)) ?_)))))))))
  refine Zf 11 [8] rfl (fun _=>QW.extract (.r rfl) rfl) (Zf 12 [8] rfl (fun _=>QW.extract (.r rfl) rfl) (Zf 13 [8] rfl (fun _=>QW.extract (.r rfl) rfl) (JX.a 14 rfl (AllocOp.mk Yd rfl) rfl rfl rfl rfl rfl (JX.one 15 [true,false,false,true,true,true,true,true,true,true,true,true,true,true,true] rfl (by kernel_rfl) (by kernel_rfl) rfl rfl (by kernel_rfl) rfl fun bs15_ pe_ ex_=>?_))))
  refine JL.conv (by(try simp only[Ug,Uo,Q8,Q0,Flt.val,Flt.bx,nx,nl,Qj,QA,QC,Qy,QZ,AV.cellsOf,Qc,Qd,Nat.reduceAdd]);rfl) ?_
  first|refine Qa 3 Ql (.r rfl) rfl (.r rfl) (by first|rfl|assumption) rfl rfl rfl ?_|refine Qa 3 Ql (.r rfl) rfl (.r rfl) (by first|rfl|assumption) rfl vl rfl ?_|refine Qa 3 Ql (.r rfl) rfl (.r rfl) (by first|rfl|assumption) vl rfl rfl ?_|refine Qa 3 Ql (.r rfl) rfl (.r rfl) (by first|rfl|assumption) vl vl rfl ?_|refine JL.store_box 3 Ql (.r rfl) rfl (.r rfl) (by first|rfl|assumption) rfl rfl rfl rfl ?_|refine JL.store_box 3 Ql (.r rfl) rfl (.r rfl) (by first|rfl|assumption) vl rfl rfl rfl ?_
  refine JL.nil ?_
  refine thenQ.n ⟨[],_,rfl,rfl,rfl,rfl,rfl,QM 4 rfl,trivial,⟨trivial,⟨trivial,trivial⟩⟩,?_⟩
  refine JX.conv (S':=[15,14,11,10,9,8,7,6,5,4,3,2,1,0]) rfl (by(try simp only[Q0]);rfl) (by(try simp only[Ug,Uo,Q8,Q0,Flt.val,Flt.bx,nx,nl,Qj,QA,QC,Qy,QZ,AV.cellsOf,Qc,Qd,Nat.reduceAdd]);rfl) ?_
  refine Zf 16 [20] rfl (fun _=>QW.assign (.r rfl)) (Zf 17 [21] rfl (fun _=>QW.assign (.r rfl)) (JX.fin (by kernel_rfl) (by kernel_rfl) fun bs_=>?_))
  refine QX.conv (by(try simp only[Ug,Uo,Q8,Q0,Flt.val,Flt.bx,nx,nl,Qj,QA,QC,Qy,QZ,AV.cellsOf,Qc,Qd,Nat.reduceAdd]);rfl) ?_
  refine thenQ.n (Zs (Zm rfl ?_))
  refine Qn [] Gs rfl Lent.nil (fun _=>(.cons (.r rfl) .nil)) (Y6 _) (.inl rfl) (fun k23 x23 o23 h23=>?_) (fun k23=>?_)
  rotate_left
  · skip
    refine thenQ.p ?_
    exact⟨_,QI [.k,.k,.k,.k] _,_,rfl,rfl,Qk [.k,.k,.k,.k] _,EvS.er (Sm hR k23) k23⟩
  obtain⟨rfl,rfl⟩:=h23
  refine Zn (J.seq ?_)
  obtain rfl:c=0:=k23
  have hv:=Bl (Yo e s f hf) hR
  refine Qg (Zm rfl (Zm rfl (Zu rfl (Zd E9 rfl (JL.store_box 2 UA (.r rfl) rfl (.r rfl) rfl rfl (by rw[Gn];rfl) Ey rfl ?_)))))
  refine Zn (Zs (Zq rfl (by first|exact Qe 3 Ql (.r rfl) rfl rfl rfl|exact Qe 3 Ql (.r rfl) rfl (Qo vl rfl) vl) ?_))
  first|refine Qa 0 Ql (.r rfl) rfl (.r rfl) (by first|rfl|assumption) rfl rfl rfl ?_|refine Qa 0 Ql (.r rfl) rfl (.r rfl) (by first|rfl|assumption) rfl vl rfl ?_|refine Qa 0 Ql (.r rfl) rfl (.r rfl) (by first|rfl|assumption) vl rfl rfl ?_|refine Qa 0 Ql (.r rfl) rfl (.r rfl) (by first|rfl|assumption) vl vl rfl ?_|refine JL.store_box 0 Ql (.r rfl) rfl (.r rfl) (by first|rfl|assumption) rfl rfl rfl rfl ?_|refine JL.store_box 0 Ql (.r rfl) rfl (.r rfl) (by first|rfl|assumption) vl rfl rfl rfl ?_
  exact Zn (J.ret (Zr [.k,.k,.p,.k] (RetEv.one rfl (by first|exact REv.cell 0 Ql rfl rfl rfl rfl lr|exact REv.cell 0 Ql rfl rfl (Qo vl rfl) vl lr)) rfl (EvS.ok hv)))
def WdS(r:ER QN)(b:Nat)(s:ScT):Wl→List Own→Prop:=PanR (Xk r=0) (WT (Xk r)) fun x o=>∃v f',r=.ok (v,f')∧x=.c (Q4 v)∧o=[mb b s f']
theorem WdS.ok{r:ER QN}{b:Nat}{s:ScT}{v:QN}{f':Int}(h:r=.ok (v,f')):WdS r b s (.ret (.c (Q4 v))) [mb b s f']:=.inl ⟨by rw[h];rfl,_,rfl,v,f',h,rfl,rfl⟩
theorem WdS.er{r:ER QN}{b:Nat}{s:ScT}{c:Int}(h:r=.error c)(hc:¬c=0):WdS r b s (.pan (.iface 47 (.int .i64 c))) []:=.inr ⟨by rw[h];exact hc,by rw[h];rfl,rfl⟩
theorem FW{r:ER V}{c:Int}(h:r=.error c):W9 r=.error c:=by rw[h];rfl
theorem FV{r:ER V}{v:V}{f:Int}(h:r=.ok (v,f))(h2:¬(Xm v).2=0):W9 r=.error (Xm v).2:=by rw[h];exact if_neg h2
theorem Cs{r:ER V}{v:V}{f:Int}(h:r=.ok (v,f))(h2:(Xm v).2=0):W9 r=.ok ((Xm v).1,f):=by rw[h];exact if_pos h2
theorem Hf{e:EX}{s:ScT}{f:Int}{b:Nat}{fr:Bool}(hw:e.wf)(hf:e.Fine)(hs:s.good)(h0:He f):
    AC Tryz.prog 82 [mb b s f] [pb b,.agg (e.cs fr)] (WdS (W9 (e.ev s f)) b s):=by
  refine AC.of_J Tryz.func82 rfl Tryz.ntmps82 rfl fun w0 A0=>?_
  refine Zs (Qs (.r rfl) rfl fun b3=>Zq rfl (QW.assign .const) (Zn (Zs (Zm rfl (Zq rfl (by first|exact Qe 0 Ub (.r rfl) rfl rfl rfl|exact Qe 0 Ub (.r rfl) rfl (Qo xl rfl) xl) ?_)))))
  refine Qn [.k,.p] E1 rfl Lent.nil (fun _=>(.cons (.r rfl) (.cons (.r rfl) .nil))) (RE (fr:=fr) hw hf hs h0) (.inl rfl) (fun k10 x10 o10 h10=>?_) (fun k10=>?_)
  rotate_left
  · skip
    refine thenQ.p ?_
    exact⟨_,QI [.k] _,_,rfl,rfl,Qk [.k] _,WdS.er (FW (UN k10)) k10⟩
  obtain⟨v10,f10,hv10,rfl,rfl⟩:=h10
  obtain⟨hgv,hfv⟩:=HC hw hf hs h0 hv10
  refine Zq rfl (QW.call gofn16 (.cons (.r rfl) .nil) (FY (fr:=true) (v:=v10) hgv.wf)) (Zm rfl (Zx rfl (Zx rfl (Za rfl (Za rfl (Zn (Zs (Zm rfl ?_))))))))
  refine Qn [] Gs rfl Lent.nil (fun _=>(.cons (.r rfl) .nil)) (Y6 _) (.inl rfl) (fun k15 x15 o15 h15=>?_) (fun k15=>?_)
  rotate_left
  · skip
    refine thenQ.p ?_
    exact⟨_,QI [.k,.k] _,_,rfl,rfl,Qk [.k,.k] _,WdS.er (FV hv10 k15) k15⟩
  obtain⟨rfl,rfl⟩:=h15
  exact Zn (Zs (Zm rfl (Za rfl (Zn (J.ret (Zr [.k,.p] (RetEv.one rfl (REv.tmp rfl lr)) rfl (WdS.ok (Cs hv10 k15))))))))

end
section
/- Walks: the renderer: kids, from the parts. -/
set_option maxRecDepth 10000
set_option maxHeartbeats 4000000
def okQ(f:Int):Prop:=0≤f∧f≤4096
theorem okQ.F{f:Int}(h:okQ f):He f:=⟨h.1,Int.le_trans h.2 (by decide)⟩
def VkS(r:ER (List TrT))(b:Nat)(s:ScT):Wl→List Own→Prop:=PanR (Xk r=0) (WT (Xk r)) fun x o=>∃l f',r=.ok (l,f')∧x=.sl true false eTr (TrT.css true l)∧o=[mb b s f']
theorem VkS.ok{r:ER (List TrT)}{b:Nat}{s:ScT}{l:List TrT}{f':Int}(h:r=.ok (l,f')):VkS r b s (.ret (.sl true false eTr (TrT.css true l))) [mb b s f']:=.inl ⟨by rw[h];rfl,_,rfl,l,f',h,rfl,rfl⟩
theorem VkS.er{r:ER (List TrT)}{b:Nat}{s:ScT}{c:Int}(h:r=.error c)(hc:¬c=0):VkS r b s (.pan (.iface 47 (.int .i64 c))) []:=.inr ⟨by rw[h];exact hc,by rw[h];rfl,rfl⟩
def VeS(r:ER TrT)(b:Nat)(s:ScT):Wl→List Own→Prop:=PanR (Xk r=0) (WT (Xk r)) fun x o=>∃y f',r=.ok (y,f')∧x=.agg (y.cs true)∧o=[mb b s f']
theorem VeS.ok{r:ER TrT}{b:Nat}{s:ScT}{y:TrT}{f':Int}(h:r=.ok (y,f')):VeS r b s (.ret (.agg (y.cs true))) [mb b s f']:=.inl ⟨by rw[h];rfl,_,rfl,y,f',h,rfl,rfl⟩
theorem VeS.er{r:ER TrT}{b:Nat}{s:ScT}{c:Int}(h:r=.error c)(hc:¬c=0):VeS r b s (.pan (.iface 47 (.int .i64 c))) []:=.inr ⟨by rw[h];exact hc,by rw[h];rfl,rfl⟩
def Rr(n:Nat):Prop:=∀(t:TmT) (s:ScT) (f:Int) (b:Nat) (fr:Bool),t.sz≤n→t.wf→t.Fine→s.good→okQ f→AC Tryz.prog 130 [mb b s f] [pb b,.agg (t.cs fr)] (VkS (t.partE s f) b s)
def YF(ts:List TrT):ER (List TrT)→ER (List TrT)
  |.error c=>.error c
  |.ok (l,f)=>.ok (ts++l,f)
theorem M7(r:ER (List TrT)):r=YF [] r:=by rcases r with c|⟨l,f⟩<;>rfl
theorem C8{s:ScT}{ts:List TrT}{g:Int}:YF ts (QK [] s g)=.ok (ts,g):=by rw[QK];simp[YF]
theorem C7{l:List TmT}{s:ScT}{j:Nat}{ts a:List TrT}{g f1:Int}(hj:j<l.length)(h:l[j].partE s g=.ok (a,f1)):YF ts (QK (l.drop j) s g)=YF (ts++a) (QK (l.drop (j+1)) s f1):=by
  rw[List.drop_eq_getElem_cons hj,QK,h]
  show YF ts (UV (QK (l.drop (j+1)) s f1) fun b f2=>.ok (a++b,f2))=_
  rcases QK (l.drop (j+1)) s f1 with c|⟨b,f2⟩
  · rfl
  · simp[YF,UV]
theorem BU{l:List TmT}{s:ScT}{j:Nat}{ts:List TrT}{g c:Int}(hj:j<l.length)(h:l[j].partE s g=.error c):YF ts (QK (l.drop j) s g)=.error c:=by
  rw[List.drop_eq_getElem_cons hj,QK,h];rfl
theorem LC{n:Nat}(ih:Rr n){l:List TmT}{s:ScT}{f:Int}{b:Nat}{fr:Bool}(h16:l.length≤16)(hn:∀x∈l,x.sz≤n)(hw:∀x∈l,x.wf)(hf:∀x∈l,x.Fine)(hs:s.good)(h0:okQ f):
    AC Tryz.prog 87 [mb b s f] [pb b,.sl fr false eTm (TmT.css fr l)] (VkS (QK l s f) b s):=by
  refine AC.of_J Tryz.func87 rfl Tryz.ntmps87 rfl fun w0 A0=>?_
  refine Zs (Zq rfl (QW.assign .const) (Zn (J.seq (Zs (Zm rfl (Zq rfl (by first|exact Qh Y8 (.r rfl) wl|exact Qh Y8 (.r rfl) (TmT.css_length _ _)|exact Qh Y8 (.r rfl) (SetT.css_length _ _)|exact Qh Y8 (.r rfl) (TrT.css_length _ _)|exact Qw Y8 (.r rfl)|exact QW.len_nil Y8 (.r rfl)) ?_))))))
  refine Zq rfl (QW.move .const) (Zn (J.block (J.reown (Up eTr _) (Ua (ι:=Nat×Value×List TrT×Int) [0,7,8] (fun⟨j,v,ts,g⟩=>[(9,.c (.int .i64 (j:Int))),(4,.c v)]) (fun⟨j,v,ts,g⟩ oo=>List.set (List.set oo 1 (.arr v eTr (TrT.css true ts))) 0 (mb b s g)) (fun⟨j,v,ts,g⟩=>j≤l.length∧(ts.length:Int)+g≤f∧okQ g∧QK l s f=YF ts (QK (l.drop j) s g)) (fun⟨j,v,ts,g⟩=>l.length-j) ⟨0,.slice none 0 0,[],f⟩ (⟨Nat.zero_le _,by show((0:Nat):Int)+f≤f;omega,h0,M7 _⟩) (QQ (.cons rfl lr (.cons rfl lr (.cons rfl lr (.cons rfl lr (.cons rfl lr .nil))))) (Reown.refl _) (fun _ h=>by first|exact h|simp[h])) ?_))))
  intro⟨j,v,ts,g⟩ ⟨hj,hts,hg,hk⟩
  refine J.conv (by(try simp only[nl,Qj,QA,QC,Qy,QZ,AV.cellsOf,Qc,Qd,Nat.reduceAdd]);rfl) ?_
  refine Zs (Zq rfl (QW.lss (.r rfl) (.r rfl)) (Zn (J.seq ?_)))
  refine J.cond (.r rfl) (fun c1=>?_) (fun c1=>?_)
  · skip
    have hlt:j<l.length:=by simpa[TmT.css_length]using c1
    refine Zk (J.seq (J.block (Zs (Zq rfl (Qi Y8 UR rfl (.r rfl) (.r rfl) (by first|rfl|omega|(simp;done)) (by exact TmT.css_getE _ hlt)) ?_))))
    refine Zq rfl (by first|exact Qm UR (.r rfl) rfl rfl|exact Qm UR (.r rfl) (QF (TmT.cs_length _ _) rfl) (TmT.cs_length _ _)) ?_
    refine JL.alloc z40 rfl rfl fun b6=>?_
    first|refine Qa 0 UR (.r rfl) rfl (.r rfl) (by first|rfl|assumption) rfl rfl rfl ?_|refine Qa 0 UR (.r rfl) rfl (.r rfl) (by first|rfl|assumption) rfl (TmT.cs_length _ _) rfl ?_|refine Qa 0 UR (.r rfl) rfl (.r rfl) (by first|rfl|assumption) (TmT.cs_length _ _) rfl rfl ?_|refine Qa 0 UR (.r rfl) rfl (.r rfl) (by first|rfl|assumption) (TmT.cs_length _ _) (TmT.cs_length _ _) rfl ?_|refine JL.store_box 0 UR (.r rfl) rfl (.r rfl) (by first|rfl|assumption) rfl rfl rfl rfl ?_|refine JL.store_box 0 UR (.r rfl) rfl (.r rfl) (by first|rfl|assumption) (TmT.cs_length _ _) rfl rfl rfl ?_
    refine Zn (Qg (Zm rfl (Zm rfl (Zq rfl (by first|exact Qe 0 UR (.r rfl) rfl rfl rfl|exact Qe 0 UR (.r rfl) rfl (Qo (TmT.cs_length _ _) rfl) (TmT.cs_length _ _)) ?_))))
    refine Qn [.k,.p] QaH rfl Lent.nil (fun _=>(.cons (.r rfl) (.cons (.r rfl) .nil))) (ih l[j] s g b fr (hn _ (List.getElem_mem hlt)) (hw _ (List.getElem_mem hlt)) (hf _ (List.getElem_mem hlt)) hs hg) (.inl rfl) (fun k16 x16 o16 h16=>?_) (fun k16=>?_)
    rotate_left
    · skip
      refine blkQ.p (thenQ.p (thenQ.p (blkQ.p (thenQ.p ?_))))
      exact⟨_,QI [.k,.k] _,_,rfl,rfl,Qk [.k,.k] _,VkS.er (hk.trans (BU hlt (UN k16))) k16⟩
    obtain⟨v16,f16,hv16,rfl,rfl⟩:=h16
    obtain⟨-,hlv,hf0⟩:=Ga _ (hf _ (List.getElem_mem hlt)) (hw _ (List.getElem_mem hlt)) hs hg.1 hg.2 _ _ hv16
    refine JL.append 2 Q6 Qa0 rfl (.r rfl) rfl (U8 Q6 (.r rfl)) (by rw[TrT.css_length,TrT.css_length];show(_+_)*96≤_;unfold Qr;have:=h0.2;omega) rfl fun v17=>?_
    refine Za rfl (JL.nil (blkQ.n (thenQ.n (Qg (Zq rfl (QW.add (.r rfl) .const (by first|exact U6 (by first|rfl|omega|(simp;done)) (by omega)|exact Yy (by omega)|rfl)) ?_)))))
    refine Zm rfl (Zn ?_)
    rw[← TrT.css_append]
    exact⟨⟨j+1,v17,ts++v16,f16⟩,⟨hlt,by simp;omega,⟨hf0,by have:=hg.2;omega⟩,hk.trans (C7 hlt hv16)⟩,by show l.length-(j+1)<l.length-j;omega,QQ (.cons rfl lr (.cons rfl lr (.cons rfl lr (.cons rfl lr (.cons rfl lr .nil))))) (Q3 1 _ rfl) (fun _ h=>by first|exact h|simp[h])⟩
  have hge:l.length≤j:=by simpa[TmT.css_length]using c1
  rw[List.drop_of_length_le hge,C8]at hk
  refine J.exit (Qz (Qz (QY (thenQ.n (J.seq (J.closeArr 1 rfl (by rw[TrT.css_length];show _*96≤_;unfold Qr;have:=h0.2;have:=hg.1;omega) rfl (fun z hz=>by simp only[mb,QT,UW,Own.fp,List.append_nil,List.mem_singleton]at hz;subst hz;simp[mb,QT,Own.fp]) ?_))))))
  exact Qg (Zm rfl (Za rfl (Zn (J.ret (Zr [.p] (RetEv.one rfl (REv.tmp rfl (.fact (by simp) lr))) rfl (VkS.ok hk))))))

end
section
/- The sort of attributes by their names, by the kit's contract of slices.SortFunc. -/
set_option maxRecDepth 10000
set_option maxHeartbeats 4000000
open Go.Shelf Go.Lib Go.Sort
def RM:Go.Shelf.Ren:=⟨fun|6=>84|15=>128|14=>127|28=>178|29=>179|20=>170|21=>171|22=>172|23=>173|24=>174|25=>175|26=>176|27=>177|46=>211|47=>212|48=>213|49=>214|50=>215|57=>237|n=>n,fun|22=>43|24=>191|25=>194|3=>3|39=>247|0=>0|53=>289|55=>22|4=>4|46=>282|45=>281|50=>286|5=>5|9=>9|66=>312|70=>136|76=>333|77=>137|n=>n,fun|n=>n⟩
theorem Eh:Go.Proofs.SlLaysF0.n6 Tryz.prog RM:={
  mixed:=by kernel_rfl
  f6:=⟨Tryz.f84.name,by decide,Tryz.func84.trans (congrArg some (by kernel_rfl))⟩
  f14:=⟨Tryz.f127.name,by decide,Tryz.func127.trans (congrArg some (by kernel_rfl))⟩
  f15:=Tryz.func128.trans (congrArg some (by kernel_rfl))
  f20:=⟨Tryz.f170.name,by decide,Tryz.func170.trans (congrArg some (by kernel_rfl))⟩
  f21:=⟨Tryz.f171.name,by decide,Tryz.func171.trans (congrArg some (by kernel_rfl))⟩
  f22:=⟨Tryz.f172.name,by decide,Tryz.func172.trans (congrArg some (by kernel_rfl))⟩
  f23:=⟨Tryz.f173.name,by decide,Tryz.func173.trans (congrArg some (by kernel_rfl))⟩
  f24:=⟨Tryz.f174.name,by decide,Tryz.func174.trans (congrArg some (by kernel_rfl))⟩
  f25:=⟨Tryz.f175.name,by decide,Tryz.func175.trans (congrArg some (by kernel_rfl))⟩
  f26:=⟨Tryz.f176.name,by decide,Tryz.func176.trans (congrArg some (by kernel_rfl))⟩
  f27:=⟨Tryz.f177.name,by decide,Tryz.func177.trans (congrArg some (by kernel_rfl))⟩
  f28:=Tryz.func178.trans (congrArg some (by kernel_rfl))
  f29:=Tryz.func179.trans (congrArg some (by kernel_rfl))
  f46:=⟨Tryz.f211.name,by decide,Tryz.func211.trans (congrArg some (by kernel_rfl))⟩
  f47:=Tryz.func212.trans (congrArg some (by kernel_rfl))
  f48:=Tryz.func213.trans (congrArg some (by kernel_rfl))
  f49:=⟨Tryz.f214.name,by decide,Tryz.func214.trans (congrArg some (by kernel_rfl))⟩
  f50:=⟨Tryz.f215.name,by decide,Tryz.func215.trans (congrArg some (by kernel_rfl))⟩
  f57:=⟨Tryz.f237.name,by decide,Tryz.func237.trans (congrArg some (by kernel_rfl))⟩
  t0:=Tryz.underlying0
  a0:=Tryz.isAgg0
  z0:=Tryz.sizeOf0
  v0:=Tryz.zeroValue0
  t3:=Tryz.underlying3
  a3:=Tryz.isAgg3
  z3:=Tryz.sizeOf3
  v3:=Tryz.zeroValue3
  t4:=Tryz.underlying4
  a4:=Tryz.isAgg4
  z4:=Tryz.sizeOf4
  v4:=Tryz.zeroValue4
  t5:=Tryz.underlying5
  a5:=Tryz.isAgg5
  z5:=Tryz.sizeOf5
  v5:=Tryz.zeroValue5
  t9:=Tryz.underlying9
  a9:=Tryz.isAgg9
  z9:=Tryz.sizeOf9
  v9:=Tryz.zeroValue9
  t22:=Tryz.underlying43
  a22:=Tryz.isAgg43
  z22:=Tryz.sizeOf43
  v22:=Tryz.zeroValue43
  t25:=Tryz.underlying194
  a25:=Tryz.isAgg194
  z25:=Tryz.sizeOf194
  v25:=Tryz.zeroValue194
  t39:=Tryz.underlying247
  a39:=Tryz.isAgg247
  z39:=Tryz.sizeOf247
  v39:=Tryz.zeroValue247
  t45:=Tryz.underlying281
  a45:=Tryz.isAgg281
  z45:=Tryz.sizeOf281
  v45:=Tryz.zeroValue281
  t46:=Tryz.underlying282
  a46:=Tryz.isAgg282
  z46:=Tryz.sizeOf282
  v46:=Tryz.zeroValue282
  t50:=Tryz.underlying286
  a50:=Tryz.isAgg286
  z50:=Tryz.sizeOf286
  v50:=Tryz.zeroValue286
  t53:=Tryz.underlying289
  a53:=Tryz.isAgg289
  z53:=Tryz.sizeOf289
  v53:=Tryz.zeroValue289
  t55:=Tryz.underlying22
  a55:=Tryz.isAgg22
  z55:=Tryz.sizeOf22
  v55:=Tryz.zeroValue22
  t66:=Tryz.underlying312
  a66:=Tryz.isAgg312
  z66:=Tryz.sizeOf312
  v66:=Tryz.zeroValue312
  t70:=Tryz.underlying136
  a70:=Tryz.isAgg136
  z70:=Tryz.sizeOf136
  v70:=Tryz.zeroValue136
  t76:=Tryz.underlying333
  a76:=Tryz.isAgg333
  z76:=Tryz.sizeOf333
  v76:=Tryz.zeroValue333
  t77:=Tryz.underlying137
  a77:=Tryz.isAgg137
  z77:=Tryz.sizeOf137
  v77:=Tryz.zeroValue137}
theorem Dd(x:ByteArray)(W:World):Calls Tryz.prog 129 #[.string x] W fun e w'=>e=.returned (.bool false)∧w'=W:=by
  go_enter Tryz.func129,Tryz.ntmps129
  go_wp2
  go_ret
  exact⟨by simp,rfl⟩
theorem DJ(x y:ByteArray)(W:World):Calls Tryz.prog 86 #[.string x,.string y] W fun e w'=>e=.returned (.int .i64 (XP x.toList y.toList))∧w'=W:=by
  have hcon:=fun z W'=>Dd z W'
  go_enter Tryz.func86,Tryz.ntmps86
  go_wp2_with (go_at_call 129;refine(hcon _ _).mono ?_;rintro e w' ⟨rfl,rfl⟩)
  all_goals go_ret
  all_goals (refine⟨?_,rfl⟩;unfold XP;rename_i h;first|(simp_all [WV];done)|(rcases GL x.toList y.toList with k|k|k<;>simp_all [GM]))
theorem Fy(a b c d:QN)(W:World):Calls Tryz.prog 85 #[.agg #[Q4 a,Q4 b],.agg #[Q4 c,Q4 d]] W fun e w'=>e=.returned (.int .i64 (XP a c))∧∃q os',w'=grow (W.drewN q) os':=by
  have hcon:=fun W'=>DJ ⟨a.toArray⟩ ⟨c.toArray⟩ W'
  rw[Uu,Uu]at hcon
  generalize XP a c=r at hcon⊢
  go_enter Tryz.func85,Tryz.ntmps85
  go_wp2_with (go_at_call 86;refine(hcon _).mono ?_;rintro e w' ⟨rfl,rfl⟩)
  go_ret
  exact⟨rfl,0,_,by rw[alloc_eq_grow,alloc_eq_grow,grow_grow];rfl⟩
def Kh(a:AtT):List Value:=[Q4 a.name,Q4 a.value]
theorem SM(x y:AtT):ltOf (fun x y:AtT=>XP x.name y.name) x y=Op.bytesLess x.name y.name:=by
  unfold ltOf
  rw[Bool.eq_iff_iff,decide_eq_true_eq]
  exact cmpS_lt
theorem swoAt:SWO (ltOf fun x y:AtT=>XP x.name y.name) where
  irrefl x:=by rw[SM];exact GM _
  trans x y z h1 h2:=by rw[SM]at*;exact W3 h1 h2
  ntrans x y z h1 h2:=by
    rw[SM]at*
    cases h3:Op.bytesLess x.name z.name with
    |false=>rfl
    |true=>
      rcases GL x.name y.name with k|k|k
      · rw[h1]at k;cases k
      · rw[← k,h3]at h2;cases h2
      · have:=W3 k h3;rw[h2]at this;cases this
instance:Inhabited AtT:=⟨⟨[],[]⟩⟩
theorem Cj(a:AtT)(k:Nat):((Kh a)[k%2]!).oneCell'=true:=by
  rcases Nat.mod_two_eq_zero_or_one k with h|h<;>rw[h]<;>rfl
theorem Rf:∀(l:List AtT) (t:Nat),t<l.length*2→(AtT.css l).flatten[t]? =some (.c ((Kh l[t / 2]!)[t%2]!))
  |a::r,0,_=>rfl
  |a::r,1,_=>rfl
  |a::r,t+2,h=>by
    have h1:=Rf r t (by simp only[List.length_cons]at h;omega)
    have h2:(t+2) / 2=t / 2+1:=by omega
    rw[h2,Nat.add_mod_right]
    show(a.cs++(AtT.css r).flatten)[t+2]? =_
    rw[List.getElem?_append_right (by show 2≤t+2;omega)]
    show(AtT.css r).flatten[t+2-2]? =_
    rw[Nat.add_sub_cancel,h1]
    rfl
theorem Pl(l:List AtT):(AtT.css l).flatten.length=l.length*2:=by
  induction l with
  |nil=>rfl
  |cons a r ih=>
    show(a.cs++(AtT.css r).flatten).length=_
    rw[List.length_append,ih,List.length_cons]
    show 2+r.length*2=_
    omega
theorem Hp.more{n0:Nat}{fp0:List Nat}{A0 A:QS}{own:List Own}{w w':World}(h:Hp n0 fp0 A0 own w A)(hk:Keep [] w w'):Hp n0 fp0 A0 own w' A:=
  ⟨h.mono,h.sup,h.sub,fun fr b hb=>Nat.lt_of_lt_of_le (h.lt fr b hb) hk.size,fun b hb=>let ⟨h1,h2,h3⟩:=h.fp b hb;⟨Nat.lt_of_lt_of_le h1 hk.size,h2,h3⟩,h.nodup,fun o ho=>
    (h.own o ho).move (fun _ _ h _=>h) (fun fr b _ hlt=>hk.block b hlt (by simp)) fun b hb=>hk.block b (h.fp b (Ur ho hb)).1 (by simp)⟩
theorem Be{l:List AtT}(hl:l.length*32≤Qr)(v:Value):AC Tryz.prog 84 [.arr v DH (AtT.css l)] [.c v,.c (.func (.func 85) #[] #[])] (YV fun x o=>x=.tup []∧∃l',l.Perm l'∧FR l'∧o=[.arr v DH (AtT.css l')]):=fun w A0 vs hp hargs=>by
  obtain⟨hsz,hrd⟩:=hargs
  have h0:=(hrd 0 _ rfl).eq
  have h1:=(hrd 1 _ rfl).eq
  obtain rfl:vs= #[v,.func (.func 85) #[] #[]]:=by
    apply Array.ext_getElem?
    intro i
    match i with
    |0=>rw[Array.getD_eq_getD_getElem?]at h0;rw[Array.getElem?_eq_getElem (by simp at hsz;omega)]at h0⊢;simpa using h0
    |1=>rw[Array.getD_eq_getD_getElem?]at h1;rw[Array.getElem?_eq_getElem (by simp at hsz;omega)]at h1⊢;simpa using h1
    |i+2=>rw[Array.getElem?_eq_none (by simp at hsz;omega),Array.getElem?_eq_none (by simp)]
  have hok:=hp.own _ (List.mem_cons_self)
  simp only[Own.ok]at hok
  by_cases hl0:l=[]
  · subst hl0
    obtain⟨a,c,rfl⟩:∃a c,v=.slice a 0 c:=by
      rcases hok with ⟨a,rfl,-⟩|⟨b,cap,us,t,rfl,-⟩
      · exact⟨_,_,rfl⟩
      · exact⟨_,_,rfl⟩
    refine(AnyF.slices_SortFunc_none Eh a c (.func (.func 85) #[] #[]) w).mono fun e w' ⟨he,hw⟩=>?_
    subst he hw
    exact⟨.ret (.tup []),_,A0,⟨_,rfl,rfl,[],.refl _,List.Pairwise.nil,rfl⟩,.refl _ _,hp,⟨_,rfl,.mk_tup rfl fun k y hk=>by cases hk⟩⟩
  rcases hok with ⟨a,rfl,hnil⟩|⟨b,cap,us,t,rfl,hb,hle,hrow,hel,hc⟩
  · exact absurd (by simpa[AtT.css]using hnil) hl0
  · have hlen:(AtT.css l).length=l.length:=AtT.css_length l
    have hn:l.length*2≤us.size:=by rw[hrow.size];show _≤(cap+1)*2;rw[hlen]at hle;omega
    have hlt:=X4 hb
    have hH:HoldsK Kh 2 w b 0 l.toArray:=fun j hj=>by
      have hj2:j<l.length*2:=by simpa using hj
      obtain⟨u,g1,g2,g3⟩:=hc j _ (Rf l j hj2)
      have hu:=g3.eq
      rw[get_flatK Kh 2 l.toArray j (by simpa using hj2)]
      refine⟨?_,by simp[World.frozen?,hb]⟩
      rw[Xy hb,g1,hu]
      simp
    have hcall:=AnyQ.slices_SortFunc Eh 2 (fun w=>Y2 Ko) (fun w=>Us Ko) Kh (fun _=>rfl) (fun x v hv=>by simp[Kh]at hv;rcases hv with rfl|rfl<;>rfl) (fun x y=>XP x.name y.name) swoAt 85 #[] b 0 (cap+1) l.toArray w
      (enters_of Tryz.func85 (by kernel_rfl) rfl) (fun _ _ _ _ x y=>Fy x.name x.value y.name y.value _) hH hlt (by simp;unfold Qr at hl;omega)
    rw[show l.toArray.size=(AtT.css l).length by simp[hlen]]at hcall
    refine hcall.mono fun e w' ⟨he,d',n,os,hpm,hst,hw⟩=>?_
    subst he hw
    obtain⟨p1,-,p3⟩:=hpm
    have hsz2:d'.size=l.length:=by simpa using p1
    have hpl:l.Perm d'.toList:=by
      have e1:d'.extract 0 (AtT.css l).length=d':=by rw[hlen,← hsz2];exact Array.extract_size
      have e2:l.toArray.extract 0 (AtT.css l).length=l.toArray:=by rw[hlen];simp
      rw[e1,e2]at p3
      simpa using p3.symm
    have hsrt:FR d'.toList:=by
      unfold FR
      rw[List.pairwise_iff_getElem]
      intro i j hi hj hij
      have:=hst i j (Nat.zero_le _) hij (by rw[hlen,← hsz2];simpa using hj)
      rw[SM]at this
      simp only[Array.length_toList]at hi hj
      simpa[getElem!_pos d' i hi,getElem!_pos d' j hj]using this
    have hF:(flatK Kh 2 d').size=l.length*2:=by rw[size_flatK,hsz2]
    obtain⟨us',hus⟩:∃us',us'=putCells id 0 (flatK Kh 2 d') us:=⟨_,rfl⟩
    have hs':us'.size=us.size:=by rw[hus,putCells];simp
    have hget:∀k,k<us.size→us'[k]? =some (if k<l.length*2 then(Kh d'.toList[k / 2]!)[k%2]! else us[k]!):=fun k hk=>by
      rw[hus,putCells,Array.getElem?_mapIdx,Array.getElem?_eq_getElem hk]
      simp only[Option.map_some,Nat.zero_le,true_and,Nat.zero_add,hF,Nat.sub_zero,id]
      congr 1
      by_cases h:k<l.length*2
      · have hk2:k / 2<d'.size:=by omega
        rw[if_pos h,if_pos h,get_flatK Kh 2 d' k (by rw[hsz2];exact h),getElem!_pos d' _ hk2,getElem!_pos d'.toList _ (by simpa using hk2)]
        simp
      · rw[if_neg h,if_neg h,getElem!_pos us k hk]
    obtain⟨w1,hw1⟩:∃w1,w1=mapBlock (Go.Sort.ahead w n) b (putCells id 0 (flatK Kh 2 d')):=⟨_,rfl⟩
    have hb1:w1.heap[b]? =some (.cells us' t (0,0)):=by
      rw[hw1,hus]
      show(w.heap.modify b _)[b]? =_
      rw[Array.getElem?_modify,if_pos rfl,hb];rfl
    have hk1:Keep [b] w w1:=by
      rw[hw1]
      refine⟨rfl,rfl,rfl,by show _≤(w.heap.modify b _).size;simp,fun k _ hk=>?_⟩
      show(w.heap.modify b _)[k]? =_
      rw[Array.getElem?_modify,if_neg (by simpa using fun h=>hk (by simp[h]))]
    have hz1:w1.heap.size=w.heap.size:=by rw[hw1];show(w.heap.modify b _).size=_;simp
    have hlen2:(AtT.css d'.toList).length=l.length:=by rw[AtT.css_length];simpa using hsz2
    have hnew:(Own.arr (.slice (some ⟨b,0,none⟩) (AtT.css l).length (cap+1)) DH (AtT.css d'.toList)).ok w1 A0:=by
      simp only[Own.ok]
      refine .inr ⟨b,cap,us',t,by rw[hlen,hlen2],hb1,by rw[hlen2];rw[hlen]at hle;exact hle,⟨by rw[hs'];exact hrow.size,fun k u hu=>?_⟩,AtT.css_sz _,fun k y hk=>?_⟩
      · have hku:k<us.size:=by rw[← hs'];exact(Array.getElem?_eq_some_iff.1 hu).1
        rw[hget k hku]at hu
        cases hu
        split
        · exact Cj _ k
        · exact hrow.one k _ (by rw[getElem!_pos us k hku];exact Array.getElem?_eq_getElem hku)
      · have hkl:k<l.length*2:=by
          have:=(List.getElem?_eq_some_iff.1 hk).1
          rw[Pl]at this
          simpa[hsz2]using this
        rw[Rf _ _ (by simpa[hsz2]using hkl)]at hk
        cases hk
        refine⟨_,by rw[Nat.zero_add];exact hget k (by omega),?_,?_⟩
        · rw[if_pos hkl];exact Cj _ k
        · rw[if_pos hkl];exact .c _
    have hfp:(Own.arr (.slice (some ⟨b,0,none⟩) (AtT.css l).length (cap+1)) DH (AtT.css l)).fp=[b]:=by
      rw[hlen]
      obtain⟨m,hm⟩:∃m,l.length=m+1:=⟨l.length-1,by have:=List.length_pos_iff.2 hl0;omega⟩
      rw[hm];rfl
    have hfps:UM [Own.arr (.slice (some ⟨b,0,none⟩) (AtT.css l).length (cap+1)) DH (AtT.css l)]=[b]:=by simp[QT,UW,hfp]
    have hp1:=hp.upd (i:=0) (o':=.arr (.slice (some ⟨b,0,none⟩) (AtT.css l).length (cap+1)) DH (AtT.css d'.toList)) rfl rfl (by rw[hfp];exact hk1) hz1 hnew
    have hk2:Keep [] w1 (grow w1 os):=⟨rfl,rfl,rfl,by rw[size_grow];omega,fun k hk _=>by show(w1.heap++os)[k]? =_;rw[Array.getElem?_append_left hk]⟩
    have hww:sortWorldK Kh 2 w b 0 n d' os=grow w1 os:=by rw[hw1];rfl
    rw[hww]
    exact⟨.ret (.tup []),_,A0,⟨_,rfl,rfl,d'.toList,hpl,hsrt,rfl⟩,(hfps▸hk1).trans hk2 (fun x hx=>by cases hx),hp1.more hk2,⟨_,rfl,.mk_tup rfl fun k y hk=>by cases hk⟩⟩

end
section
/- Walks: the renderer: an element. -/
set_option maxRecDepth 10000
set_option maxHeartbeats 4000000
def GN(ts:List AtT):ER (List AtT)→ER (List AtT)
  |.error c=>.error c
  |.ok (l,f)=>.ok (ts++l,f)
theorem Fa(r:ER (List AtT)):r=GN [] r:=by rcases r with c|⟨l,f⟩<;>rfl
theorem PI{s:ScT}{ts:List AtT}{g:Int}:GN ts (Xl s [] g)=.ok (ts,g):=by rw[Xl];simp[GN]
theorem PH{a:List SetT}{s:ScT}{j:Nat}{ts:List AtT}{g f1:Int}{w:QN}(hj:j<a.length)(h:W9 (a[j].ex.ev s g)=.ok (w,f1)):GN ts (Xl s (a.drop j) g)=GN (ts++[⟨a[j].key,w⟩]) (Xl s (a.drop (j+1)) f1):=by
  rw[List.drop_eq_getElem_cons hj,Xl,h]
  show GN ts (UV (Xl s (a.drop (j+1)) f1) fun b f2=>.ok (⟨a[j].key,w⟩::b,f2))=_
  rcases Xl s (a.drop (j+1)) f1 with c|⟨b,f2⟩
  · rfl
  · simp[GN,UV]
theorem ats_bad{a:List SetT}{s:ScT}{j:Nat}{ts:List AtT}{g c:Int}(hj:j<a.length)(h:W9 (a[j].ex.ev s g)=.error c):GN ts (Xl s (a.drop j) g)=.error c:=by
  rw[List.drop_eq_getElem_cons hj,Xl,h];rfl
section
variable {t:QN} {k:EX} {a:List SetT} {q:ScT→Int→ER (List TrT)} {s:ScT} {f f1 f2 f3 c:Int} {key:QN} {ats:List AtT} {ks:List TrT}
theorem elem_w(h:W9 (k.ev s f)=.error c):YW t k a q s f=.error c:=by rw[YW,h];rfl
theorem elem_5(h:W9 (k.ev s f)=.ok (key,f1))(h2:16<key.length):YW t k a q s f=.error 5:=by rw[YW,h];exact if_pos h2
theorem DG(h:W9 (k.ev s f)=.ok (key,f1))(h2:¬16<key.length):YW t k a q s f=UV (Xl s a f1) fun ats f2=>UV (q s f2) fun ks f3=>.ok (.mk t key [] (HN ats) ks,f3):=by rw[YW,h];exact if_neg h2
theorem elem_a(h:W9 (k.ev s f)=.ok (key,f1))(h2:¬16<key.length)(h3:Xl s a f1=.error c):YW t k a q s f=.error c:=by rw[DG h h2,h3];rfl
theorem elem_k(h:W9 (k.ev s f)=.ok (key,f1))(h2:¬16<key.length)(h3:Xl s a f1=.ok (ats,f2))(h4:q s f2=.error c):YW t k a q s f=.error c:=by rw[DG h h2,h3];show UV (q s f2) _=_;rw[h4];rfl
theorem elem_y(h:W9 (k.ev s f)=.ok (key,f1))(h2:¬16<key.length)(h3:Xl s a f1=.ok (ats,f2))(h4:q s f2=.ok (ks,f3)):YW t k a q s f=.ok (.mk t key [] (HN ats) ks,f3):=by rw[DG h h2,h3];show UV (q s f2) _=_;rw[h4];rfl
end
theorem HK{n:Nat}(ih:Rr n){t:QN}{k x:EX}{a:List SetT}{l:List TmT}{s:ScT}{f:Int}{b:Nat}{fr:Bool}(hn:∀x∈l,x.sz≤n)(hw:(TmT.mk 1 t k x a l).wf)(hf:(TmT.mk 1 t k x a l).Fine)(hs:s.good)(h0:okQ f):
    AC Tryz.prog 45 [mb b s f] [pb b,.agg ((TmT.mk 1 t k x a l).cs fr)] (VeS (YW t k a (fun s f=>QK l s f) s f) b s):=by
  obtain⟨-,htw,hkw,hxw,haw,hws,hlw,hwl⟩:=hw.inv
  obtain⟨-,ha16,hl16,hkf,hxf,hsf,hlf⟩:=hf.inv
  obtain⟨-,-,-,hnd⟩:=Rg hf
  have hal:a.length≤9223372036854775805:=by omega
  refine AC.of_J Tryz.func45 rfl Tryz.ntmps45 rfl fun w0 A0=>?_
  refine Zs (Qs (.r rfl) rfl fun b3=>JL.alloc z46 rfl rfl fun b4=>Zn (J.seq (QV mixed (Zf 0 [] rfl (fun _=>Qf Dv (.r rfl) rfl) (Zo 1 1 [8] rfl (fun _ ho_=>Qb 1 UO (.r rfl) ho_ TmT.at1) (Zf 2 [] rfl (fun _=>QW.move (.r rfl)) (Zf 3 [] rfl (fun _=>Qf Du (.r rfl) rfl) ?_)))))))
  refine Zo 4 1 [11] rfl (fun _ ho_=>Qe 1 Ub (.r rfl) ho_ Lw xl) (JX.a 7 rfl (AllocOp.mk z46 rfl) rfl rfl rfl rfl rfl (JX.one 5 [false,true,true,true,false,false] rfl (by kernel_rfl) (by kernel_rfl) rfl rfl (by kernel_rfl) rfl fun bs5_ pe_ ex_=>?_))
  refine JL.conv (by(try simp only[Ug,Uo,Q8,Q0,Flt.val,Flt.bx,nx,nl,Qj,QA,QC,Qy,QZ,AV.cellsOf,Qc,Qd,Nat.reduceAdd]);rfl) ?_
  refine Qn [.k,.k,.p] Do rfl Lent.nil (fun _=>(.cons (.r rfl) (.cons (.r rfl) .nil))) (Hf (fr:=fr) (b:=b) hkw hkf hs h0.F) (.inl rfl) (fun k13 x13 o13 h13=>?_) (fun k13=>?_)
  rotate_left
  · skip
    refine thenQ.p (thenQ.p ?_)
    exact⟨_,QI [.k,.k] _,_,rfl,rfl,Qk [.k,.k] _,VeS.er (elem_w (UN k13)) k13⟩
  obtain⟨v13,f13,hv13,rfl,rfl⟩:=h13
  refine JL.nil ?_
  refine thenQ.n ⟨[_],_,rfl,rfl,rfl,rfl,rfl,U5 3 rfl rfl,⟨rfl,rfl⟩,⟨trivial,⟨rfl,⟨trivial,trivial⟩⟩⟩,?_⟩
  refine JX.conv (S':=[5,4,3,2]) rfl (by(try simp only[Q0]);rfl) (by(try simp only[Ug,Uo,Q8,Q0,Flt.val,Flt.bx,nx,nl,Qj,QA,QC,Qy,QZ,AV.cellsOf,Qc,Qd,Nat.reduceAdd]);rfl) ?_
  refine Zf 6 [9,13] rfl (fun _=>QW.build (idx:=[0,1]) CT z46 rfl (.cons (.r rfl) (.cons (.r rfl) .nil)) rfl rfl rfl rfl) (JX.one 8 [true,true,true,true] rfl (by kernel_rfl) (by kernel_rfl) rfl rfl (by kernel_rfl) rfl fun bs8_ pe_ ex_=>?_)
  refine JL.conv (by(try simp only[Ug,Uo,Q8,Q0,Flt.val,Flt.bx,nx,nl,Qj,QA,QC,Qy,QZ,AV.cellsOf,Qc,Qd,Nat.reduceAdd]);rfl) ?_
  first|refine Qa 3 QB (.r rfl) rfl (.r rfl) (by first|rfl|assumption) rfl rfl rfl ?_|refine Qa 3 QB (.r rfl) rfl (.r rfl) (by first|rfl|assumption) rfl (TrT.cs_length _ _) rfl ?_|refine Qa 3 QB (.r rfl) rfl (.r rfl) (by first|rfl|assumption) (TrT.cs_length _ _) rfl rfl ?_|refine Qa 3 QB (.r rfl) rfl (.r rfl) (by first|rfl|assumption) (TrT.cs_length _ _) (TrT.cs_length _ _) rfl ?_|refine JL.store_box 3 QB (.r rfl) rfl (.r rfl) (by first|rfl|assumption) rfl rfl rfl rfl ?_|refine JL.store_box 3 QB (.r rfl) rfl (.r rfl) (by first|rfl|assumption) (TrT.cs_length _ _) rfl rfl rfl ?_
  refine JL.nil ?_
  refine thenQ.n ⟨[],_,rfl,rfl,rfl,rfl,rfl,QM 4 rfl,trivial,trivial,?_⟩
  refine JX.conv (S':=[8,6,7,1,0,5,4,3,2]) rfl (by(try simp only[Q0]);rfl) (by(try simp only[Ug,Uo,Q8,Q0,Flt.val,Flt.bx,nx,nl,Qj,QA,QC,Qy,QZ,AV.cellsOf,Qc,Qd,Nat.reduceAdd]);rfl) ?_
  refine JX.fin (by kernel_rfl) (by kernel_rfl) fun bs_=>?_
  refine QX.conv (by(try simp only[Ug,Uo,Q8,Q0,Flt.val,Flt.bx,nx,nl,Qj,QA,QC,Qy,QZ,AV.cellsOf,Qc,Qd,Nat.reduceAdd]);rfl) ?_
  refine thenQ.n (J.seq ?_)
  have hq:=XH hkf hkw hs hv13
  have hq13:okQ f13:=⟨hq.2.2,by have:=h0.2;omega⟩
  refine Qg (Zd Gv rfl (Zl 3 UO rfl (Zq rfl (U3 Mx (.r rfl)) (Zq rfl (QW.leq (.r rfl) .const) ?_))))
  refine Qn [] Hv rfl Lent.nil (fun _=>(.cons (.r rfl) (.cons .const .nil))) (XI _ _) (.inl rfl) (fun k19 x19 o19 h19=>?_) (fun k19=>?_)
  rotate_left
  · skip
    refine thenQ.p ?_
    exact⟨_,QI [.k,.k,.k,.k] _,_,rfl,rfl,Qk [.k,.k,.k,.k] _,VeS.er (c:=5) (elem_5 hv13 (by simp at k19;omega)) (by decide)⟩
  obtain⟨rfl,rfl⟩:=h19
  refine Zn (J.seq (J.seq ?_))
  have h16:¬16<v13.length:=by simp at k19;omega
  refine Qg (Zd Gw rfl (Zq rfl (Qb 1 TY (.r rfl) rfl YJ) (Zq rfl (by first|exact Qh Ye (.r rfl) wl|exact Qh Ye (.r rfl) (TmT.css_length _ _)|exact Qh Ye (.r rfl) (SetT.css_length _ _)|exact Qh Ye (.r rfl) (TrT.css_length _ _)|exact Qh Ye (.r rfl) (AtT.css_length _)|exact Qw Ye (.r rfl)|exact QW.len_nil Ye (.r rfl)) ?_)))
  refine Zq rfl (QW.move .const) (Zn (J.block (J.reown (Up DH _) (Ua (ι:=Nat×Value×List AtT×Int) [0,3,4,5,21,22] (fun⟨j,v,ats,g⟩=>[(23,.c (.int .i64 (j:Int)))]) (fun⟨j,v,ats,g⟩ oo=>List.set (List.set (List.set oo 4 (.arr v DH (AtT.css ats))) 2 (mb b s g)) 3 (.box (bs8_ 7) [.c (Q4 t),.c (Q4 v13),.c (Q4 []),.c v,.c (.slice none 0 0)])) (fun⟨j,v,ats,g⟩=>j≤a.length∧ats.length=j∧okQ g∧Xl s a f13=GN ats (Xl s (a.drop j) g)) (fun⟨j,v,ats,g⟩=>a.length-j) ⟨0,.slice none 0 0,[],f13⟩ (⟨Nat.zero_le _,rfl,hq13,Fa _⟩) (QQ (.cons rfl lr (.cons rfl lr (.cons rfl lr (.cons rfl lr (.cons rfl lr (.cons rfl lr (.cons rfl lr .nil))))))) (Reown.refl _) (fun _ h=>by first|exact h|simp[h])) ?_))))
  intro⟨j,v,ats,g⟩ ⟨hj,hjl,hg,hk⟩
  refine J.conv (by(try simp only[nl,Qj,QA,QC,Qy,QZ,AV.cellsOf,Qc,Qd,Nat.reduceAdd]);rfl) ?_
  refine Zs (Zq rfl (QW.lss (.r rfl) (.r rfl)) (Zn (J.seq ?_)))
  refine J.cond (.r rfl) (fun c1=>?_) (fun c1=>?_)
  · skip
    have hlt:j<a.length:=by simpa[SetT.css_length,TmT.attrs]using c1
    refine Zk (J.seq (J.block (Zs (Zq rfl (Qi Ye U9 rfl (.r rfl) (.r rfl) (by first|rfl|omega|(simp;done)) (by exact SetT.css_getE _ hlt)) ?_))))
    refine Zq rfl (by first|exact Qm U9 (.r rfl) rfl rfl|exact Qm U9 (.r rfl) (QF (SetT.cs_length _ _) rfl) (SetT.cs_length _ _)) ?_
    refine JL.alloc FS rfl rfl fun b7=>?_
    first|refine Qa 0 U9 (.r rfl) rfl (.r rfl) (by first|rfl|assumption) rfl rfl rfl ?_|refine Qa 0 U9 (.r rfl) rfl (.r rfl) (by first|rfl|assumption) rfl (SetT.cs_length _ _) rfl ?_|refine Qa 0 U9 (.r rfl) rfl (.r rfl) (by first|rfl|assumption) (SetT.cs_length _ _) rfl rfl ?_|refine Qa 0 U9 (.r rfl) rfl (.r rfl) (by first|rfl|assumption) (SetT.cs_length _ _) (SetT.cs_length _ _) rfl ?_|refine JL.store_box 0 U9 (.r rfl) rfl (.r rfl) (by first|rfl|assumption) rfl rfl rfl rfl ?_|refine JL.store_box 0 U9 (.r rfl) rfl (.r rfl) (by first|rfl|assumption) (SetT.cs_length _ _) rfl rfl rfl ?_
    refine Zn (QV mixed (Zf 0 [] rfl (fun _=>Qf Hx (.r rfl) rfl) (Zo 1 4 [27] rfl (fun _ ho_=>Qb 4 CB (.r rfl) ho_ rfl) (Zf 2 [] rfl (fun _=>Qf Lq (.r rfl) rfl) (Zo 3 0 [29] rfl (fun _ ho_=>Qb 0 UO (.r rfl) ho_ rfl) (Zf 4 [] rfl (fun _=>QW.move (.r rfl)) (Zf 5 [] rfl (fun _=>Qf Ca (.r rfl) rfl) (Zo 6 0 [32] rfl (fun _ ho_=>Qe 0 Ub (.r rfl) ho_ SetT.at1 xl) (JX.one 7 [true,true,true,false,false,false,false] rfl (by kernel_rfl) (by kernel_rfl) rfl rfl (by kernel_rfl) rfl fun bs7_ pe_ ex_=>?_)))))))))
    refine JL.conv (by(try simp only[Ug,Uo,Q8,Q0,Flt.val,Flt.bx,nx,nl,Qj,QA,QC,Qy,QZ,AV.cellsOf,Qc,Qd,Nat.reduceAdd]);rfl) ?_
    refine Qn [.k,.k,.k,.p] Do rfl Lent.nil (fun _=>(.cons (.r rfl) (.cons (.r rfl) .nil))) (Hf (fr:=fr) (b:=b) (hws _ (List.getElem_mem hlt)).ex (hsf _ (List.getElem_mem hlt)) hs hg.F) (.inl rfl) (fun k34 x34 o34 h34=>?_) (fun k34=>?_)
    rotate_left
    · skip
      refine thenQ.p (blkQ.p (thenQ.p (thenQ.p (blkQ.p (thenQ.p ?_)))))
      exact⟨_,QI [.k,.k,.k,.k,.k] _,_,rfl,rfl,Qk [.k,.k,.k,.k,.k] _,VeS.er (elem_a hv13 h16 (hk.trans (ats_bad hlt (UN k34)))) k34⟩
    obtain⟨v34,f34,hv34,rfl,rfl⟩:=h34
    refine JL.nil ?_
    refine thenQ.n ⟨[_],_,rfl,rfl,rfl,rfl,rfl,U5 6 rfl rfl,⟨rfl,rfl⟩,⟨rfl,⟨trivial,⟨rfl,⟨trivial,trivial⟩⟩⟩⟩,?_⟩
    refine JX.conv (S':=[7,6,5,4]) rfl (by(try simp only[Q0]);rfl) (by(try simp only[Ug,Uo,Q8,Q0,Flt.val,Flt.bx,nx,nl,Qj,QA,QC,Qy,QZ,AV.cellsOf,Qc,Qd,Nat.reduceAdd]);rfl) ?_
    refine Zf 8 [30,34] rfl (fun _=>QW.build (idx:=[0,1]) pl191 z191 rfl (.cons (.r rfl) (.cons (.r rfl) .nil)) rfl rfl rfl rfl) (Zf 9 [35] rfl (fun _=>QW.buildSlice (idx:=[0]) (xs:=[AtT.cs ⟨a[j].key,v34⟩]) WS el191 z191 rfl (.cons (.r rfl) .nil) rfl rfl rfl rfl rfl rfl rfl rfl rfl) (JX.one 10 [true,true,true,true,true,true] rfl (by kernel_rfl) (by kernel_rfl) rfl rfl (by kernel_rfl) rfl fun bs10_ pe_ ex_=>?_))
    refine JL.conv (by(try simp only[Ug,Uo,Q8,Q0,Flt.val,Flt.bx,nx,nl,Qj,QA,QC,Qy,QZ,AV.cellsOf,Qc,Qd,Nat.reduceAdd]);rfl) ?_
    refine JL.append 5 WS el191 rfl (.r rfl) rfl (U8 WS (.r rfl)) (by rw[AtT.css_length];show(_+1)*32≤_;unfold Qr;omega) rfl fun v37=>?_
    refine JL.nil ?_
    refine thenQ.n ⟨[_],_,rfl,rfl,rfl,rfl,rfl,QM 6 rfl,⟨rfl,rfl⟩,trivial,?_⟩
    refine JX.conv (S':=[10,9,8,3,2,1,0,7,6,5,4]) rfl (by(try simp only[Q0]);rfl) (by(try simp only[Ug,Uo,Q8,Q0,Flt.val,Flt.bx,nx,nl,Qj,QA,QC,Qy,QZ,AV.cellsOf,Qc,Qd,Nat.reduceAdd]);rfl) ?_
    refine Zf 11 [] rfl (fun _=>Qf Hx (.r rfl) rfl) (JX.one 12 [true] rfl (by kernel_rfl) (by kernel_rfl) rfl rfl (by kernel_rfl) rfl fun bs12_ pe_ ex_=>?_)
    refine JL.conv (by(try simp only[Ug,Uo,Q8,Q0,Flt.val,Flt.bx,nx,nl,Qj,QA,QC,Qy,QZ,AV.cellsOf,Qc,Qd,Nat.reduceAdd]);rfl) ?_
    refine JL.isSlice 5 rfl fun hs1=>JL.store_box 4 CB (.r rfl) rfl (.r rfl) (by first|rfl|assumption) rfl rfl rfl rfl ?_
    refine JL.nil ?_
    refine thenQ.n ⟨[],_,rfl,rfl,rfl,rfl,rfl,QM 6 rfl,trivial,trivial,?_⟩
    refine JX.conv (S':=[12,11,10,9,8,3,2,1,0,7,6,5,4]) rfl (by(try simp only[Q0]);rfl) (by(try simp only[Ug,Uo,Q8,Q0,Flt.val,Flt.bx,nx,nl,Qj,QA,QC,Qy,QZ,AV.cellsOf,Qc,Qd,Nat.reduceAdd]);rfl) ?_
    refine JX.fin (by kernel_rfl) (by kernel_rfl) fun bs_=>?_
    refine QX.conv (by(try simp only[Ug,Uo,Q8,Q0,Flt.val,Flt.bx,nx,nl,Qj,QA,QC,Qy,QZ,AV.cellsOf,Qc,Qd,Nat.reduceAdd]);rfl) ?_
    refine blkQ.n (thenQ.n (Qg (Zq rfl (QW.add (.r rfl) .const (by first|exact U6 (by first|rfl|omega|(simp;done)) (by omega)|exact Yy (by omega)|rfl)) ?_)))
    refine Zm rfl (Zn ?_)
    rw[AtT.css_snoc]
    have hq34:=XH (hsf _ (List.getElem_mem hlt)) (hws _ (List.getElem_mem hlt)).ex hs hv34
    exact⟨⟨j+1,v37,ats++[⟨a[j].key,v34⟩],f34⟩,⟨hlt,by simp;omega,⟨hq34.2.2,by have:=hg.2;omega⟩,hk.trans (PH hlt hv34)⟩,by show a.length-(j+1)<a.length-j;omega,QQ (.cons rfl lr (.cons rfl lr (.cons rfl lr (.cons rfl lr (.cons rfl lr (.cons rfl lr (.cons rfl lr .nil))))))) (Q3 1 _ rfl) (fun _ h=>by first|exact h|simp[h])⟩
  have hge:a.length≤j:=by simpa[SetT.css_length,TmT.attrs]using c1
  rw[List.drop_of_length_le hge,PI]at hk
  refine J.exit (Qz (Qz (QY (thenQ.n (Zs (Zd Hx rfl (Zl 3 CB rfl (JL.callRF [.k,.k,.k,.k,.p] gofn84 rfl Lent.nil (fun _=>(.cons (.r rfl) (.cons .func .nil))) (Be (l:=ats) (by omega) v) (.inl rfl) fun x42 o42 h42=>?_))))))))
  obtain⟨rfl,l2,hpm,hsr,rfl⟩:=h42
  refine Zn (Zs (Zm rfl (Zd KD rfl (Zq rfl (Qb 1 RF (.r rfl) rfl YI) ?_))))
  refine Qn [.k,.k,.p] Dn rfl Lent.nil (fun _=>(.cons (.r rfl) (.cons (.r rfl) .nil))) (LC (fr:=fr) ih hl16 hn hwl hlf hs hg) (.inl rfl) (fun k46 x46 o46 h46=>?_) (fun k46=>?_)
  rotate_left
  · skip
    refine thenQ.p ?_
    exact⟨_,QI [.k,.k,.k,.k] _,_,rfl,rfl,Qk [.k,.k,.k,.k] _,VeS.er (elem_k hv13 h16 hk (UN k46)) k46⟩
  obtain⟨v46,f46,hv46,rfl,rfl⟩:=h46
  refine Zd UJ rfl (JL.store_box 3 YN (.r rfl) rfl (.r rfl) (by first|rfl|assumption) rfl rfl rfl rfl ?_)
  refine Zn (J.seq ?_)
  obtain rfl:=NH hpm (by rw[(Ma hs hsf hws hq13.1 hk).1];exact X1.1 hnd) hsr
  refine J.closeArr 4 rfl (by rw[AtT.css_length,GD];show _*32≤_;unfold Qr;omega) rfl (fun z hz=>by simp only[mb,QT,UW,Own.fp,List.append_nil,List.mem_singleton]at hz;subst hz;simp[mb,QT,Own.fp,QZ]) ?_
  refine Qg (Zq rfl (by first|exact Qe 3 QB (.r rfl) rfl rfl rfl|exact Qe 3 QB (.r rfl) rfl (Qo (TrT.cs_length _ _) rfl) (TrT.cs_length _ _)) ?_)
  first|refine Qa 0 QB (.r rfl) rfl (.r rfl) (by first|rfl|assumption) rfl rfl rfl ?_|refine Qa 0 QB (.r rfl) rfl (.r rfl) (by first|rfl|assumption) rfl (TrT.cs_length _ _) rfl ?_|refine Qa 0 QB (.r rfl) rfl (.r rfl) (by first|rfl|assumption) (TrT.cs_length _ _) rfl rfl ?_|refine Qa 0 QB (.r rfl) rfl (.r rfl) (by first|rfl|assumption) (TrT.cs_length _ _) (TrT.cs_length _ _) rfl ?_|refine JL.store_box 0 QB (.r rfl) rfl (.r rfl) (by first|rfl|assumption) rfl rfl rfl rfl ?_|refine JL.store_box 0 QB (.r rfl) rfl (.r rfl) (by first|rfl|assumption) (TrT.cs_length _ _) rfl rfl rfl ?_
  exact Zn (J.ret (Zr [.k,.k,.p,.k] (RetEv.one rfl (by first|exact REv.cell 0 QB rfl rfl rfl rfl (.aggL (.cons lr (.cons lr (.cons lr (.cons (.fact (by simp) lr) (.cons lr .nil))))))|exact REv.cell 0 QB rfl rfl (Qo (TrT.cs_length _ _) rfl) (TrT.cs_length _ _) (.aggL (.cons lr (.cons lr (.cons lr (.cons (.fact (by simp) lr) (.cons lr .nil)))))))) rfl (VeS.ok (elem_y hv13 h16 hk hv46))))

end
section
/- Walks: the renderer: a part. -/
set_option maxRecDepth 10000
set_option maxHeartbeats 4000000
section
variable {w:Int} {t:QN} {k x:EX} {a:List SetT} {l:List TmT} {s:ScT} {f f1 c:Int}
theorem Bx(h:w=1):(TmT.mk w t k x a l).partE s f=UV (YW t k a (fun s f=>QK l s f) s f) fun y f1=>.ok ([y],f1):=by rw[TmT.partE,if_pos h]
theorem Bw(h:w=2):(TmT.mk w t k x a l).partE s f=UV (W9 (x.ev s f)) fun y f1=>.ok ([.txt y],f1):=by rw[TmT.partE,if_neg (by omega),if_pos h]
theorem part_x(h:¬w=1)(h2:¬w=2)(h3:x.ev s f=.error c):(TmT.mk w t k x a l).partE s f=.error c:=by rw[TmT.partE,if_neg h,if_neg h2,h3];rfl
theorem LN{v:V}(h:¬w=1)(h2:¬w=2)(h3:x.ev s f=.ok (v,f1)):(TmT.mk w t k x a l).partE s f=if w=3 then(if(Yq v).2≠0 then .error (Yq v).2 else if(Yq v).1 then QK l s f1 else .ok ([],f1))
      else if v.kind=4 then WO (fun y f=>QK l {s with it:=y} f) v.items f1 else .error 81:=by rw[TmT.partE,if_neg h,if_neg h2,h3];rfl
theorem Sv{v:V}(h:w=3)(h3:x.ev s f=.ok (v,f1))(h4:¬(Yq v).2=0):(TmT.mk w t k x a l).partE s f=.error (Yq v).2:=by rw[LN (by omega) (by omega) h3,if_pos h,if_pos h4]
theorem En{v:V}(h:w=3)(h3:x.ev s f=.ok (v,f1))(h4:(Yq v).2=0)(h5:(Yq v).1=true):(TmT.mk w t k x a l).partE s f=QK l s f1:=by rw[LN (by omega) (by omega) h3,if_pos h,if_neg (fun hc=>hc h4),if_pos h5]
theorem Su{v:V}(h:w=3)(h3:x.ev s f=.ok (v,f1))(h4:(Yq v).2=0)(h5:(Yq v).1=false):(TmT.mk w t k x a l).partE s f=.ok ([],f1):=by rw[LN (by omega) (by omega) h3,if_pos h,if_neg (fun hc=>hc h4),if_neg (by simp[h5])]
theorem Ss{v:V}(h:¬w=1)(h2:¬w=2)(h0:¬w=3)(h3:x.ev s f=.ok (v,f1))(h4:¬v.kind=4):(TmT.mk w t k x a l).partE s f=.error 81:=by rw[LN h h2 h3,if_neg h0,if_neg h4]
theorem Em{v:V}(h:¬w=1)(h2:¬w=2)(h0:¬w=3)(h3:x.ev s f=.ok (v,f1))(h4:v.kind=4):(TmT.mk w t k x a l).partE s f=WO (fun y f=>QK l {s with it:=y} f) v.items f1:=by rw[LN h h2 h3,if_neg h0,if_pos h4]
end
theorem PG{α β:Type}{r:ER α}{q:α→Int→ER β}{c:Int}(h:r=.error c):UV r q=.error c:=by rw[h];rfl
theorem PF{α β:Type}{r:ER α}{q:α→Int→ER β}{v:α}{f:Int}(h:r=.ok (v,f)):UV r q=q v f:=by rw[h];rfl
theorem Yi{F:List (Value×AV)}{fr:Bool}{e:U7}{xs:List (List AV)}(hs:∀y∈xs,y.length=e.sz):Le F (.sl fr true e xs) (.sl fr false e xs):=.sl id (fun h=>by cases h) rfl hs (fun k x y hx hy=>by rw[hx]at hy;cases hy;exact .refl _) rfl
section
variable {g:V→Int→ER (List TrT)} {is:List V} {j:Nat} {ts a:List TrT} {f f1 c:Int}
theorem Fv:YF ts (WO g [] f)=.ok (ts,f):=by rw[WO];simp[YF]
theorem Fu(hj:j<is.length)(h:g is[j] f=.ok (a,f1)):YF ts (WO g (is.drop j) f)=YF (ts++a) (WO g (is.drop (j+1)) f1):=by
  rw[List.drop_eq_getElem_cons hj,WO,h]
  show YF ts (UV (WO g (is.drop (j+1)) f1) fun b f2=>.ok (a++b,f2))=_
  rcases WO g (is.drop (j+1)) f1 with c|⟨b,f2⟩
  · rfl
  · simp[YF,UV]
theorem PA(hj:j<is.length)(h:g is[j] f=.error c):YF ts (WO g (is.drop j) f)=.error c:=by
  rw[List.drop_eq_getElem_cons hj,WO,h];rfl
end
theorem P7:∀(n:Nat),Rr n:=by
  intro n
  induction n with
  |zero=>intro t s f b fr h;exact absurd h (by have:=t.sz_pos;omega)
  |succ n ih=>
    intro t s f b fr hn hw hf hs h0
    obtain⟨w,tg,k,x,a,l⟩:=t
    obtain⟨-,htw,hkw,hxw,haw,hws,hlw,hwl⟩:=hw.inv
    obtain⟨-,ha16,hl16,hkf,hxf,hsf,hlf⟩:=hf.inv
    have hkn:∀y∈l,y.sz≤n:=fun y hy=>by
      have:=TmT.szs_mem hy
      unfold TmT.sz at hn;omega
    refine AC.of_J Tryz.func130 rfl Tryz.ntmps130 rfl fun w0 A0=>?_
    refine Zs (Qs (.r rfl) rfl fun b3=>Zq rfl (QW.assign .const) (Zn (J.seq (Zs (Zd N6 rfl (Zq rfl (Qb 0 UA (.r rfl) rfl TmT.at0) (Zn (J.block ?_))))))))
    refine Zs (Zq rfl (QW.eql (.r rfl) .const) (Za rfl (Zn ?_)))
    refine J.cond (.r rfl) (fun c1=>?_) (fun c1=>?_)
    · skip
      have w1:w=1:=by simpa[TmT.what]using c1
      subst w1
      refine Zs (Zm rfl (Zq rfl (by first|exact Qe 0 UR (.r rfl) rfl rfl rfl|exact Qe 0 UR (.r rfl) rfl (Qo (TmT.cs_length _ _) rfl) (TmT.cs_length _ _)) ?_))
      refine Qn [.k,.p] Pb rfl Lent.nil (fun _=>(.cons (.r rfl) (.cons (.r rfl) .nil))) (HK (fr:=fr) ih hkn hw hf hs h0) (.inl rfl) (fun k17 x17 o17 h17=>?_) (fun k17=>?_)
      rotate_left
      · skip
        refine thenQ.p (blkQ.p (thenQ.p ?_))
        exact⟨_,QI [.k] _,_,rfl,rfl,Qk [.k] _,VkS.er ((Bx rfl).trans (PG (UN k17))) k17⟩
      obtain⟨v17,f17,hv17,rfl,rfl⟩:=h17
      refine Zq rfl (QW.buildSlice (idx:=[0]) (xs:=[TrT.cs true v17]) Q6 Qa0 z46 rfl (.cons (.r rfl) .nil) rfl rfl rfl rfl rfl (by exact Lr (TrT.cs_length _ _)) rfl (Rj (TrT.cs_length _ _)) rfl) ?_
      exact Za rfl (Zn (J.ret (blkQ.r (thenQ.r (Zr [.k,.p] (RetEv.one rfl (REv.tmp rfl (Yi (TrT.css_sz true [v17])))) rfl (VkS.ok ((Bx rfl).trans (PF hv17))))))))
    have w1:¬w=1:=by simpa[TmT.what]using c1
    refine Zs (Zq rfl (QW.eql (.r rfl) .const) (Za rfl (Zn ?_)))
    refine J.cond (.r rfl) (fun c2=>?_) (fun c2=>?_)
    · skip
      have w2:w=2:=by simpa[TmT.what]using c2
      refine Zs (Zm rfl (Zd N5 rfl (Zq rfl (Qe 0 Ub (.r rfl) rfl G7 xl) ?_)))
      refine Qn [.k,.p] Do rfl Lent.nil (fun _=>(.cons (.r rfl) (.cons (.r rfl) .nil))) (Hf (fr:=fr) (b:=b) hxw hxf hs h0.F) (.inl rfl) (fun k24 x24 o24 h24=>?_) (fun k24=>?_)
      rotate_left
      · skip
        refine thenQ.p (blkQ.p (thenQ.p ?_))
        exact⟨_,QI [.k] _,_,rfl,rfl,Qk [.k] _,VkS.er ((Bw w2).trans (PG (UN k24))) k24⟩
      obtain⟨v24,f24,hv24,rfl,rfl⟩:=h24
      exact Zq rfl (QW.build (idx:=[2]) CT z46 rfl (.cons (.r rfl) .nil) rfl rfl rfl rfl) (Zq rfl (QW.buildSlice (xs:=[TrT.cs true (.txt v24)]) (idx:=[0]) Q6 Qa0 z46 rfl (.cons (Ev.le (y:=.agg [AV.c (Q4 []),AV.c (Q4 []),AV.c (Q4 v24),AV.c (.slice none 0 0),AV.c (.slice none 0 0)]) (z:=.agg (TrT.cs true (.txt v24))) (.r rfl) (.aggL (.cons lr (.cons lr (.cons lr (.cons (.nil true false _) (.cons (.nil true false _) .nil))))))) .nil) rfl rfl rfl rfl rfl rfl rfl rfl rfl) (Za rfl (Zn (J.ret (blkQ.r (thenQ.r (Zr [.k,.p] (RetEv.one rfl (REv.tmp rfl (Yi (TrT.css_sz true [.txt v24])))) rfl (VkS.ok ((Bw w2).trans (PF hv24))))))))))
    have w2:¬w=2:=by simpa[TmT.what]using c2
    refine J.skip (blkQ.n (thenQ.n (Zs (Zm rfl (Zd N5 rfl (Zq rfl (Qe 0 Ub (.r rfl) rfl G7 xl) ?_))))))
    refine Qn [.k,.p] E1 rfl Lent.nil (fun _=>(.cons (.r rfl) (.cons (.r rfl) .nil))) (RE (fr:=fr) (b:=b) hxw hxf hs h0.F) (.inl rfl) (fun k30 x30 o30 h30=>?_) (fun k30=>?_)
    rotate_left
    · skip
      refine thenQ.p ?_
      exact⟨_,QI [.k] _,_,rfl,rfl,Qk [.k] _,VkS.er (part_x w1 w2 (UN k30)) k30⟩
    obtain⟨v30,f30,hv30,rfl,rfl⟩:=h30
    refine JL.alloc Yd rfl rfl fun b5=>?_
    first|refine Qa 0 Ql (.r rfl) rfl (.r rfl) (by first|rfl|assumption) rfl rfl rfl ?_|refine Qa 0 Ql (.r rfl) rfl (.r rfl) (by first|rfl|assumption) rfl vl rfl ?_|refine Qa 0 Ql (.r rfl) rfl (.r rfl) (by first|rfl|assumption) vl rfl rfl ?_|refine Qa 0 Ql (.r rfl) rfl (.r rfl) (by first|rfl|assumption) vl vl rfl ?_|refine JL.store_box 0 Ql (.r rfl) rfl (.r rfl) (by first|rfl|assumption) rfl rfl rfl rfl ?_|refine JL.store_box 0 Ql (.r rfl) rfl (.r rfl) (by first|rfl|assumption) vl rfl rfl rfl ?_
    refine Zn (J.seq (J.seq ?_))
    obtain⟨hgv,hfl,hfn⟩:=(UL x s f hxf hxw hs).fuel hv30
    have hq30:okQ f30:=⟨hfn,by have:=h0.2;omega⟩
    obtain⟨vk,vb,vt,vks,vis⟩:=v30
    have hvl:vis.length≤9223372036854775805:=by(have:=hgv.wf.inv.2.2.2.2;unfold Qr at this;omega)
    refine Qg (Zd N6 rfl (Zq rfl (Qb 1 UA (.r rfl) rfl TmT.at0) (Zq rfl (QW.eql (.r rfl) .const) (Zn ?_))))
    refine J.cond (.r rfl) (fun c3=>?_) (fun c3=>?_)
    · skip
      have w3:w=3:=by simpa[TmT.what]using c3
      refine Zs (Zq rfl (by first|exact Qe 0 Ql (.r rfl) rfl rfl rfl|exact Qe 0 Ql (.r rfl) rfl (Qo vl rfl) vl) ?_)
      refine Zq rfl (QW.call QaA (.cons (.r rfl) .nil) (Pt Vc.self hgv.wf)) (Zm rfl (Zx rfl (Zx rfl (Za rfl (Za rfl (Zn (Zs (Zm rfl ?_))))))))
      refine Qn [] Gs rfl Lent.nil (fun _=>(.cons (.r rfl) .nil)) (Y6 _) (.inl rfl) (fun k40 x40 o40 h40=>?_) (fun k40=>?_)
      rotate_left
      · skip
        refine thenQ.p (thenQ.p ?_)
        exact⟨_,QI [.k,.k,.k] _,_,rfl,rfl,Qk [.k,.k,.k] _,VkS.er (Sv w3 hv30 k40) k40⟩
      obtain⟨rfl,rfl⟩:=h40
      refine Zn (J.seq (Zs (Zm rfl (Zn ?_))))
      refine J.cond (.r rfl) (fun c4=>?_) (fun c4=>?_)
      · skip
        have htr:(Yq (.mk vk vb vt vks vis)).1=true:=c4
        refine Zs (Zm rfl (Zd KD rfl (Zq rfl (Qb 1 RF (.r rfl) rfl YI) ?_)))
        refine Qn [.k,.k,.p] Dn rfl Lent.nil (fun _=>(.cons (.r rfl) (.cons (.r rfl) .nil))) (LC (fr:=fr) ih hl16 hkn hwl hlf hs hq30) (.inl rfl) (fun k45 x45 o45 h45=>?_) (fun k45=>?_)
        rotate_left
        · skip
          refine thenQ.p (thenQ.p (thenQ.p ?_))
          exact⟨_,QI [.k,.k] _,_,rfl,rfl,Qk [.k,.k] _,VkS.er ((En w3 hv30 k40 htr).trans (UN k45)) k45⟩
        obtain⟨v45,f45,hv45,rfl,rfl⟩:=h45
        exact Za rfl (Zn (J.ret (thenQ.r (thenQ.r (Zr [.k,.k,.p] (RetEv.one rfl (REv.tmp rfl lr)) rfl (VkS.ok ((En w3 hv30 k40 htr).trans hv45)))))))
      have htr:(Yq (.mk vk vb vt vks vis)).1=false:=by simpa using c4
      exact Zk (Zs (Zq rfl (QW.assign .const) (Zn (J.ret (thenQ.r (Zr [.k,.k,.p] (RetEv.one rfl (REv.tmp rfl (.nil true false eTr))) rfl (VkS.ok (l:=[]) (Su w3 hv30 k40 htr))))))))
    have w3:¬w=3:=by simpa[TmT.what]using c3
    refine Zk (Zs (Zd UZ rfl (Zl 0 UA rfl (Zq rfl (QW.eql (.r rfl) .const) ?_))))
    refine Qn [] Hv rfl Lent.nil (fun _=>(.cons (.r rfl) (.cons .const .nil))) (XI _ _) (.inl rfl) (fun k49 x49 o49 h49=>?_) (fun k49=>?_)
    rotate_left
    · skip
      refine thenQ.p ?_
      exact⟨_,QI [.k,.k,.k] _,_,rfl,rfl,Qk [.k,.k,.k] _,VkS.er (c:=81) (Ss w1 w2 w3 hv30 (by simpa[V.kind]using k49)) (by decide)⟩
    obtain⟨rfl,rfl⟩:=h49
    refine Zn (Zs (Zm rfl (Zu rfl (Zd Lp rfl (Zd Xw rfl (Zq rfl (Qe 2 Ql (.r rfl) rfl (R0 2) vl) (JL.alloc Yd rfl rfl fun b8=>?_)))))))
    first|refine Qa 0 Ql (.r rfl) rfl (.r rfl) (by first|rfl|assumption) rfl rfl rfl ?_|refine Qa 0 Ql (.r rfl) rfl (.r rfl) (by first|rfl|assumption) rfl vl rfl ?_|refine Qa 0 Ql (.r rfl) rfl (.r rfl) (by first|rfl|assumption) vl rfl rfl ?_|refine Qa 0 Ql (.r rfl) rfl (.r rfl) (by first|rfl|assumption) vl vl rfl ?_|refine JL.store_box 0 Ql (.r rfl) rfl (.r rfl) (by first|rfl|assumption) rfl rfl rfl rfl ?_|refine JL.store_box 0 Ql (.r rfl) rfl (.r rfl) (by first|rfl|assumption) vl rfl rfl rfl ?_
    refine Zn (J.seq (Zs (Zd Uv rfl (Zl 1 WP rfl (Zq rfl (by first|exact Qh QU (.r rfl) wl|exact Qh QU (.r rfl) (TmT.css_length _ _)|exact Qh QU (.r rfl) (SetT.css_length _ _)|exact Qh QU (.r rfl) (TrT.css_length _ _)|exact Qh QU (.r rfl) (AtT.css_length _)|exact Qw QU (.r rfl)|exact QW.len_nil QU (.r rfl)) ?_)))))
    refine Zq rfl (QW.move .const) (Zn (J.block (J.reown (Up eTr _) (Ua (ι:=Nat×Value×List TrT×Int×V) [0,3,8,56,57] (fun⟨j,v,ts,g,it⟩=>[(58,.c (.int .i64 (j:Int))),(4,.c v)]) (fun⟨j,v,ts,g,it⟩ oo=>List.set (List.set oo 4 (.arr v eTr (TrT.css true ts))) 3 (mb b {s with it:=it} g)) (fun⟨j,v,ts,g,it⟩=>j≤vis.length∧(ts.length:Int)+g≤f30∧okQ g∧WO (fun y f=>QK l {s with it:=y} f) vis f30=YF ts (WO (fun y f=>QK l {s with it:=y} f) (vis.drop j) g)) (fun⟨j,v,ts,g,it⟩=>vis.length-j) ⟨0,.slice none 0 0,[],f30,s.it⟩ (⟨Nat.zero_le _,by show((0:Nat):Int)+f30≤f30;omega,hq30,M7 _⟩) (QQ (.cons rfl lr (.cons rfl lr (.cons rfl lr (.cons rfl lr (.cons rfl lr (.cons rfl lr (.cons rfl lr .nil))))))) (Reown.refl _) (fun _ h=>by first|exact h|simp[h])) ?_))))
    intro⟨j,v,ts,g,it⟩ ⟨hj,hts,hg,hk⟩
    refine J.conv (by(try simp only[nl,Qj,QA,QC,Qy,QZ,AV.cellsOf,Qc,Qd,Nat.reduceAdd]);rfl) ?_
    refine Zs (Zq rfl (QW.lss (.r rfl) (.r rfl)) (Zn (J.seq ?_)))
    refine J.cond (.r rfl) (fun c4=>?_) (fun c4=>?_)
    · skip
      have hlt:j<vis.length:=by simpa[V.css_length]using c4
      refine Zk (J.seq (J.block (Zs (Zq rfl (Qi QU Ql rfl (.r rfl) (.r rfl) (by first|rfl|omega|(simp;done)) (by exact V.css_getE _ hlt)) ?_))))
      refine Zq rfl (by first|exact Qm Ql (.r rfl) rfl rfl|exact Qm Ql (.r rfl) (QF vl rfl) vl) ?_
      refine JL.alloc Yd rfl rfl fun b10=>?_
      first|refine Qa 0 Ql (.r rfl) rfl (.r rfl) (by first|rfl|assumption) rfl rfl rfl ?_|refine Qa 0 Ql (.r rfl) rfl (.r rfl) (by first|rfl|assumption) rfl vl rfl ?_|refine Qa 0 Ql (.r rfl) rfl (.r rfl) (by first|rfl|assumption) vl rfl rfl ?_|refine Qa 0 Ql (.r rfl) rfl (.r rfl) (by first|rfl|assumption) vl vl rfl ?_|refine JL.store_box 0 Ql (.r rfl) rfl (.r rfl) (by first|rfl|assumption) rfl rfl rfl rfl ?_|refine JL.store_box 0 Ql (.r rfl) rfl (.r rfl) (by first|rfl|assumption) vl rfl rfl rfl ?_
      refine Zn (Zs (Zm rfl (Zq rfl (by first|exact Qe 0 Ql (.r rfl) rfl rfl rfl|exact Qe 0 Ql (.r rfl) rfl (Qo vl rfl) vl) ?_)))
      refine Zu rfl (Zd Lp rfl (Zd Xw rfl (JL.store_box 4 Ql (.r rfl) rfl (Ev.le (.r rfl) (G5 _)) rfl vl (by rw[Gn];rfl) KA rfl ?_)))
      refine Zn (Qg (Zm rfl (Zm rfl (Zd KD rfl (Zq rfl (Qb 3 RF (.r rfl) rfl YI) ?_)))))
      refine Qn [.k,.k,.k,.k,.p] Dn rfl Lent.nil (fun _=>(.cons (.r rfl) (.cons (.r rfl) .nil))) (LC (fr:=fr) (b:=b) (s:={s with it:=vis[j]}) ih hl16 hkn hwl hlf (hs.item (hgv.kid (List.getElem_mem hlt))) hg) (.inl rfl) (fun k71 x71 o71 h71=>?_) (fun k71=>?_)
      rotate_left
      · skip
        refine blkQ.p (thenQ.p (thenQ.p (blkQ.p (thenQ.p ?_))))
        exact⟨_,QI [.k,.k,.k,.k,.k] _,_,rfl,rfl,Qk [.k,.k,.k,.k,.k] _,VkS.er ((Em w1 w2 w3 hv30 (by simpa[V.kind]using k49)).trans (hk.trans (PA hlt (UN k71)))) k71⟩
      obtain⟨v71,f71,hv71,rfl,rfl⟩:=h71
      obtain⟨-,hlv,hf0⟩:=Ws l hlf hwl (hs.item (hgv.kid (List.getElem_mem hlt))) hg.1 hg.2 _ _ hv71
      refine JL.append 5 Q6 Qa0 rfl (.r rfl) rfl (U8 Q6 (.r rfl)) (by rw[TrT.css_length,TrT.css_length];show(_+_)*96≤_;unfold Qr;have:=h0.2;omega) rfl fun v72=>?_
      refine Za rfl (JL.nil (blkQ.n (thenQ.n (Qg (Zq rfl (QW.add (.r rfl) .const (by first|exact U6 (by first|rfl|omega|(simp;done)) (by omega)|exact Yy (by omega)|rfl)) ?_)))))
      refine Zm rfl (Zn ?_)
      rw[← TrT.css_append]
      exact⟨⟨j+1,v72,ts++v71,f71,vis[j]⟩,⟨hlt,by simp;omega,⟨hf0,by have:=hg.2;omega⟩,hk.trans (Fu hlt hv71)⟩,by show vis.length-(j+1)<vis.length-j;omega,QQ (.cons rfl lr (.cons rfl lr (.cons rfl lr (.cons rfl lr (.cons rfl lr (.cons rfl lr (.cons rfl lr .nil))))))) (Q3 1 _ rfl) (fun _ h=>by first|exact h|simp[h])⟩
    have hge:vis.length≤j:=by simpa[V.css_length]using c4
    rw[List.drop_of_length_le hge,Fv]at hk
    refine J.exit (Qz (Qz (QY (thenQ.n (J.seq (J.closeArr 4 rfl (by rw[TrT.css_length];show _*96≤_;unfold Qr;have:=h0.2;have:=hg.1;omega) rfl (fun z hz=>by simp only[mb,QT,UW,Own.fp,List.append_nil,List.mem_singleton]at hz;subst hz;simp[mb,QT,Own.fp,QZ]) ?_))))))
    refine Qg (Zm rfl (Zq rfl (by first|exact Qe 0 Ql (.r rfl) rfl rfl rfl|exact Qe 0 Ql (.r rfl) rfl (Qo vl rfl) vl) ?_))
    refine Zu rfl (Zd Lp rfl (Zd Xw rfl (JL.store_box 3 Ql (.r rfl) rfl (.r rfl) rfl vl (by rw[Gn];rfl) KA rfl ?_)))
    exact Zn (Zs (Zm rfl (Za rfl (Zn (J.ret (Zr [.k,.k,.k,.p] (RetEv.one rfl (REv.tmp rfl (.fact (by simp) lr))) rfl (VkS.ok ((Em w1 w2 w3 hv30 (by simpa[V.kind]using k49)).trans hk))))))))
theorem Cw(n:Nat):Rr n:=P7 n

end
section
/- Walks: the tree of a state. -/
set_option maxRecDepth 10000
set_option maxHeartbeats 4000000
def HT(r:TrT×Int):AV:=.tup [.agg (r.1.cs true),.c (.int .i64 r.2)]
def zT:List AV:=[.c (Q4 []),.c (Q4 []),.c (Q4 []),.c (.slice none 0 0),.c (.slice none 0 0)]
theorem ren_le{F:List (Value×AV)}{k1:Int}{b1:Nat}{t1:QN}{ks1:List QN}{is1:List V}{fr:Bool}{f:Int}:
    Le F (.agg ((V.mk k1 b1 t1 ks1 is1).cs fr++(zV++(zV++[AV.c (.int .i64 f)])))) (.agg ((V.mk k1 b1 t1 ks1 is1).cs false++V.nil.cs false++V.nil.cs false++[AV.c (.int .i64 f)])):=
  .aggL (by
    rw[List.append_assoc,List.append_assoc]
    have h:LeL F zV (V.nil.cs false):=.cons (.refl _) (.cons (.refl _) (.cons (.refl _) (.cons (.nil false false _) (.cons (.nil false false _) .nil))))
    exact LeL.append (Rl fr false (fun h=>by cases h) _) (LeL.append h (LeL.append h (.cons (.refl _) .nil))))
section
variable {t:TmT} {st:V} {f:Int}
theorem ren_t(h:¬t.err=0):t.renT st f=(.nil,t.err):=if_pos h
theorem ren_s(h:t.err=0)(h2:¬st.err=0):t.renT st f=(.nil,st.err):=(if_neg (fun hc=>hc h)).trans (if_pos h2)
theorem ren_f(h:t.err=0)(h2:st.err=0)(h3:f<0∨4096<f):t.renT st f=(.nil,4):=(if_neg (fun hc=>hc h)).trans ((if_neg (fun hc=>hc h2)).trans (if_pos h3))
theorem Bp(h:t.err=0)(h2:st.err=0)(h3:¬(f<0∨4096<f)):t.renT st f=t.treeT st f:=(if_neg (fun hc=>hc h)).trans ((if_neg (fun hc=>hc h2)).trans (if_neg h3))
theorem tree_e{c:Int}(h:t.elE ⟨st,.nil,.nil⟩ f=.error c):t.treeT st f=(.nil,c):=by unfold TmT.treeT;rw[h]
theorem tree_c{y:TrT}{g:Int}(h:t.elE ⟨st,.nil,.nil⟩ f=.ok (y,g))(h2:¬y.err=0):t.treeT st f=(.nil,y.err):=by unfold TmT.treeT;rw[h];exact if_pos h2
theorem tree_y{y:TrT}{g:Int}(h:t.elE ⟨st,.nil,.nil⟩ f=.ok (y,g))(h2:y.err=0):t.treeT st f=(y,0):=by unfold TmT.treeT;rw[h];exact if_neg (fun hc=>hc h2)
end
theorem RR(c a:Nat)(zs:List AV)(z:Int):DC Tryz.prog 43 [UB c z,.box a zs] [.c (.pointer (some ⟨c,0,none⟩)),.c (.pointer (some ⟨a,0,none⟩))] .returning fun r u' o=>r=.ret (.tup [])∧u'=.returning∧o=[UB c z,.box a zs]:=by
  refine DC.of_JD Tryz.func43 rfl Tryz.ntmps43 rfl fun w0 A0=>?_
  refine JD.seq (Uf rfl rfl (.inl ⟨rfl,rfl,rfl⟩) rfl (JL.callRF [.p] NV rfl Lent.nil (fun _=>(.cons (.r rfl) (.cons (.r rfl) .nil))) (MR c z) (.inl rfl) fun x3 o3 h3=>?_))
  obtain⟨rfl,rfl⟩:=h3
  refine JL.nil ?_
  refine YD ?_
  refine JD.of_J rfl ?_
  refine J.cond (.r rfl) (fun c1=>absurd c1 (by simp)) (fun c1=>?_)
  refine J.skip ?_
  exact⟨_,QI [.p,.p] _,_,RetEv.none rfl,rfl,Qk [.p,.p] _,⟨rfl,rfl,rfl⟩⟩
theorem HS(c a:Nat)(zs:List AV)(hz:zs.length=5)(z e:Int):DC Tryz.prog 43 [UB c z,.box a zs] [.c (.pointer (some ⟨c,0,none⟩)),.c (.pointer (some ⟨a,0,none⟩))] (.panicking [{v:=WT e,recovered:=false}]) fun r u' o=>r=.ret (.tup [])∧u'=.panicking [{v:=WT e,recovered:=true}]∧o=[UB c e,.box a zT]:=by
  refine DC.of_JD Tryz.func43 rfl Tryz.ntmps43 rfl fun w0 A0=>?_
  refine JD.seq (Uf rfl rfl (.inr ⟨[],rfl,rfl⟩) rfl (JL.callRF [.p] NV rfl Lent.nil (fun _=>(.cons (.r rfl) (.cons (.r rfl) .nil))) (RD c z e) (.inl rfl) fun x3 o3 h3=>?_))
  obtain⟨rfl,rfl⟩:=h3
  refine JL.nil ?_
  refine YD ?_
  refine JD.of_J rfl ?_
  refine J.cond (.r rfl) (fun c1=>?_) (fun c1=>absurd c1 (by simp))
  refine Qg (Zq rfl (QW.build (idx:=[]) CT z46 rfl .nil rfl rfl rfl rfl) (JL.store_box 1 QB (.r rfl) rfl (.r rfl) rfl rfl (by rw[hz];rfl) (U4 (by rw[hz];rfl)) rfl ?_))
  refine JL.nil ?_
  exact⟨_,QI [.p,.p] _,_,RetEv.none rfl,rfl,Qk [.p,.p] _,⟨rfl,rfl,rfl⟩⟩
theorem TX{fr fr2:Bool}{t:TmT}(hw:t.wf){st:V}(hs:st.wf){f:Int}(h64: -9223372036854775808≤f∧f≤9223372036854775807):Fn Tryz.prog 14 [.agg (t.cs fr),.agg (st.cs fr2),.c (.int .i64 f)] (HT (t.renT st f)):=by
  obtain⟨ka,ua,ta,va,ia⟩:=st
  obtain⟨w,tg,k,x,a,l⟩:=t
  refine TU Tryz.func14 rfl Tryz.ntmps14 rfl fun w0 A0=>?_
  refine Zs (Qs (.r rfl) rfl fun b3=>Qs (.r rfl) rfl fun b4=>JL.alloc z46 rfl rfl fun b6=>JL.alloc z47 rfl rfl fun b7=>Zn (J.seq (Zs (Zq rfl (by first|exact Qe 3 UR (.r rfl) rfl rfl rfl|exact Qe 3 UR (.r rfl) rfl (Qo (TmT.cs_length _ _) rfl) (TmT.cs_length _ _)) ?_))))
  refine Zq rfl (QW.call gofn19 (.cons (.r rfl) .nil) (CA (fr:=fr) hw)) (Za rfl (Zn (Zs (Zm rfl (Zq rfl (QW.neq (.r rfl) .const) (Zn ?_))))))
  refine J.cond (.r rfl) (fun c1=>?_) (fun c1=>?_)
  · skip
    have hte:¬(TmT.mk w tg k x a l).err=0:=by simpa using c1
    refine Zs (Zq rfl (QW.build (idx:=[]) CT z46 rfl .nil rfl rfl rfl rfl) (Zm rfl ?_))
    first|refine Qa 1 QB (.r rfl) rfl (.r rfl) (by first|rfl|assumption) rfl rfl rfl ?_|refine Qa 1 QB (.r rfl) rfl (.r rfl) (by first|rfl|assumption) rfl (TrT.cs_length _ _) rfl ?_|refine Qa 1 QB (.r rfl) rfl (.r rfl) (by first|rfl|assumption) (TrT.cs_length _ _) rfl rfl ?_|refine Qa 1 QB (.r rfl) rfl (.r rfl) (by first|rfl|assumption) (TrT.cs_length _ _) (TrT.cs_length _ _) rfl ?_|refine JL.store_box 1 QB (.r rfl) rfl (.r rfl) (by first|rfl|assumption) rfl rfl rfl rfl ?_|refine JL.store_box 1 QB (.r rfl) rfl (.r rfl) (by first|rfl|assumption) (TrT.cs_length _ _) rfl rfl rfl ?_
    refine JL.store_box 0 We (.r rfl) rfl (.r rfl) (by first|rfl|assumption) rfl rfl rfl rfl ?_
    refine Zn (J.ret (thenQ.r ?_))
    exact retE.none [.k,.k] (by first|exact Qt rfl (REv.cell 1 QB rfl rfl rfl rfl (.aggL (.cons lr (.cons lr (.cons lr (.cons (.nil true false _) (.cons (.nil true false _) .nil))))))) (QR 0 We rfl rfl rfl lr)|exact Qt rfl (REv.cell 1 QB rfl rfl (Qo (TrT.cs_length _ _) rfl) (TrT.cs_length _ _) (.aggL (.cons lr (.cons lr (.cons lr (.cons (.nil true false _) (.cons (.nil true false _) .nil))))))) (QR 0 We rfl rfl rfl lr)) rfl ⟨(congrArg (fun r=>Wl.ret (HT r)) (ren_t hte).symm),rfl⟩
  have hte:(TmT.mk w tg k x a l).err=0:=by simpa using c1
  obtain rfl:w=1:=TH hte
  have hfine:=TmT.fine_of hte
  refine Zk (J.seq (Zs (Zq rfl (by first|exact Qe 2 Ql (.r rfl) rfl rfl rfl|exact Qe 2 Ql (.r rfl) rfl (Qo vl rfl) vl) ?_)))
  refine Zq rfl (QW.call X5 (.cons (.r rfl) .nil) (Yl (fr:=fr2) Vc.self hs)) (Za rfl (Zn (Zs (Zm rfl (Zq rfl (QW.neq (.r rfl) .const) (Zn ?_))))))
  refine J.cond (.r rfl) (fun c2=>?_) (fun c2=>?_)
  · skip
    have hse:¬(V.mk ka ua ta va ia).err=0:=by simpa using c2
    refine Zs (Zq rfl (QW.build (idx:=[]) CT z46 rfl .nil rfl rfl rfl rfl) (Zm rfl ?_))
    first|refine Qa 1 QB (.r rfl) rfl (.r rfl) (by first|rfl|assumption) rfl rfl rfl ?_|refine Qa 1 QB (.r rfl) rfl (.r rfl) (by first|rfl|assumption) rfl (TrT.cs_length _ _) rfl ?_|refine Qa 1 QB (.r rfl) rfl (.r rfl) (by first|rfl|assumption) (TrT.cs_length _ _) rfl rfl ?_|refine Qa 1 QB (.r rfl) rfl (.r rfl) (by first|rfl|assumption) (TrT.cs_length _ _) (TrT.cs_length _ _) rfl ?_|refine JL.store_box 1 QB (.r rfl) rfl (.r rfl) (by first|rfl|assumption) rfl rfl rfl rfl ?_|refine JL.store_box 1 QB (.r rfl) rfl (.r rfl) (by first|rfl|assumption) (TrT.cs_length _ _) rfl rfl rfl ?_
    refine JL.store_box 0 We (.r rfl) rfl (.r rfl) (by first|rfl|assumption) rfl rfl rfl rfl ?_
    refine Zn (J.ret (thenQ.r ?_))
    exact retE.none [.k,.k] (by first|exact Qt rfl (REv.cell 1 QB rfl rfl rfl rfl (.aggL (.cons lr (.cons lr (.cons lr (.cons (.nil true false _) (.cons (.nil true false _) .nil))))))) (QR 0 We rfl rfl rfl lr)|exact Qt rfl (REv.cell 1 QB rfl rfl (Qo (TrT.cs_length _ _) rfl) (TrT.cs_length _ _) (.aggL (.cons lr (.cons lr (.cons lr (.cons (.nil true false _) (.cons (.nil true false _) .nil))))))) (QR 0 We rfl rfl rfl lr)) rfl ⟨(congrArg (fun r=>Wl.ret (HT r)) (ren_s hte hse).symm),rfl⟩
  have hse:(V.mk ka ua ta va ia).err=0:=by simpa using c2
  refine Zk (J.seq (Zs (Zm rfl (Zq rfl (QW.lss (.r rfl) .const) (Zm rfl (Zg rfl (fun hg=>(QW.move (.r rfl))) (Zg rfl (fun hg=>(QW.gtr (.when rfl hg) .const)) (Zq rfl (QW.pick_or (.r rfl) (.r rfl)) (Zn ?_)))))))))
  refine J.cond (.r rfl) (fun c3=>?_) (fun c3=>?_)
  · skip
    have hr:f<0∨4096<f:=by simpa using c3
    refine Zs (Zq rfl (QW.build (idx:=[]) CT z46 rfl .nil rfl rfl rfl rfl) ?_)
    first|refine Qa 1 QB (.r rfl) rfl (.r rfl) (by first|rfl|assumption) rfl rfl rfl ?_|refine Qa 1 QB (.r rfl) rfl (.r rfl) (by first|rfl|assumption) rfl (TrT.cs_length _ _) rfl ?_|refine Qa 1 QB (.r rfl) rfl (.r rfl) (by first|rfl|assumption) (TrT.cs_length _ _) rfl rfl ?_|refine Qa 1 QB (.r rfl) rfl (.r rfl) (by first|rfl|assumption) (TrT.cs_length _ _) (TrT.cs_length _ _) rfl ?_|refine JL.store_box 1 QB (.r rfl) rfl (.r rfl) (by first|rfl|assumption) rfl rfl rfl rfl ?_|refine JL.store_box 1 QB (.r rfl) rfl (.r rfl) (by first|rfl|assumption) (TrT.cs_length _ _) rfl rfl rfl ?_
    refine JL.store_box 0 We (.r rfl) rfl .const (by first|rfl|assumption) rfl rfl rfl rfl ?_
    refine Zn (J.ret (thenQ.r ?_))
    exact retE.none [.k,.k] (by first|exact Qt rfl (REv.cell 1 QB rfl rfl rfl rfl (.aggL (.cons lr (.cons lr (.cons lr (.cons (.nil true false _) (.cons (.nil true false _) .nil))))))) (QR 0 We rfl rfl rfl lr)|exact Qt rfl (REv.cell 1 QB rfl rfl (Qo (TrT.cs_length _ _) rfl) (TrT.cs_length _ _) (.aggL (.cons lr (.cons lr (.cons lr (.cons (.nil true false _) (.cons (.nil true false _) .nil))))))) (QR 0 We rfl rfl rfl lr)) rfl ⟨(congrArg (fun r=>Wl.ret (HT r)) (ren_f hte hse hr).symm),rfl⟩
  have hr:¬(f<0∨4096<f):=by(simp at c3;omega)
  have hq:okQ f:=⟨by omega,by omega⟩
  refine Zk (Zs (Zq rfl (WN .nil (.cons (.r rfl) (.cons (.r rfl) .nil))) (JL.defer rfl (.r rfl) (Zn (Zs (Zq rfl (by first|exact Qe 2 Ql (.r rfl) rfl rfl rfl|exact Qe 2 Ql (.r rfl) rfl (Qo vl rfl) vl) ?_))))))
  refine Zq rfl (QW.build (idx:=[0]) pl120 z120 rfl (.cons (.r rfl) .nil) rfl rfl rfl rfl) (Zm rfl (Zq rfl (QW.build (idx:=[0,1]) pl122 z122 rfl (.cons (.r rfl) (.cons (.r rfl) .nil)) rfl rfl rfl rfl) (Qs (Ev.le (.r rfl) ren_le) rfl fun b35=>Za rfl (Zn (Zs (Zm rfl (Zq rfl (by first|exact Qe 4 UR (.r rfl) rfl rfl rfl|exact Qe 4 UR (.r rfl) rfl (Qo (TmT.cs_length _ _) rfl) (TmT.cs_length _ _)) ?_)))))))
  refine Qn [.p] Pb rfl Lent.nil (fun _=>(.cons (.r rfl) (.cons (.r rfl) .nil))) (HK (fr:=fr) (s:=⟨.mk ka ua ta va ia,.nil,.nil⟩) (Cw _) (fun y hy=>TmT.szs_mem hy) hw hfine ⟨⟨hs,hse⟩,Xj,Xj⟩ hq) (.inl rfl) (fun k38 x38 o38 h38=>?_) (fun k38=>?_)
  rotate_left
  · skip
    refine thenQ.p ?_
    exact .inl ⟨_,_,[],[_,_],QI [.p,.p] _,_,rfl,rfl,Dp,Qk [.p,.p] _,DC.mono (HS _ _ _ rfl _ _) fun r u' o ⟨h1,h2,h3⟩=>by subst h1 h2 h3;exact⟨⟨_,rfl⟩,rfl,_,[],_,(by first|exact Qt rfl (REv.cell 1 QB rfl rfl rfl rfl (.aggL (.cons lr (.cons lr (.cons lr (.cons (.nil true false _) (.cons (.nil true false _) .nil))))))) (QR 0 We rfl rfl rfl lr)|exact Qt rfl (REv.cell 1 QB rfl rfl (Qo (TrT.cs_length _ _) rfl) (TrT.cs_length _ _) (.aggL (.cons lr (.cons lr (.cons lr (.cons (.nil true false _) (.cons (.nil true false _) .nil))))))) (QR 0 We rfl rfl rfl lr)),List.Perm.refl _,(congrArg (fun r=>Wl.ret (HT r)) ((Bp hte hse hr).trans (tree_e (UN k38))).symm),rfl⟩⟩
  obtain⟨v38,f38,hv38,rfl,rfl⟩:=h38
  first|refine Qa 2 QB (.r rfl) rfl (.r rfl) (by first|rfl|assumption) rfl rfl rfl ?_|refine Qa 2 QB (.r rfl) rfl (.r rfl) (by first|rfl|assumption) rfl (TrT.cs_length _ _) rfl ?_|refine Qa 2 QB (.r rfl) rfl (.r rfl) (by first|rfl|assumption) (TrT.cs_length _ _) rfl rfl ?_|refine Qa 2 QB (.r rfl) rfl (.r rfl) (by first|rfl|assumption) (TrT.cs_length _ _) (TrT.cs_length _ _) rfl ?_|refine JL.store_box 2 QB (.r rfl) rfl (.r rfl) (by first|rfl|assumption) rfl rfl rfl rfl ?_|refine JL.store_box 2 QB (.r rfl) rfl (.r rfl) (by first|rfl|assumption) (TrT.cs_length _ _) rfl rfl rfl ?_
  refine Zn (Zs (Zq rfl (by first|exact Qe 2 QB (.r rfl) rfl rfl rfl|exact Qe 2 QB (.r rfl) rfl (Qo (TrT.cs_length _ _) rfl) (TrT.cs_length _ _)) ?_))
  have hyw:=(TI hfine hw rfl ⟨⟨hs,hse⟩,Xj,Xj⟩ hq.2 hv38).1
  refine Zq rfl (QW.call gofn24 (.cons (.r rfl) .nil) (CG hyw)) ?_
  refine Qn [] Gs rfl Lent.nil (fun _=>(.cons (.r rfl) .nil)) (Y6 _) (.inl rfl) (fun k41 x41 o41 h41=>?_) (fun k41=>?_)
  rotate_left
  · skip
    refine thenQ.p ?_
    exact .inl ⟨_,_,[],[_,_],QI [.k,.p,.p] _,_,rfl,rfl,Dp,Qk [.k,.p,.p] _,DC.mono (HS _ _ _ (TrT.cs_length _ _) _ _) fun r u' o ⟨h1,h2,h3⟩=>by subst h1 h2 h3;exact⟨⟨_,rfl⟩,rfl,_,[],_,(by first|exact Qt rfl (REv.cell 1 QB rfl rfl rfl rfl (.aggL (.cons lr (.cons lr (.cons lr (.cons (.nil true false _) (.cons (.nil true false _) .nil))))))) (QR 0 We rfl rfl rfl lr)|exact Qt rfl (REv.cell 1 QB rfl rfl (Qo (TrT.cs_length _ _) rfl) (TrT.cs_length _ _) (.aggL (.cons lr (.cons lr (.cons lr (.cons (.nil true false _) (.cons (.nil true false _) .nil))))))) (QR 0 We rfl rfl rfl lr)),List.Perm.refl _,(congrArg (fun r=>Wl.ret (HT r)) ((Bp hte hse hr).trans (tree_c hv38 k41)).symm),rfl⟩⟩
  obtain⟨rfl,rfl⟩:=h41
  refine Zn (Zs (Zq rfl (by first|exact Qe 2 QB (.r rfl) rfl rfl rfl|exact Qe 2 QB (.r rfl) rfl (Qo (TrT.cs_length _ _) rfl) (TrT.cs_length _ _)) ?_))
  first|refine Qa 2 QB (.r rfl) rfl (.r rfl) (by first|rfl|assumption) rfl rfl rfl ?_|refine Qa 2 QB (.r rfl) rfl (.r rfl) (by first|rfl|assumption) rfl (TrT.cs_length _ _) rfl ?_|refine Qa 2 QB (.r rfl) rfl (.r rfl) (by first|rfl|assumption) (TrT.cs_length _ _) rfl rfl ?_|refine Qa 2 QB (.r rfl) rfl (.r rfl) (by first|rfl|assumption) (TrT.cs_length _ _) (TrT.cs_length _ _) rfl ?_|refine JL.store_box 2 QB (.r rfl) rfl (.r rfl) (by first|rfl|assumption) rfl rfl rfl rfl ?_|refine JL.store_box 2 QB (.r rfl) rfl (.r rfl) (by first|rfl|assumption) (TrT.cs_length _ _) rfl rfl rfl ?_
  refine JL.store_box 1 We (.r rfl) rfl .const (by first|rfl|assumption) rfl rfl rfl rfl ?_
  refine Zn (J.ret ?_)
  exact .inl ⟨_,_,[],[_,_],QI [.k,.p,.p] _,_,rfl,rfl,Dp,Qk [.k,.p,.p] _,DC.mono (RR _ _ _ _) fun r u' o ⟨h1,h2,h3⟩=>by subst h1 h2 h3;exact⟨⟨_,rfl⟩,rfl,_,[],_,(by first|exact Qt rfl (REv.cell 1 QB rfl rfl rfl rfl lr) (QR 0 We rfl rfl rfl lr)|exact Qt rfl (REv.cell 1 QB rfl rfl (Qo (TrT.cs_length _ _) rfl) (TrT.cs_length _ _) lr) (QR 0 We rfl rfl rfl lr)),List.Perm.refl _,(congrArg (fun r=>Wl.ret (HT r)) ((Bp hte hse hr).trans (tree_y hv38 k41)).symm),rfl⟩⟩

end
section
/- Walks: a template, in memory of its own. -/
set_option maxRecDepth 10000
set_option maxHeartbeats 4000000
theorem SetT.css_tk{fr:Bool}{l:List SetT}{j:Nat}(h:j<l.length):SetT.css fr (l.take j)++[l[j].cs fr]=SetT.css fr (l.take (j+1)):=by rw[List.take_succ_eq_append_getElem h,SetT.css_snoc]
theorem TmT.css_tk{fr:Bool}{l:List TmT}{j:Nat}(h:j<l.length):TmT.css fr (l.take j)++[l[j].cs fr]=TmT.css fr (l.take (j+1)):=by rw[List.take_succ_eq_append_getElem h,TmT.css_append];rfl
theorem QaW{c a0 a1 a2 a3 a4:AV}{z:List AV}(hz:z.length=4):Xg ([(0,1),(1,4)].toArray[·]?) [a0,a1,a2,a3,a4] [(0,[c]),(1,z)]=some (c::z):=by
  have h1:Q1 [c,a1,a2,a3,a4] 1 z=c::z:=by
    rw[Qd,U4 (by rw[hz];rfl)]
  simp[Xg,Qc,hz,h1]
theorem of17_n:∀(n:Nat) {t:TmT} {fr:Bool},t.wf→t.sz≤n→Fn Tryz.prog 12 [.agg (t.cs fr)] (.agg (t.cs true)):=by
  intro n
  induction n with
  |zero=>intro t fr hw hn;exact absurd hn (by have:=t.sz_pos;omega)
  |succ n ih=>
    intro t fr hw hn
    obtain⟨w,tg,⟨ko,kb,kt,kls⟩,⟨xo,xb,xt,xls⟩,a,l⟩:=t
    obtain⟨-,htw,hkw,hxw,haw,hws,hlw,hwl⟩:=hw.inv
    have hal:a.length≤9223372036854775805:=by unfold Qr at haw;omega
    have hll:l.length≤9223372036854775805:=by unfold Qr at hlw;omega
    refine AC.of_J Tryz.func12 rfl Tryz.ntmps12 rfl fun w0 A0=>?_
    refine Zs (Qs (.r rfl) rfl fun b1=>JL.alloc z40 rfl rfl fun b2=>Zn (J.seq (QV mixed (Zf 0 [] rfl (fun _=>Qf fo29_0 (.r rfl) rfl) (Zo 1 1 [6] rfl (fun _ ho_=>Qb 1 UA (.r rfl) ho_ rfl) (Zf 2 [] rfl (fun _=>Qf fo29_1 (.r rfl) rfl) (Zo 3 1 [8] rfl (fun _ ho_=>Qb 1 UO (.r rfl) ho_ TmT.at1) ?_)))))))
    refine Zf 4 [] rfl (fun _=>Qf fo29_2 (.r rfl) rfl) (Zo 5 1 [10] rfl (fun _ ho_=>Qe 1 Hg (.r rfl) ho_ Lw xl) (Zf 6 [11] rfl (fun _=>QW.call NW (.cons (.r rfl) .nil) (NO Xc.self hkw)) (Zf 7 [] rfl (fun _=>Qf fo29_3 (.r rfl) rfl) (Zo 8 1 [13] rfl (fun _ ho_=>Qe 1 Hg (.r rfl) ho_ G7 xl) (Zf 9 [14] rfl (fun _=>QW.call NW (.cons (.r rfl) .nil) (NO Xc.self hxw)) (Zf 10 [7,9,12,15] rfl (fun _=>QW.build (idx:=[0,1,2,3]) pl40 z40 rfl (.cons (.r rfl) (.cons (.r rfl) (.cons (.r rfl) (.cons (.r rfl) .nil)))) rfl rfl rfl rfl) (JX.a 11 rfl (AllocOp.mk z40 rfl) rfl rfl rfl rfl rfl (JX.one 12 [true,true,true,true,true,true,true,true,true,true,true,true] rfl (by kernel_rfl) (by kernel_rfl) rfl rfl (by kernel_rfl) rfl fun bs12_ pe_ ex_=>?_))))))))
    refine JL.conv (by(try simp only[Ug,Uo,Q8,Q0,Flt.val,Flt.bx,nx,nl,Qj,QA,QC,Qy,QZ,AV.cellsOf,Qc,Qd,Nat.reduceAdd]);rfl) ?_
    first|refine Qa 2 UR (.r rfl) rfl (.r rfl) (by first|rfl|assumption) rfl rfl rfl ?_|refine Qa 2 UR (.r rfl) rfl (.r rfl) (by first|rfl|assumption) rfl (TmT.cs_length _ _) rfl ?_|refine Qa 2 UR (.r rfl) rfl (.r rfl) (by first|rfl|assumption) (TmT.cs_length _ _) rfl rfl ?_|refine Qa 2 UR (.r rfl) rfl (.r rfl) (by first|rfl|assumption) (TmT.cs_length _ _) (TmT.cs_length _ _) rfl ?_|refine JL.store_box 2 UR (.r rfl) rfl (.r rfl) (by first|rfl|assumption) rfl rfl rfl rfl ?_|refine JL.store_box 2 UR (.r rfl) rfl (.r rfl) (by first|rfl|assumption) (TmT.cs_length _ _) rfl rfl rfl ?_
    refine JL.nil ?_
    refine thenQ.n ⟨[],_,rfl,rfl,rfl,rfl,rfl,QM 3 rfl,trivial,trivial,?_⟩
    refine JX.conv (S':=[12,11,10,9,8,7,6,5,4,3,2,1,0]) rfl (by(try simp only[Q0]);rfl) (by(try simp only[Ug,Uo,Q8,Q0,Flt.val,Flt.bx,nx,nl,Qj,QA,QC,Qy,QZ,AV.cellsOf,Qc,Qd,Nat.reduceAdd]);rfl) ?_
    refine JX.fin (by kernel_rfl) (by kernel_rfl) fun bs_=>?_
    refine QX.conv (by(try simp only[Ug,Uo,Q8,Q0,Flt.val,Flt.bx,nx,nl,Qj,QA,QC,Qy,QZ,AV.cellsOf,Qc,Qd,Nat.reduceAdd]);rfl) ?_
    refine thenQ.n (J.seq (Zs (Zq rfl (QW.assign .const) (Zn (J.block (J.reown (Up eSe _) (Ua (ι:=Nat×Value) [1,2,3] (fun⟨j,v1⟩=>[(4,.c (.int .i64 (j:Int)))]) (fun⟨j,v1⟩ oo=>List.set (List.set oo 3 (.arr v1 eSe (SetT.css true (a.take j)))) 2 (.box (bs12_ 11) [.c (.int .i64 w),.c (Q4 tg),.c (.int .i64 ko),.c (.int .u64 kb),.c (Q4 kt),.sl true false RB (EX.css true kls),.c (.int .i64 xo),.c (.int .u64 xb),.c (Q4 xt),.sl true false RB (EX.css true xls),.c v1,.c (.slice none 0 0)])) (fun⟨j,v1⟩=>j≤a.length) (fun⟨j,v1⟩=>a.length-j) ⟨0,.slice none 0 0⟩ (Nat.zero_le _) (QQ (.cons rfl lr (.cons rfl lr (.cons rfl lr (.cons rfl lr .nil)))) (Reown.refl _) (fun _ h=>by first|exact h|simp[h])) ?_)))))))
    intro⟨j,v1⟩ hj
    refine J.conv (by(try simp only[nl,Qj,QA,QC,Qy,QZ,AV.cellsOf,Qc,Qd,Nat.reduceAdd]);rfl) ?_
    refine J.seq (Zs (Zm rfl (Zd Dw rfl (Zq rfl (Qb 1 ty26 (.r rfl) rfl YJ) (Zq rfl (by first|exact Qh NI (.r rfl) wl|exact Qh NI (.r rfl) (TmT.css_length _ _)|exact Qh NI (.r rfl) (SetT.css_length _ _)|exact Qh NI (.r rfl) (TrT.css_length _ _)|exact Qh NI (.r rfl) (AtT.css_length _)|exact Qw NI (.r rfl)|exact QW.len_nil NI (.r rfl)) ?_)))))
    refine Zq rfl (QW.lss (.r rfl) (.r rfl)) (Zn ?_)
    refine J.cond (.r rfl) (fun c1=>?_) (fun c1=>?_)
    · skip
      have hlt:j<a.length:=by simpa[SetT.css_length,TmT.attrs]using c1
      refine Zk (J.seq (J.block (QV mixed (Zf 0 [] rfl (fun _=>Qf Gw (.r rfl) rfl) (Zo 1 2 [24] rfl (fun _ ho_=>Qb 2 TY (.r rfl) ho_ rfl) (Zf 2 [] rfl (fun _=>Qf Dw (.r rfl) rfl) (Zo 3 1 [26] rfl (fun _ ho_=>Qb 1 ty26 (.r rfl) ho_ YJ) (Zf 4 [] rfl (fun _=>QW.move (.r rfl)) (Zf 5 [27,28] rfl (fun _=>Qi NI ty112 rfl (.r rfl) (.r rfl) (by first|rfl|omega|(simp;done)) (by exact SetT.css_getE _ hlt)) ?_)))))))))
      refine Zf 6 [29] rfl (fun _=>QL QaU (.r rfl) rfl) (Zf 7 [30] rfl (fun _=>Qv UO (.r rfl) rfl) (Zf 8 [] rfl (fun _=>Qf Dw (.r rfl) rfl) (Zo 9 1 [32] rfl (fun _ ho_=>Qb 1 ty26 (.r rfl) ho_ YJ) (Zf 10 [] rfl (fun _=>QW.move (.r rfl)) (Zf 11 [33,34] rfl (fun _=>Qi NI ty112 rfl (.r rfl) (.r rfl) (by first|rfl|omega|(simp;done)) (by exact SetT.css_getE _ hlt)) ?_)))))
      refine Zf 12 [35] rfl (fun _=>QL QaT (.r rfl) rfl) (Zf 13 [36] rfl (fun _=>Qm Hg (.r rfl) SetT.at1 xl) (Zf 14 [37] rfl (fun _=>QW.call NW (.cons (.r rfl) .nil) (NO Xc.self (hws _ (List.getElem_mem hlt)).ex)) (Zf 15 [31,38] rfl (fun _=>QW.build (idx:=[0,1]) pl114 FS rfl (.cons (.r rfl) (.cons (.r rfl) .nil)) rfl rfl rfl (by exact QaW xl)) ?_)))
      refine Zf 16 [39] rfl (fun _=>QW.buildSlice (idx:=[0]) (xs:=[SetT.cs true a[j]]) (zs:=[AV.agg (SetT.cs true a[j])]) Ye el114 FS rfl (.cons (.r rfl) .nil) rfl rfl rfl rfl rfl (by exact Lr (SetT.cs_length _ _)) rfl (Rj (SetT.cs_length _ _)) rfl) ?_
      refine JX.one 17 [true,true,true,true,true,true,true,true,true,true,true,true,true,true,true,true,true] rfl (by kernel_rfl) (by kernel_rfl) rfl rfl (by kernel_rfl) rfl fun bs17_ pe_ ex_=>?_
      refine JL.conv (by(try simp only[Ug,Uo,Q8,Q0,Flt.val,Flt.bx,nx,nl,Qj,QA,QC,Qy,QZ,AV.cellsOf,Qc,Qd,Nat.reduceAdd]);rfl) ?_
      refine JL.append 3 Ye el114 rfl (.r rfl) rfl (U8 Ye (.r rfl)) (by rw[SetT.css_length,List.length_take];show(_+1)*72≤_;omega) rfl fun v41=>?_
      refine JL.nil ?_
      refine thenQ.n ⟨[_],_,rfl,rfl,rfl,rfl,rfl,QM 4 rfl,⟨rfl,rfl⟩,trivial,?_⟩
      refine JX.conv (S':=[17,16,15,14,13,12,11,10,9,8,7,6,5,4,3,2,1,0]) rfl (by(try simp only[Q0]);rfl) (by(try simp only[Ug,Uo,Q8,Q0,Flt.val,Flt.bx,nx,nl,Qj,QA,QC,Qy,QZ,AV.cellsOf,Qc,Qd,Nat.reduceAdd]);rfl) ?_
      refine Zf 18 [] rfl (fun _=>Qf Gw (.r rfl) rfl) (JX.one 19 [true] rfl (by kernel_rfl) (by kernel_rfl) rfl rfl (by kernel_rfl) rfl fun bs19_ pe_ ex_=>?_)
      refine JL.conv (by(try simp only[Ug,Uo,Q8,Q0,Flt.val,Flt.bx,nx,nl,Qj,QA,QC,Qy,QZ,AV.cellsOf,Qc,Qd,Nat.reduceAdd]);rfl) ?_
      refine JL.isSlice 3 rfl fun hs1=>JL.store_box 2 TY (.r rfl) rfl (.r rfl) (by first|rfl|assumption) rfl rfl rfl rfl ?_
      refine JL.nil ?_
      refine thenQ.n ⟨[],_,rfl,rfl,rfl,rfl,rfl,QM 4 rfl,trivial,trivial,?_⟩
      refine JX.conv (S':=[19,18,17,16,15,14,13,12,11,10,9,8,7,6,5,4,3,2,1,0]) rfl (by(try simp only[Q0]);rfl) (by(try simp only[Ug,Uo,Q8,Q0,Flt.val,Flt.bx,nx,nl,Qj,QA,QC,Qy,QZ,AV.cellsOf,Qc,Qd,Nat.reduceAdd]);rfl) ?_
      refine JX.fin (by kernel_rfl) (by kernel_rfl) fun bs_=>?_
      refine QX.conv (by(try simp only[Ug,Uo,Q8,Q0,Flt.val,Flt.bx,nx,nl,Qj,QA,QC,Qy,QZ,AV.cellsOf,Qc,Qd,Nat.reduceAdd]);rfl) ?_
      refine blkQ.n (thenQ.n (Qg (Zm rfl (Zq rfl (QW.add (.r rfl) .const (by first|exact U6 (by first|rfl|omega|(simp;done)) (by omega)|exact Yy (by omega)|rfl)) ?_))))
      refine Za rfl (Zn ?_)
      rw[SetT.css_tk hlt]
      exact⟨⟨j+1,v41⟩,hlt,by show a.length-(j+1)<a.length-j;omega,QQ (.cons rfl lr (.cons rfl lr (.cons rfl lr (.cons rfl lr .nil)))) (Reown.refl _) (fun _ h=>by first|exact h|simp[h])⟩
    obtain rfl:j=a.length:=by(simp[SetT.css_length,TmT.attrs]at c1;omega)
    rw[List.take_length]
    refine J.exit (Qz (Qz (QY (thenQ.n (J.seq (Zs (Zq rfl (QW.assign .const) (Zn (J.block ?_)))))))))
    refine J.reown (Up eTm _) (Ua (ι:=Nat×Value) [1,2,3] (fun⟨i,v2⟩=>[(5,.c (.int .i64 (i:Int)))]) (fun⟨i,v2⟩ oo=>List.set (List.set oo 4 (.arr v2 eTm (TmT.css true (l.take i)))) 2 (.box (bs12_ 11) [.c (.int .i64 w),.c (Q4 tg),.c (.int .i64 ko),.c (.int .u64 kb),.c (Q4 kt),.sl true false RB (EX.css true kls),.c (.int .i64 xo),.c (.int .u64 xb),.c (Q4 xt),.sl true false RB (EX.css true xls),.c v1,.c v2])) (fun⟨i,v2⟩=>i≤l.length) (fun⟨i,v2⟩=>l.length-i) ⟨0,.slice none 0 0⟩ (Nat.zero_le _) (QQ (.cons rfl lr (.cons rfl lr (.cons rfl lr (.cons rfl lr .nil)))) (Reown.refl _) (fun _ h=>by first|exact h|simp[h])) ?_)
    intro⟨i,v2⟩ hi
    refine J.conv (by(try simp only[nl,Qj,QA,QC,Qy,QZ,AV.cellsOf,Qc,Qd,Nat.reduceAdd]);rfl) ?_
    refine J.seq (Zs (Zm rfl (Zd Ph rfl (Zq rfl (Qb 1 ty27 (.r rfl) rfl YI) (Zq rfl (by first|exact Qh LG (.r rfl) wl|exact Qh LG (.r rfl) (TmT.css_length _ _)|exact Qh LG (.r rfl) (SetT.css_length _ _)|exact Qh LG (.r rfl) (TrT.css_length _ _)|exact Qh LG (.r rfl) (AtT.css_length _)|exact Qw LG (.r rfl)|exact QW.len_nil LG (.r rfl)) ?_)))))
    refine Zq rfl (QW.lss (.r rfl) (.r rfl)) (Zn ?_)
    refine J.cond (.r rfl) (fun c2=>?_) (fun c2=>?_)
    · skip
      have hlt2:i<l.length:=by simpa[TmT.css_length,TmT.kids]using c2
      refine Zk (J.seq (J.block (QV mixed (Zf 0 [] rfl (fun _=>Qf KD (.r rfl) rfl) (Zo 1 2 [50] rfl (fun _ ho_=>Qb 2 RF (.r rfl) ho_ rfl) (Zf 2 [] rfl (fun _=>Qf Ph (.r rfl) rfl) (Zo 3 1 [52] rfl (fun _ ho_=>Qb 1 ty27 (.r rfl) ho_ YI) (Zf 4 [] rfl (fun _=>QW.move (.r rfl)) (Zf 5 [53,54] rfl (fun _=>Qi LG XX rfl (.r rfl) (.r rfl) (by first|rfl|omega|(simp;done)) (by exact TmT.css_getE _ hlt2)) ?_)))))))))
      refine Zf 6 [55] rfl (fun _=>by first|exact Qm XX (.r rfl) rfl rfl|exact Qm XX (.r rfl) (QF (TmT.cs_length _ _) rfl) (TmT.cs_length _ _)) ?_
      refine Zf 7 [56] rfl (fun _=>QW.call N4 (.cons (.r rfl) .nil) (ih (hwl _ (List.getElem_mem hlt2)) (TmT.sz_get hn hlt2))) (Zf 8 [57] rfl (fun _=>QW.buildSlice (idx:=[0]) (xs:=[TmT.cs true l[i]]) (zs:=[AV.agg (TmT.cs true l[i])]) Y8 el40 z40 rfl (.cons (.r rfl) .nil) rfl rfl rfl rfl rfl (by exact Lr (TmT.cs_length _ _)) rfl (Rj (TmT.cs_length _ _)) rfl) ?_)
      refine JX.one 9 [true,true,true,true,true,true,true,true,true] rfl (by kernel_rfl) (by kernel_rfl) rfl rfl (by kernel_rfl) rfl fun bs9_ pe_ ex_=>?_
      refine JL.conv (by(try simp only[Ug,Uo,Q8,Q0,Flt.val,Flt.bx,nx,nl,Qj,QA,QC,Qy,QZ,AV.cellsOf,Qc,Qd,Nat.reduceAdd]);rfl) ?_
      refine JL.append 4 Y8 el40 rfl (.r rfl) rfl (U8 Y8 (.r rfl)) (by rw[TmT.css_length,List.length_take];show(_+1)*184≤_;omega) rfl fun v59=>?_
      refine JL.nil ?_
      refine thenQ.n ⟨[_],_,rfl,rfl,rfl,rfl,rfl,QM 5 rfl,⟨rfl,rfl⟩,trivial,?_⟩
      refine JX.conv (S':=[9,8,7,6,5,4,3,2,1,0]) rfl (by(try simp only[Q0]);rfl) (by(try simp only[Ug,Uo,Q8,Q0,Flt.val,Flt.bx,nx,nl,Qj,QA,QC,Qy,QZ,AV.cellsOf,Qc,Qd,Nat.reduceAdd]);rfl) ?_
      refine Zf 10 [] rfl (fun _=>Qf KD (.r rfl) rfl) (JX.one 11 [true] rfl (by kernel_rfl) (by kernel_rfl) rfl rfl (by kernel_rfl) rfl fun bs11_ pe_ ex_=>?_)
      refine JL.conv (by(try simp only[Ug,Uo,Q8,Q0,Flt.val,Flt.bx,nx,nl,Qj,QA,QC,Qy,QZ,AV.cellsOf,Qc,Qd,Nat.reduceAdd]);rfl) ?_
      refine JL.isSlice 4 rfl fun hs1=>JL.store_box 2 RF (.r rfl) rfl (.r rfl) (by first|rfl|assumption) rfl rfl rfl rfl ?_
      refine JL.nil ?_
      refine thenQ.n ⟨[],_,rfl,rfl,rfl,rfl,rfl,QM 5 rfl,trivial,trivial,?_⟩
      refine JX.conv (S':=[11,10,9,8,7,6,5,4,3,2,1,0]) rfl (by(try simp only[Q0]);rfl) (by(try simp only[Ug,Uo,Q8,Q0,Flt.val,Flt.bx,nx,nl,Qj,QA,QC,Qy,QZ,AV.cellsOf,Qc,Qd,Nat.reduceAdd]);rfl) ?_
      refine JX.fin (by kernel_rfl) (by kernel_rfl) fun bs_=>?_
      refine QX.conv (by(try simp only[Ug,Uo,Q8,Q0,Flt.val,Flt.bx,nx,nl,Qj,QA,QC,Qy,QZ,AV.cellsOf,Qc,Qd,Nat.reduceAdd]);rfl) ?_
      refine blkQ.n (thenQ.n (Qg (Zm rfl (Zq rfl (QW.add (.r rfl) .const (by first|exact U6 (by first|rfl|omega|(simp;done)) (by omega)|exact Yy (by omega)|rfl)) ?_))))
      refine Za rfl (Zn ?_)
      rw[TmT.css_tk hlt2]
      exact⟨⟨i+1,v59⟩,hlt2,by show l.length-(i+1)<l.length-i;omega,QQ (.cons rfl lr (.cons rfl lr (.cons rfl lr (.cons rfl lr .nil)))) (Reown.refl _) (fun _ h=>by first|exact h|simp[h])⟩
    obtain rfl:i=l.length:=by(simp[TmT.css_length,TmT.kids]at c2;omega)
    rw[List.take_length]
    refine J.exit (Qz (Qz (QY (thenQ.n (J.seq (J.closeArr 3 rfl (by rw[SetT.css_length];exact haw) rfl (fun _ h=>by cases h) ?_))))))
    refine J.closeArr (4-1) rfl (by rw[TmT.css_length];exact hlw) rfl (fun _ h=>by cases h) ?_
    refine Qg (Zq rfl (by first|exact Qe 2 UR (.r rfl) rfl rfl rfl|exact Qe 2 UR (.r rfl) rfl (Qo (TmT.cs_length _ _) rfl) (TmT.cs_length _ _)) ?_)
    first|refine Qa 0 UR (.r rfl) rfl (.r rfl) (by first|rfl|assumption) rfl rfl rfl ?_|refine Qa 0 UR (.r rfl) rfl (.r rfl) (by first|rfl|assumption) rfl (TmT.cs_length _ _) rfl ?_|refine Qa 0 UR (.r rfl) rfl (.r rfl) (by first|rfl|assumption) (TmT.cs_length _ _) rfl rfl ?_|refine Qa 0 UR (.r rfl) rfl (.r rfl) (by first|rfl|assumption) (TmT.cs_length _ _) (TmT.cs_length _ _) rfl ?_|refine JL.store_box 0 UR (.r rfl) rfl (.r rfl) (by first|rfl|assumption) rfl rfl rfl rfl ?_|refine JL.store_box 0 UR (.r rfl) rfl (.r rfl) (by first|rfl|assumption) (TmT.cs_length _ _) rfl rfl rfl ?_
    exact Zn (J.ret (Zr [.k,.k,.k] (RetEv.one rfl (by first|exact REv.cell 0 UR rfl rfl rfl rfl (.aggL (.cons lr (.cons lr (.cons lr (.cons lr (.cons lr (.cons lr (.cons lr (.cons lr (.cons lr (.cons lr (.cons (.fact (by simp) lr) (.cons (.fact (by simp) lr) .nil)))))))))))))|exact REv.cell 0 UR rfl rfl (Qo (TmT.cs_length _ _) rfl) (TmT.cs_length _ _) (.aggL (.cons lr (.cons lr (.cons lr (.cons lr (.cons lr (.cons lr (.cons lr (.cons lr (.cons lr (.cons lr (.cons (.fact (by simp) lr) (.cons (.fact (by simp) lr) .nil))))))))))))))) rfl ⟨rfl,rfl⟩))
theorem NN{t:TmT}{fr:Bool}(hw:t.wf):Fn Tryz.prog 12 [.agg (t.cs fr)] (.agg (t.cs true)):=of17_n _ hw (Nat.le_refl _)

end
end Go.Proofs.YtammalmlbabpbaaGreat.J
