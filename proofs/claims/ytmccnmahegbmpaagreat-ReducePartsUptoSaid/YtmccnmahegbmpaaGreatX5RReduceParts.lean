/- Texts of this proof, laid together. -/
import Derived.Test.YtmccnmahegbmpaaGreatX4RReduceParts
set_option linter.unusedVariables false
set_option linter.unusedSimpArgs false
namespace Go.Proofs.YtmccnmahegbmpaaGreat.J
open Go Go.RowKit
section
/- Walks: a program, in memory of its own. -/
set_option maxRecDepth 10000
set_option maxHeartbeats 4000000
theorem SetT.css_take{fr:Bool}{l:List SetT}{j:Nat}(h:j<l.length):SetT.css fr (l.take j)++[l[j].cs fr]=SetT.css fr (l.take (j+1)):=by rw[List.take_succ_eq_append_getElem h,SetT.css_snoc]
theorem EmT.css_take{fr:Bool}{l:List EmT}{j:Nat}(h:j<l.length):EmT.css fr (l.take j)++[l[j].cs fr]=EmT.css fr (l.take (j+1)):=by rw[List.take_succ_eq_append_getElem h,EmT.css_snoc]
theorem HdT.css_take{fr:Bool}{l:List HdT}{j:Nat}(h:j<l.length):HdT.css fr (l.take j)++[l[j].cs fr]=HdT.css fr (l.take (j+1)):=by rw[List.take_succ_eq_append_getElem h,HdT.css_snoc]
theorem hd_le{F:List (Value×AV)}{h:HdT}{v1 v2:Value}(h1:(v1,AV.sl true false eSe (SetT.css true h.sets))∈F)(h2:(v2,AV.sl true false eEm (EmT.css true h.ems))∈F):Le F (.agg [.c (Um h.on),.c v1,.c v2]) (.agg (h.cs true)):=
  .aggL (.cons (.refl _) (.cons (.fact h1 (.refl _)) (.cons (.fact h2 (.refl _)) .nil)))
theorem Qae{c a0 a1 a2 a3 a4:AV}{z:List AV}(hz:z.length=4):Ym ([(0,1),(1,4)].toArray[·]?) [a0,a1,a2,a3,a4] [(0,[c]),(1,z)]=some (c::z):=by
  have h1:QT [c,a1,a2,a3,a4] 1 z=c::z:=by
    rw[Qe,UY (by rw[hz];rfl)]
  simp[Ym,Qd,hz,h1]
theorem Qaf{c:AV}:∀{a z y:List AV},a.length=9→z.length=4→y.length=4→Ym ([(0,4),(4,1),(5,4)].toArray[·]?) a [(0,z),(1,[c]),(2,y)]=some (z++c::y)
  |[a0,a1,a2,a3,a4,a5,a6,a7,a8],[z0,z1,z2,z3],[y0,y1,y2,y3],_,_,_=>rfl
theorem H7{p:PgT}(hw:p.wf):Fn Tryz.prog 9 [.agg (p.cs false)] (.agg (p.cs true)):=by
  obtain⟨⟨k,bt,t,ks,is⟩,hs⟩:=p
  obtain⟨hiw,hlen,hhw⟩:=hw
  simp only at hiw hlen hhw
  have hlen2:hs.length≤9223372036854775805:=by unfold Qu at hlen;omega
  refine AC.of_J Tryz.func9 rfl Tryz.ntmps9 rfl fun w0 A0=>?_
  refine Zs (Qp (.tmp rfl) rfl fun b1=>JL.alloc z38 rfl rfl fun b2=>Zn (Zs (Zq rfl (Qa Ra (.tmp rfl) rfl) (Zq rfl (by first|exact Qf 1 Qj (.tmp rfl) rfl rfl rfl|exact Qf 1 Qj (.tmp rfl) rfl (Qm vl rfl) vl) ?_))))
  refine Zq rfl (QW.call Dv (.cons (.tmp rfl) .nil) (G2 (fr:=false) (v:=.mk k bt t ks is) Vc.self hiw)) (Zq rfl (QW.build (idx:=[0]) pl38 z38 rfl (.cons (.tmp rfl) .nil) rfl rfl rfl rfl) (JL.alloc z38 rfl rfl fun b3=>?_))
  first|refine Qc 0 YX (.tmp rfl) rfl (.tmp rfl) (by first|rfl|assumption) rfl rfl rfl ?_|refine Qc 0 YX (.tmp rfl) rfl (.tmp rfl) (by first|rfl|assumption) rfl rfl rfl ?_|refine Qc 0 YX (.tmp rfl) rfl (.tmp rfl) (by first|rfl|assumption) rfl rfl rfl ?_|refine Qc 0 YX (.tmp rfl) rfl (.tmp rfl) (by first|rfl|assumption) rfl rfl rfl ?_|refine JL.store_box 0 YX (.tmp rfl) rfl (.tmp rfl) (by first|rfl|assumption) rfl rfl rfl rfl ?_|refine JL.store_box 0 YX (.tmp rfl) rfl (.tmp rfl) (by first|rfl|assumption) rfl rfl rfl rfl ?_
  refine Zn (J.seq (Zs (Zq rfl (QW.assign .const) (Zn (J.block (J.reown (Uf eHd _) (Q0 (ι:=Nat×Value) [1,2,3] (fun⟨i,v⟩=>[(4,.c (.int .i64 (i:Int)))]) (fun⟨i,v⟩ oo=>List.set (List.set oo 3 (.arr v eHd (HdT.css true (hs.take i)))) 0 (.box b3 (V.cs true (.mk k bt t ks is)++[.c v]))) (fun⟨i,v⟩=>i≤hs.length) (fun⟨i,v⟩=>hs.length-i) ⟨0,.slice none 0 0⟩ (Nat.zero_le _) (QK (.cons rfl lr (.cons rfl lr (.cons rfl lr (.cons rfl lr .nil)))) (Reown.refl _) (fun _ h=>by first|exact h|simp[h])) ?_)))))))
  intro⟨i,v⟩ hi
  refine J.conv (by(try simp only[nl,Qk,Qz,QA,Qy,QR,AV.cellsOf,Qd,Qe,Nat.reduceAdd]);rfl) ?_
  refine J.seq (Zs (Zq rfl (QW.move (.tmp rfl)) (Zq rfl (Qa KD (.tmp rfl) rfl) (Zq rfl (Qb 2 Ry (.tmp rfl) rfl rfl) (Zq rfl (by first|exact Qh W4 (.tmp rfl) wl|exact Qh W4 (.tmp rfl) (HdT.css_length _ _)|exact Qh W4 (.tmp rfl) (SetT.css_length _ _)|exact Qh W4 (.tmp rfl) (EmT.css_length _ _)|exact Qr W4 (.tmp rfl)|exact QW.len_nil W4 (.tmp rfl)) ?_)))))
  refine Zq rfl (QW.lss (.tmp rfl) (.tmp rfl)) (Zn ?_)
  refine J.cond (.tmp rfl) (fun c1=>?_) (fun c1=>?_)
  · skip
    have hlt:i<hs.length:=by simpa[HdT.css_length]using c1
    have hh:=hhw _ (List.getElem_mem hlt)
    have hsl2:hs[i].sets.length≤9223372036854775805:=by have:=hh.slen;unfold Qu at this;omega
    have hel2:hs[i].ems.length≤9223372036854775805:=by have:=hh.elen;unfold Qu at this;omega
    refine Zk (J.seq (J.block (Zs (Zq rfl (Qa KD (.tmp rfl) rfl) (Zq rfl (Qb 2 Ry (.tmp rfl) rfl rfl) (Zq rfl (QW.move (.tmp rfl)) (Zq rfl (Qi W4 Xi rfl (.tmp rfl) (.tmp rfl) (by first|rfl|omega|(simp;done)) (by exact HdT.css_getE _ hlt)) ?_)))))))
    refine Zq rfl (by first|exact Ql Xi (.tmp rfl) rfl rfl|exact Ql Xi (.tmp rfl) (QH rfl rfl) rfl) ?_
    refine JL.alloc z57 rfl rfl fun b5=>?_
    first|refine Qc 0 Xi (.tmp rfl) rfl (.tmp rfl) (by first|rfl|assumption) rfl rfl rfl ?_|refine Qc 0 Xi (.tmp rfl) rfl (.tmp rfl) (by first|rfl|assumption) rfl rfl rfl ?_|refine Qc 0 Xi (.tmp rfl) rfl (.tmp rfl) (by first|rfl|assumption) rfl rfl rfl ?_|refine Qc 0 Xi (.tmp rfl) rfl (.tmp rfl) (by first|rfl|assumption) rfl rfl rfl ?_|refine JL.store_box 0 Xi (.tmp rfl) rfl (.tmp rfl) (by first|rfl|assumption) rfl rfl rfl rfl ?_|refine JL.store_box 0 Xi (.tmp rfl) rfl (.tmp rfl) (by first|rfl|assumption) rfl rfl rfl rfl ?_
    refine Zn (Zs (Zq rfl (Qa N8 (.tmp rfl) rfl) (Zq rfl (Qb 0 U9 (.tmp rfl) rfl rfl) (Zq rfl (QW.build (idx:=[0]) pl76 z76 rfl (.cons (.tmp rfl) .nil) rfl rfl rfl rfl) (JL.alloc z76 rfl rfl fun b6=>?_)))))
    first|refine Qc 0 YW (.tmp rfl) rfl (.tmp rfl) (by first|rfl|assumption) rfl rfl rfl ?_|refine Qc 0 YW (.tmp rfl) rfl (.tmp rfl) (by first|rfl|assumption) rfl rfl rfl ?_|refine Qc 0 YW (.tmp rfl) rfl (.tmp rfl) (by first|rfl|assumption) rfl rfl rfl ?_|refine Qc 0 YW (.tmp rfl) rfl (.tmp rfl) (by first|rfl|assumption) rfl rfl rfl ?_|refine JL.store_box 0 YW (.tmp rfl) rfl (.tmp rfl) (by first|rfl|assumption) rfl rfl rfl rfl ?_|refine JL.store_box 0 YW (.tmp rfl) rfl (.tmp rfl) (by first|rfl|assumption) rfl rfl rfl rfl ?_
    refine Zn (J.seq (Zs (Zq rfl (QW.assign .const) (Zn (J.block (J.reown (Uf eSe _) (Q0 (ι:=Nat×Value) [1,2,3,4,5,6,13,14,15,16,17,20,21,22,23,24,25,26,27] (fun⟨j,v1⟩=>[(7,.c (.int .i64 (j:Int)))]) (fun⟨j,v1⟩ oo=>List.set (List.set oo 6 (.arr v1 eSe (SetT.css true (hs[i].sets.take j)))) 0 (.box b6 [.c (Um hs[i].on),.c v1,.c (.slice none 0 0)])) (fun⟨j,v1⟩=>j≤hs[i].sets.length) (fun⟨j,v1⟩=>hs[i].sets.length -j) ⟨0,.slice none 0 0⟩ (Nat.zero_le _) (QK (.cons rfl lr (.cons rfl lr (.cons rfl lr (.cons rfl lr (.cons rfl lr (.cons rfl lr (.cons rfl lr (.cons rfl lr (.cons rfl lr (.cons rfl lr (.cons rfl lr (.cons rfl lr (.cons rfl lr (.cons rfl lr (.cons rfl lr (.cons rfl lr (.cons rfl lr (.cons rfl lr (.cons rfl lr (.cons rfl lr .nil)))))))))))))))))))) (Reown.refl _) (fun _ h=>by first|exact h|simp[h])) ?_)))))))
    intro⟨j,v1⟩ hj
    refine J.conv (by(try simp only[nl,Qk,Qz,QA,Qy,QR,AV.cellsOf,Qd,Qe,Nat.reduceAdd]);rfl) ?_
    refine J.seq (Zs (Zq rfl (QW.move (.tmp rfl)) (Zq rfl (Qa Gw (.tmp rfl) rfl) (Zq rfl (Qb 1 TQ (.tmp rfl) rfl rfl) (Zq rfl (by first|exact Qh YP (.tmp rfl) wl|exact Qh YP (.tmp rfl) (HdT.css_length _ _)|exact Qh YP (.tmp rfl) (SetT.css_length _ _)|exact Qh YP (.tmp rfl) (EmT.css_length _ _)|exact Qr YP (.tmp rfl)|exact QW.len_nil YP (.tmp rfl)) ?_)))))
    refine Zq rfl (QW.lss (.tmp rfl) (.tmp rfl)) (Zn ?_)
    refine J.cond (.tmp rfl) (fun c2=>?_) (fun c2=>?_)
    · skip
      have hlt2:j<hs[i].sets.length:=by simpa[SetT.css_length]using c2
      refine Zk (J.seq (J.block (QU Uc (Zf 0 [] rfl (fun _=>Qa L2 (.tmp rfl) rfl) (Zo 1 0 [35] rfl (fun _ ho_=>Qb 0 Fy (.tmp rfl) ho_ rfl) (Zf 2 [] rfl (fun _=>Qa Gw (.tmp rfl) rfl) (Zo 3 1 [37] rfl (fun _ ho_=>Qb 1 TQ (.tmp rfl) ho_ rfl) (Zf 4 [] rfl (fun _=>QW.move (.tmp rfl)) (Zf 5 [38,39] rfl (fun _=>Qi YP P2 rfl (.tmp rfl) (.tmp rfl) (by first|rfl|omega|(simp;done)) (by exact SetT.css_getE _ hlt2)) ?_)))))))))
      refine Zf 6 [40] rfl (fun _=>Qt B9 (.tmp rfl) rfl) (Zf 7 [41] rfl (fun _=>Qq U9 (.tmp rfl) rfl) (Zf 8 [] rfl (fun _=>Qa Gw (.tmp rfl) rfl) (Zo 9 1 [43] rfl (fun _ ho_=>Qb 1 TQ (.tmp rfl) ho_ rfl) (Zf 10 [] rfl (fun _=>QW.move (.tmp rfl)) (Zf 11 [44,45] rfl (fun _=>Qi YP P2 rfl (.tmp rfl) (.tmp rfl) (by first|rfl|omega|(simp;done)) (by exact SetT.css_getE _ hlt2)) ?_)))))
      refine Zf 12 [46] rfl (fun _=>Qt B8 (.tmp rfl) rfl) (Zf 13 [47] rfl (fun _=>Ql WS (.tmp rfl) SetT.at1 xl) (Zf 14 [48] rfl (fun _=>QW.call NY (.cons (.tmp rfl) .nil) (NQ Xc.self (hh.sets _ (List.getElem_mem hlt2)).ex)) (Zf 15 [42,49] rfl (fun _=>QW.build (idx:=[0,1]) pl82 z82 rfl (.cons (.tmp rfl) (.cons (.tmp rfl) .nil)) rfl rfl rfl (by exact Qae xl)) ?_)))
      refine Zf 16 [50] rfl (fun _=>QW.buildSlice (idx:=[0]) (xs:=[SetT.cs true hs[i].sets[j]]) (zs:=[AV.agg (SetT.cs true hs[i].sets[j])]) Yf el82 z82 rfl (.cons (.tmp rfl) .nil) rfl rfl rfl rfl rfl (by exact KW (SetT.cs_length _ _)) rfl (HA (SetT.cs_length _ _)) rfl) ?_
      refine JX.one 17 [true,true,true,true,true,true,true,true,true,true,true,true,true,true,true,true,true] rfl (by kernel_rfl) (by kernel_rfl) rfl rfl (by kernel_rfl) rfl fun bs17_ pe_ ex_=>?_
      refine JL.conv (by(try simp only[Ua,Uj,Q5,QS,Flt.val,Flt.bx,nx,nl,Qk,Qz,QA,Qy,QR,AV.cellsOf,Qd,Qe,Nat.reduceAdd]);rfl) ?_
      refine JL.append 6 Yf el82 rfl (.tmp rfl) rfl (UL Yf (.tmp rfl)) (by rw[SetT.css_length,List.length_take];show(_+1)*72≤_;have:=hh.slen;omega) rfl fun v52=>?_
      refine JL.nil ?_
      refine thenQ.n ⟨[_],_,rfl,rfl,rfl,rfl,rfl,QJ 7 rfl,⟨rfl,rfl⟩,trivial,?_⟩
      refine JX.conv (S':=[17,16,15,14,13,12,11,10,9,8,7,6,5,4,3,2,1,0]) rfl (by(try simp only[QS]);rfl) (by(try simp only[Ua,Uj,Q5,QS,Flt.val,Flt.bx,nx,nl,Qk,Qz,QA,Qy,QR,AV.cellsOf,Qd,Qe,Nat.reduceAdd]);rfl) ?_
      refine Zf 18 [] rfl (fun _=>Qa L2 (.tmp rfl) rfl) (JX.one 19 [true] rfl (by kernel_rfl) (by kernel_rfl) rfl rfl (by kernel_rfl) rfl fun bs19_ pe_ ex_=>?_)
      refine JL.conv (by(try simp only[Ua,Uj,Q5,QS,Flt.val,Flt.bx,nx,nl,Qk,Qz,QA,Qy,QR,AV.cellsOf,Qd,Qe,Nat.reduceAdd]);rfl) ?_
      refine JL.isSlice 6 rfl fun hs1=>JL.store_box 0 Fy (.tmp rfl) rfl (.tmp rfl) (by first|rfl|assumption) rfl rfl rfl rfl ?_
      refine JL.nil ?_
      refine thenQ.n ⟨[],_,rfl,rfl,rfl,rfl,rfl,QJ 7 rfl,trivial,trivial,?_⟩
      refine JX.conv (S':=[19,18,17,16,15,14,13,12,11,10,9,8,7,6,5,4,3,2,1,0]) rfl (by(try simp only[QS]);rfl) (by(try simp only[Ua,Uj,Q5,QS,Flt.val,Flt.bx,nx,nl,Qk,Qz,QA,Qy,QR,AV.cellsOf,Qd,Qe,Nat.reduceAdd]);rfl) ?_
      refine JX.fin (by kernel_rfl) (by kernel_rfl) fun bs_=>?_
      refine QX.conv (by(try simp only[Ua,Uj,Q5,QS,Flt.val,Flt.bx,nx,nl,Qk,Qz,QA,Qy,QR,AV.cellsOf,Qd,Qe,Nat.reduceAdd]);rfl) ?_
      refine blkQ.n (thenQ.n (Qg (Zq rfl (QW.move (.tmp rfl)) (Zq rfl (QW.add (.tmp rfl) .const (by first|exact U5 (by first|rfl|omega|(simp;done)) (by omega)|exact WW (by omega)|rfl)) ?_))))
      refine Zq rfl (QW.assign (.tmp rfl)) (Zn ?_)
      rw[SetT.css_take hlt2]
      exact⟨⟨j+1,v52⟩,hlt2,by show hs[i].sets.length -(j+1)<hs[i].sets.length -j;omega,QK (.cons rfl lr (.cons rfl lr (.cons rfl lr (.cons rfl lr (.cons rfl lr (.cons rfl lr (.cons rfl lr (.cons rfl lr (.cons rfl lr (.cons rfl lr (.cons rfl lr (.cons rfl lr (.cons rfl lr (.cons rfl lr (.cons rfl lr (.cons rfl lr (.cons rfl lr (.cons rfl lr (.cons rfl lr (.cons rfl lr .nil)))))))))))))))))))) (Reown.refl _) (fun _ h=>by first|exact h|simp[h])⟩
    obtain rfl:j=hs[i].sets.length:=by(simp[SetT.css_length]at c2;omega)
    rw[List.take_length]
    refine J.exit (Qv (Qv (QM (thenQ.n (J.seq (Zs (Zq rfl (QW.assign .const) (Zn (J.block ?_)))))))))
    refine J.reown (Uf eEm _) (Q0 (ι:=Nat×Value) [1,2,3,4,5,6,7,13,14,15,16,17,20,21,22,23,24,25,26,27,28,29,30,31,32] (fun⟨m,v2⟩=>[(8,.c (.int .i64 (m:Int)))]) (fun⟨m,v2⟩ oo=>List.set (List.set oo 7 (.arr v2 eEm (EmT.css true (hs[i].ems.take m)))) 0 (.box b6 [.c (Um hs[i].on),.c v1,.c v2])) (fun⟨m,v2⟩=>m≤hs[i].ems.length) (fun⟨m,v2⟩=>hs[i].ems.length -m) ⟨0,.slice none 0 0⟩ (Nat.zero_le _) (QK (.cons rfl lr (.cons rfl lr (.cons rfl lr (.cons rfl lr (.cons rfl lr (.cons rfl lr (.cons rfl lr (.cons rfl lr (.cons rfl lr (.cons rfl lr (.cons rfl lr (.cons rfl lr (.cons rfl lr (.cons rfl lr (.cons rfl lr (.cons rfl lr (.cons rfl lr (.cons rfl lr (.cons rfl lr (.cons rfl lr (.cons rfl lr (.cons rfl lr (.cons rfl lr (.cons rfl lr (.cons rfl lr (.cons rfl lr .nil)))))))))))))))))))))))))) (Reown.refl _) (fun _ h=>by first|exact h|simp[h])) ?_)
    intro⟨m,v2⟩ hm
    refine J.conv (by(try simp only[nl,Qk,Qz,QA,Qy,QR,AV.cellsOf,Qd,Qe,Nat.reduceAdd]);rfl) ?_
    refine J.seq (Zs (Zq rfl (QW.move (.tmp rfl)) (Zq rfl (Qa X6 (.tmp rfl) rfl) (Zq rfl (Qb 1 NB (.tmp rfl) rfl rfl) (Zq rfl (by first|exact Qh Ys (.tmp rfl) wl|exact Qh Ys (.tmp rfl) (HdT.css_length _ _)|exact Qh Ys (.tmp rfl) (SetT.css_length _ _)|exact Qh Ys (.tmp rfl) (EmT.css_length _ _)|exact Qr Ys (.tmp rfl)|exact QW.len_nil Ys (.tmp rfl)) ?_)))))
    refine Zq rfl (QW.lss (.tmp rfl) (.tmp rfl)) (Zn ?_)
    refine J.cond (.tmp rfl) (fun c3=>?_) (fun c3=>?_)
    · skip
      have hlt3:m<hs[i].ems.length:=by simpa[EmT.css_length]using c3
      refine Zk (J.seq (J.block (QU Uc (Zf 0 [] rfl (fun _=>Qa L1 (.tmp rfl) rfl) (Zo 1 0 [61] rfl (fun _ ho_=>Qb 0 Fx (.tmp rfl) ho_ rfl) (Zf 2 [] rfl (fun _=>Qa X6 (.tmp rfl) rfl) (Zo 3 1 [63] rfl (fun _ ho_=>Qb 1 NB (.tmp rfl) ho_ rfl) (Zf 4 [] rfl (fun _=>QW.move (.tmp rfl)) (Zf 5 [64,65] rfl (fun _=>Qi Ys Cc rfl (.tmp rfl) (.tmp rfl) (by first|rfl|omega|(simp;done)) (by exact EmT.css_getE _ hlt3)) ?_)))))))))
      refine Zf 6 [66] rfl (fun _=>Qt B5 (.tmp rfl) rfl) (Zf 7 [67] rfl (fun _=>Ql WS (.tmp rfl) EmT.at0 xl) (Zf 8 [68] rfl (fun _=>QW.call NY (.cons (.tmp rfl) .nil) (NQ Xc.self (hh.ems _ (List.getElem_mem hlt3)).wh)) (Zf 9 [] rfl (fun _=>Qa X6 (.tmp rfl) rfl) (Zo 10 1 [70] rfl (fun _ ho_=>Qb 1 NB (.tmp rfl) ho_ rfl) (Zf 11 [] rfl (fun _=>QW.move (.tmp rfl)) (Zf 12 [71,72] rfl (fun _=>Qi Ys Cc rfl (.tmp rfl) (.tmp rfl) (by first|rfl|omega|(simp;done)) (by exact EmT.css_getE _ hlt3)) ?_))))))
      refine Zf 13 [73] rfl (fun _=>Qt B4 (.tmp rfl) rfl) (Zf 14 [74] rfl (fun _=>Qq U9 (.tmp rfl) TN) (Zf 15 [] rfl (fun _=>Qa X6 (.tmp rfl) rfl) (Zo 16 1 [76] rfl (fun _ ho_=>Qb 1 NB (.tmp rfl) ho_ rfl) (Zf 17 [] rfl (fun _=>QW.move (.tmp rfl)) (Zf 18 [77,78] rfl (fun _=>Qi Ys Cc rfl (.tmp rfl) (.tmp rfl) (by first|rfl|omega|(simp;done)) (by exact EmT.css_getE _ hlt3)) ?_)))))
      refine Zf 19 [79] rfl (fun _=>Qt B3 (.tmp rfl) rfl) (Zf 20 [80] rfl (fun _=>Ql WS (.tmp rfl) EmT.at5 xl) (Zf 21 [81] rfl (fun _=>QW.call NY (.cons (.tmp rfl) .nil) (NQ Xc.self (hh.ems _ (List.getElem_mem hlt3)).ar)) (Zf 22 [69,75,82] rfl (fun _=>QW.build (idx:=[0,1,2]) pl86 z86 rfl (.cons (.tmp rfl) (.cons (.tmp rfl) (.cons (.tmp rfl) .nil))) rfl rfl rfl (by exact Qaf rfl xl xl)) ?_)))
      refine Zf 23 [83] rfl (fun _=>QW.buildSlice (idx:=[0]) (xs:=[EmT.cs true hs[i].ems[m]]) (zs:=[AV.agg (EmT.cs true hs[i].ems[m])]) YY el86 z86 rfl (.cons (.tmp rfl) .nil) rfl rfl rfl rfl rfl (by exact KW (EmT.cs_length _ _)) rfl (HA (EmT.cs_length _ _)) rfl) ?_
      refine JX.one 24 [true,true,true,true,true,true,true,true,true,true,true,true,true,true,true,true,true,true,true,true,true,true,true,true] rfl (by kernel_rfl) (by kernel_rfl) rfl rfl (by kernel_rfl) rfl fun bs24_ pe_ ex_=>?_
      refine JL.conv (by(try simp only[Ua,Uj,Q5,QS,Flt.val,Flt.bx,nx,nl,Qk,Qz,QA,Qy,QR,AV.cellsOf,Qd,Qe,Nat.reduceAdd]);rfl) ?_
      refine JL.append 7 YY el86 rfl (.tmp rfl) rfl (UL YY (.tmp rfl)) (by rw[EmT.css_length,List.length_take];show(_+1)*128≤_;have:=hh.elen;omega) rfl fun v85=>?_
      refine JL.nil ?_
      refine thenQ.n ⟨[_],_,rfl,rfl,rfl,rfl,rfl,QJ 8 rfl,⟨rfl,rfl⟩,trivial,?_⟩
      refine JX.conv (S':=[24,23,22,21,20,19,18,17,16,15,14,13,12,11,10,9,8,7,6,5,4,3,2,1,0]) rfl (by(try simp only[QS]);rfl) (by(try simp only[Ua,Uj,Q5,QS,Flt.val,Flt.bx,nx,nl,Qk,Qz,QA,Qy,QR,AV.cellsOf,Qd,Qe,Nat.reduceAdd]);rfl) ?_
      refine Zf 25 [] rfl (fun _=>Qa L1 (.tmp rfl) rfl) (JX.one 26 [true] rfl (by kernel_rfl) (by kernel_rfl) rfl rfl (by kernel_rfl) rfl fun bs26_ pe_ ex_=>?_)
      refine JL.conv (by(try simp only[Ua,Uj,Q5,QS,Flt.val,Flt.bx,nx,nl,Qk,Qz,QA,Qy,QR,AV.cellsOf,Qd,Qe,Nat.reduceAdd]);rfl) ?_
      refine JL.isSlice 7 rfl fun hs1=>JL.store_box 0 Fx (.tmp rfl) rfl (.tmp rfl) (by first|rfl|assumption) rfl rfl rfl rfl ?_
      refine JL.nil ?_
      refine thenQ.n ⟨[],_,rfl,rfl,rfl,rfl,rfl,QJ 8 rfl,trivial,trivial,?_⟩
      refine JX.conv (S':=[26,25,24,23,22,21,20,19,18,17,16,15,14,13,12,11,10,9,8,7,6,5,4,3,2,1,0]) rfl (by(try simp only[QS]);rfl) (by(try simp only[Ua,Uj,Q5,QS,Flt.val,Flt.bx,nx,nl,Qk,Qz,QA,Qy,QR,AV.cellsOf,Qd,Qe,Nat.reduceAdd]);rfl) ?_
      refine JX.fin (by kernel_rfl) (by kernel_rfl) fun bs_=>?_
      refine QX.conv (by(try simp only[Ua,Uj,Q5,QS,Flt.val,Flt.bx,nx,nl,Qk,Qz,QA,Qy,QR,AV.cellsOf,Qd,Qe,Nat.reduceAdd]);rfl) ?_
      refine blkQ.n (thenQ.n (Qg (Zq rfl (QW.move (.tmp rfl)) (Zq rfl (QW.add (.tmp rfl) .const (by first|exact U5 (by first|rfl|omega|(simp;done)) (by omega)|exact WW (by omega)|rfl)) ?_))))
      refine Zq rfl (QW.assign (.tmp rfl)) (Zn ?_)
      rw[EmT.css_take hlt3]
      exact⟨⟨m+1,v85⟩,hlt3,by show hs[i].ems.length -(m+1)<hs[i].ems.length -m;omega,QK (.cons rfl lr (.cons rfl lr (.cons rfl lr (.cons rfl lr (.cons rfl lr (.cons rfl lr (.cons rfl lr (.cons rfl lr (.cons rfl lr (.cons rfl lr (.cons rfl lr (.cons rfl lr (.cons rfl lr (.cons rfl lr (.cons rfl lr (.cons rfl lr (.cons rfl lr (.cons rfl lr (.cons rfl lr (.cons rfl lr (.cons rfl lr (.cons rfl lr (.cons rfl lr (.cons rfl lr (.cons rfl lr (.cons rfl lr .nil)))))))))))))))))))))))))) (Reown.refl _) (fun _ h=>by first|exact h|simp[h])⟩
    obtain rfl:m=hs[i].ems.length:=by(simp[EmT.css_length]at c3;omega)
    rw[List.take_length]
    refine J.exit (Qv (Qv (QM (thenQ.n (J.closeArr 6 rfl (by rw[SetT.css_length];exact hh.slen) rfl (fun _ h=>by cases h) ?_)))))
    refine J.closeArr (7-1) rfl (by rw[EmT.css_length];exact hh.elen) rfl (fun _ h=>by cases h) ?_
    refine Qg (Zq rfl (Qa Hu (.tmp rfl) rfl) (Zq rfl (Qb 2 Cf (.tmp rfl) rfl rfl) (Zq rfl ((Qf 0 YW (.tmp rfl) rfl rfl rfl).conv (show AV.agg _=AV.agg [AV.c (Um hs[i].on),AV.c v1,AV.c v2]from rfl)) (Zq rfl (QW.buildSlice (xs:=[HdT.cs true hs[i]]) (idx:=[0]) Yt el76 z76 rfl (.cons (Ev.le (y:=.agg [AV.c (Um hs[i].on),AV.c v1,AV.c v2]) (z:=.agg (HdT.cs true hs[i])) (.tmp rfl) (hd_le (List.mem_cons_of_mem _ List.mem_cons_self) List.mem_cons_self)) .nil) rfl rfl rfl rfl rfl rfl rfl rfl rfl) (JL.append 5 Yt el76 rfl (.tmp rfl) rfl (UL Yt (.tmp rfl)) (by rw[HdT.css_length,List.length_take];show(_+1)*64≤_;omega) rfl fun v91=>?_)))))
    refine Zq rfl (Qa Hu (.tmp rfl) rfl) (JL.isSlice 5 rfl fun hs1=>JL.store_box 2 Cf (.tmp rfl) rfl (.tmp rfl) (by first|rfl|assumption) rfl rfl rfl rfl ?_)
    refine JL.nil (blkQ.n (thenQ.n (Qg (Zq rfl (QW.move (.tmp rfl)) (Zq rfl (QW.add (.tmp rfl) .const (by first|exact U5 (by first|rfl|omega|(simp;done)) (by omega)|exact WW (by omega)|rfl)) ?_)))))
    refine Zq rfl (QW.assign (.tmp rfl)) (Zn ?_)
    rw[HdT.css_take hlt]
    exact⟨⟨i+1,v91⟩,hlt,by show hs.length-(i+1)<hs.length-i;omega,QK (.cons rfl lr (.cons rfl lr (.cons rfl lr (.cons rfl lr .nil)))) (Q9 2 _ rfl) (fun _ h=>by first|exact h|simp[h])⟩
  obtain rfl:i=hs.length:=by(simp[HdT.css_length]at c1;omega)
  rw[List.take_length]
  refine J.exit (Qv (Qv (QM (thenQ.n (J.seq (J.closeArr 3 rfl (by rw[HdT.css_length];exact hlen) rfl (fun _ h=>by cases h) ?_))))))
  refine Qg (Zq rfl (by first|exact Qf 0 YX (.tmp rfl) rfl rfl rfl|exact Qf 0 YX (.tmp rfl) rfl (Qm rfl rfl) rfl) ?_)
  first|refine Qc 1 YX (.tmp rfl) rfl (.tmp rfl) (by first|rfl|assumption) rfl rfl rfl ?_|refine Qc 1 YX (.tmp rfl) rfl (.tmp rfl) (by first|rfl|assumption) rfl rfl rfl ?_|refine Qc 1 YX (.tmp rfl) rfl (.tmp rfl) (by first|rfl|assumption) rfl rfl rfl ?_|refine Qc 1 YX (.tmp rfl) rfl (.tmp rfl) (by first|rfl|assumption) rfl rfl rfl ?_|refine JL.store_box 1 YX (.tmp rfl) rfl (.tmp rfl) (by first|rfl|assumption) rfl rfl rfl rfl ?_|refine JL.store_box 1 YX (.tmp rfl) rfl (.tmp rfl) (by first|rfl|assumption) rfl rfl rfl rfl ?_
  exact Zn (J.ret (Zr [.k,.k,.k] (RetEv.one rfl (by first|exact REv.cell 1 YX rfl rfl rfl rfl (.aggL (.cons lr (.cons lr (.cons lr (.cons lr (.cons lr (.cons (.fact (by simp) lr) .nil)))))))|exact REv.cell 1 YX rfl rfl (Qm rfl rfl) rfl (.aggL (.cons lr (.cons lr (.cons lr (.cons lr (.cons lr (.cons (.fact (by simp) lr) .nil))))))))) rfl ⟨rfl,rfl⟩))

end
section
/- Walks: the page: where an event's handler is; may a program be? -/
set_option maxRecDepth 10000
set_option maxHeartbeats 4000000
theorem LU:∀{l:List HdT} {s:Ui} {j:Nat} (i:Int) (h:j<l.length),l[j].on=s→(∀k (hk:k<l.length),k<j→¬l[k].on=s)→Km l s i=i+j
  |x::r,s,0,i,h,he,hn=>by rw[Km,if_pos (show x.on=s from he)];simp
  |x::r,s,j+1,i,h,he,hn=>by
    rw[Km,if_neg (show ¬x.on=s from hn 0 (by simp) (by omega)),LU (i+1) (by simpa using h) (by simpa using he) (fun k hk hkj=>hn (k+1) (by simpa using hk) (by omega))]
    push_cast;omega
theorem Ew:∀{l:List HdT} {s:Ui} {k:Nat} (i:Int) (h:k<l.length),l[k].on=s→Km l s i≤i+k
  |x::r,s,0,i,h,he=>by rw[Km,if_pos (show x.on=s from he)];simp
  |x::r,s,k+1,i,h,he=>by
    rw[Km]
    split
    · push_cast;omega
    · have:=Ew (i+1) (by simpa using h:k<r.length) (by simpa using he)
      push_cast;omega
theorem Rz(p:PgT):∀(l:List HdT) (i:Int),(∀j (h:j<l.length),p.at l[j].on=i+j)→twiceB p l i=false
  |[],_,_=>rfl
  |x::r,i,h=>by
    rw[twiceB,Rz p r (i+1) (fun j hj=>by have:=h (j+1) (by simpa using hj);simp at this;omega)]
    have:=h 0 (by simp)
    simpa using this
theorem MO(p:PgT):∀(l:List HdT) (i:Int) (j:Nat) (h:j<l.length),¬p.at l[j].on=i+j→twiceB p l i=true
  |x::r,i,0,h,hn=>by rw[twiceB];simp at hn;simp[hn]
  |x::r,i,j+1,h,hn=>by
    rw[twiceB,MO p r (i+1) j (by simpa using h) (by simp at hn⊢;omega),Bool.or_true]
theorem es_at{on:Ui}{sets:List SetT}{ems:List EmT}{j:Nat}(h:j<sets.length):(HdT.mk on sets ems).es=(Us on::(sets.take j).flatMap SetT.es)++(Us sets[j].key::sets[j].ex.err::((sets.drop (j+1)).flatMap SetT.es++ems.flatMap EmT.es)):=by
  have hl:sets.flatMap SetT.es=(sets.take j).flatMap SetT.es++(Us sets[j].key::sets[j].ex.err::(sets.drop (j+1)).flatMap SetT.es):=by
    conv=>lhs;rw[← List.take_append_drop j sets,List.drop_eq_getElem_cons h,List.flatMap_append,List.flatMap_cons]
    simp[SetT.es]
  unfold HdT.es;simp only;rw[hl];simp
theorem DK{on:Ui}{sets:List SetT}{ems:List EmT}{j:Nat}(h:j<ems.length):(HdT.mk on sets ems).es=(Us on::(sets.flatMap SetT.es++(ems.take j).flatMap EmT.es))++(ems[j].wh.err::Us ems[j].nm::ems[j].ar.err::(ems.drop (j+1)).flatMap EmT.es):=by
  have hl:ems.flatMap EmT.es=(ems.take j).flatMap EmT.es++(ems[j].wh.err::Us ems[j].nm::ems[j].ar.err::(ems.drop (j+1)).flatMap EmT.es):=by
    conv=>lhs;rw[← List.take_append_drop j ems,List.drop_eq_getElem_cons h,List.flatMap_append,List.flatMap_cons]
    simp[EmT.es]
  unfold HdT.es;simp only;rw[hl];simp
theorem X4{a b:List Int}(h:US a=0):US (a++b)=US b:=by rw[LY,if_neg (fun h1=>h1 h)]
theorem LL{s:Ui}(h:Wa s=false):Us s=31:=by rw[Us,h];rfl
theorem Ku{s:Ui}(h:Wa s=true):Us s=0:=by rw[Us,h];rfl
theorem BX{x:Int}{r:List Int}(h:¬x=0):US (x::r)=x:=if_pos h
theorem EL{x:Int}{r:List Int}(h:x=0):US (x::r)=US r:=if_neg (fun h1=>h1 h)
theorem RK{fr:Bool}{h:HdT}(hw:h.wf):Fn Tryz.prog 26 [.agg (h.cs fr)] (.c (.int .i64 h.err)):=by
  obtain⟨on,sets,ems⟩:=h
  obtain⟨-,hsl,hsw,hel,hew⟩:=hw
  simp only at hsl hsw hel hew
  refine AC.of_J Tryz.func26 rfl Tryz.ntmps26 rfl fun w0 A0=>?_
  refine Zs (Qp (.tmp rfl) rfl fun b1=>Zq rfl (QW.assign .const) (Zn (J.seq (Zs (Zq rfl (Qa Gw (.tmp rfl) rfl) (Zq rfl (Qb 0 TQ (.tmp rfl) rfl rfl) (Zq rfl (by first|exact Qh YP (.tmp rfl) wl|exact Qh YP (.tmp rfl) (EX.css_length _ _)|exact Qh YP (.tmp rfl) (SetT.css_length _ _)|exact Qh YP (.tmp rfl) (EmT.css_length _ _)|exact Qh YP (.tmp rfl) (HdT.css_length _ _)|exact Qr YP (.tmp rfl)|exact QW.len_nil YP (.tmp rfl)) ?_)))))))
  refine Zq rfl (QW.gtr (.tmp rfl) .const) (Zq rfl (QW.move (.tmp rfl)) (Zg rfl (fun hg=>(Qa X6 (.tmp rfl) rfl)) (Zg rfl (fun hg=>(Qb 0 NB (.when rfl hg) rfl rfl)) (Zg rfl (fun hg=>(by first|exact Qh Ys (.when rfl hg) wl|exact Qh Ys (.when rfl hg) (EX.css_length _ _)|exact Qh Ys (.when rfl hg) (SetT.css_length _ _)|exact Qh Ys (.when rfl hg) (EmT.css_length _ _)|exact Qh Ys (.when rfl hg) (HdT.css_length _ _)|exact Qr Ys (.when rfl hg)|exact QW.len_nil Ys (.when rfl hg))) ?_))))
  refine Zg rfl (fun hg=>(QW.gtr (.when rfl hg) .const)) (Zq rfl (QW.pick_or (.tmp rfl) (.tmp rfl)) (Zn ?_))
  refine J.cond (.tmp rfl) (fun c1=>?_) (fun c1=>?_)
  · skip
    have hbad:8<sets.length∨8<ems.length:=by(simp[SetT.css_length,EmT.css_length]at c1;omega)
    exact Zs (Zq rfl (QW.assign .const) (Zn (J.ret (thenQ.r (Zr [.k] (RetEv.one rfl (REv.tmp rfl lr)) rfl ⟨by rw[HdT.err,if_pos hbad],rfl⟩)))))
  have hok:¬(8<sets.length∨8<ems.length):=by(simp[SetT.css_length,EmT.css_length]at c1;omega)
  refine Zk (J.seq (Zs (Zq rfl (Qa N8 (.tmp rfl) rfl) (Zq rfl (Qb 0 U9 (.tmp rfl) rfl rfl) (Zq rfl (QW.call Du (.cons (.tmp rfl) .nil) (LE _)) (Zq rfl (QW.not (.tmp rfl)) (Zn ?_)))))))
  refine J.cond (.tmp rfl) (fun c2=>?_) (fun c2=>?_)
  · skip
    have hn:Wa on=false:=by simpa using c2
    exact Zs (Zq rfl (QW.assign .const) (Zn (J.ret (thenQ.r (Zr [.k] (RetEv.one rfl (REv.tmp rfl lr)) rfl ⟨by rw[HdT.err,if_neg hok];simp[HdT.es,US,LL hn],rfl⟩)))))
  have hn:Wa on=true:=by simpa using c2
  refine Zk (J.seq (Zs (Zq rfl (QW.assign .const) (Zn (J.block (Q0 (ι:=Nat) [1] (fun j=>[(3,.c (.int .i64 (j:Int)))]) (fun _ oo=>oo) (fun j=>j≤sets.length∧US (Us on::(sets.take j).flatMap SetT.es)=0) (fun j=>sets.length-j) 0 (⟨Nat.zero_le _,by simp[US,Ku hn]⟩) (QK (.cons rfl lr (.cons rfl lr .nil)) (Reown.refl _) (fun _ h=>by first|exact h|simp[h])) ?_))))))
  intro j ⟨hj,hf0⟩
  refine J.conv (by(try simp only[nl,Qk,Qz,QA,Qy,QR,AV.cellsOf,Qd,Qe,Nat.reduceAdd]);rfl) ?_
  refine J.seq (Zs (Zq rfl (QW.move (.tmp rfl)) (Zq rfl (Qa Gw (.tmp rfl) rfl) (Zq rfl (Qb 0 TQ (.tmp rfl) rfl rfl) (Zq rfl (by first|exact Qh YP (.tmp rfl) wl|exact Qh YP (.tmp rfl) (EX.css_length _ _)|exact Qh YP (.tmp rfl) (SetT.css_length _ _)|exact Qh YP (.tmp rfl) (EmT.css_length _ _)|exact Qh YP (.tmp rfl) (HdT.css_length _ _)|exact Qr YP (.tmp rfl)|exact QW.len_nil YP (.tmp rfl)) ?_)))))
  refine Zq rfl (QW.lss (.tmp rfl) (.tmp rfl)) (Zn ?_)
  refine J.cond (.tmp rfl) (fun c3=>?_) (fun c3=>?_)
  · skip
    have hlt:j<sets.length:=by simpa[SetT.css_length]using c3
    refine Zk (J.seq (J.block (J.seq (Zs (Zq rfl (Qa Gw (.tmp rfl) rfl) (Zq rfl (Qb 0 TQ (.tmp rfl) rfl rfl) (Zq rfl (QW.move (.tmp rfl)) (Zq rfl (Qi YP P2 rfl (.tmp rfl) (.tmp rfl) (by first|rfl|omega|(simp;done)) (by(first|exact SetT.css_getE _ hlt|exact EmT.css_getE _ hlt))) ?_))))))))
    refine Zq rfl (Qt B9 (.tmp rfl) rfl) (Zq rfl (Qq U9 (.tmp rfl) rfl) (Zq rfl (QW.call Du (.cons (.tmp rfl) .nil) (LE _)) (Zq rfl (QW.not (.tmp rfl)) (Zn ?_))))
    refine J.cond (.tmp rfl) (fun c4=>?_) (fun c4=>?_)
    · skip
      have hk:Wa sets[j].key=false:=by simpa using c4
      exact Zs (Zq rfl (QW.assign .const) (Zn (J.ret (thenQ.r (blkQ.r (thenQ.r (thenQ.r (blkQ.r (thenQ.r (Zr [.k] (RetEv.one rfl (REv.tmp rfl lr)) rfl ⟨by rw[HdT.err,if_neg hok,es_at hlt,X4 hf0,LL hk];rfl,rfl⟩))))))))))
    have hk:Wa sets[j].key=true:=by simpa using c4
    refine Zk (Zs (Zq rfl (Qa Gw (.tmp rfl) rfl) (Zq rfl (Qb 0 TQ (.tmp rfl) rfl rfl) (Zq rfl (QW.move (.tmp rfl)) (Zq rfl (Qi YP P2 rfl (.tmp rfl) (.tmp rfl) (by first|rfl|omega|(simp;done)) (by(first|exact SetT.css_getE _ hlt|exact EmT.css_getE _ hlt))) ?_)))))
    refine Zq rfl (Qt B8 (.tmp rfl) rfl) (Zq rfl (Ql WS (.tmp rfl) SetT.at1 xl) (Zq rfl (QW.call Dt (.cons (.tmp rfl) .nil) (Gx Xc.self (hsw _ (List.getElem_mem hlt)).ex)) (Zq rfl (QW.assign (.tmp rfl)) (Zn (Zs (Zq rfl (QW.move (.tmp rfl)) (Zq rfl (QW.neq (.tmp rfl) .const) (Zn ?_))))))))
    refine J.cond (.tmp rfl) (fun c5=>?_) (fun c5=>?_)
    · skip
      have he:¬sets[j].ex.err=0:=by simpa using c5
      exact Zs (Zq rfl (QW.move (.tmp rfl)) (Zq rfl (QW.assign (.tmp rfl)) (Zn (J.ret (blkQ.r (thenQ.r (thenQ.r (blkQ.r (thenQ.r (Zr [.k] (RetEv.one rfl (REv.tmp rfl lr)) rfl ⟨by rw[HdT.err,if_neg hok,es_at hlt,X4 hf0,EL (Ku hk),BX he],rfl⟩))))))))))
    have he:sets[j].ex.err=0:=by simpa using c5
    refine J.skip (blkQ.n (thenQ.n (Qg (Zq rfl (QW.move (.tmp rfl)) (Zq rfl (QW.add (.tmp rfl) .const (by first|exact U5 (by first|rfl|omega|(simp;done)) (by omega)|exact WW (by omega)|rfl)) ?_)))))
    refine Zq rfl (QW.assign (.tmp rfl)) (Zn ?_)
    exact⟨j+1,⟨hlt,by rw[Tb hlt,← List.cons_append,X4 hf0];simp[US,Ku hk,he]⟩,by omega,QK (.cons rfl lr (.cons rfl lr .nil)) (Reown.refl _) (fun _ h=>by first|exact h|simp[h])⟩
  obtain rfl:j=sets.length:=by(simp[SetT.css_length]at c3;omega)
  rw[List.take_length]at hf0
  refine J.exit (Qv (Qv (QM (thenQ.n (J.seq (Zs (Zq rfl (QW.assign .const) (Zn (J.block ?_)))))))))
  refine Q0 (ι:=Nat) [1] (fun i=>[(5,.c (.int .i64 (i:Int)))]) (fun _ oo=>oo) (fun i=>i≤ems.length∧US (Us on::(sets.flatMap SetT.es++(ems.take i).flatMap EmT.es))=0) (fun i=>ems.length-i) 0 (⟨Nat.zero_le _,by simpa using hf0⟩) (QK (.cons rfl lr (.cons rfl lr .nil)) (Reown.refl _) (fun _ h=>by first|exact h|simp[h])) ?_
  intro i ⟨hi,hf0⟩
  refine J.conv (by(try simp only[nl,Qk,Qz,QA,Qy,QR,AV.cellsOf,Qd,Qe,Nat.reduceAdd]);rfl) ?_
  refine J.seq (Zs (Zq rfl (QW.move (.tmp rfl)) (Zq rfl (Qa X6 (.tmp rfl) rfl) (Zq rfl (Qb 0 NB (.tmp rfl) rfl rfl) (Zq rfl (by first|exact Qh Ys (.tmp rfl) wl|exact Qh Ys (.tmp rfl) (EX.css_length _ _)|exact Qh Ys (.tmp rfl) (SetT.css_length _ _)|exact Qh Ys (.tmp rfl) (EmT.css_length _ _)|exact Qh Ys (.tmp rfl) (HdT.css_length _ _)|exact Qr Ys (.tmp rfl)|exact QW.len_nil Ys (.tmp rfl)) ?_)))))
  refine Zq rfl (QW.lss (.tmp rfl) (.tmp rfl)) (Zn ?_)
  refine J.cond (.tmp rfl) (fun c4=>?_) (fun c4=>?_)
  · skip
    have hlt:i<ems.length:=by simpa[EmT.css_length]using c4
    refine Zk (J.seq (J.block (Zs (Zq rfl (Qa X6 (.tmp rfl) rfl) (Zq rfl (Qb 0 NB (.tmp rfl) rfl rfl) (Zq rfl (QW.move (.tmp rfl)) (Zq rfl (Qi Ys Cc rfl (.tmp rfl) (.tmp rfl) (by first|rfl|omega|(simp;done)) (by(first|exact SetT.css_getE _ hlt|exact EmT.css_getE _ hlt))) ?_)))))))
    refine Zq rfl (Qt B5 (.tmp rfl) rfl) (Zq rfl (Ql WS (.tmp rfl) EmT.at0 xl) (Zq rfl (QW.call Dt (.cons (.tmp rfl) .nil) (Gx Xc.self (hew _ (List.getElem_mem hlt)).wh)) (Zq rfl (QW.assign (.tmp rfl)) (Zn (J.seq (Zs (Zq rfl (QW.move (.tmp rfl)) (Zq rfl (QW.neq (.tmp rfl) .const) (Zn ?_)))))))))
    refine J.cond (.tmp rfl) (fun c5=>?_) (fun c5=>?_)
    · skip
      have hwh:¬ems[i].wh.err=0:=by simpa using c5
      refine Zs (Zq rfl (QW.move (.tmp rfl)) (Zq rfl (QW.assign (.tmp rfl)) (Zn (J.ret (thenQ.r (blkQ.r (thenQ.r (thenQ.r (blkQ.r ?_)))))))))
      exact thenQ.r (Zr [.k] (RetEv.one rfl (REv.tmp rfl lr)) rfl ⟨by rw[HdT.err,if_neg hok,DK hlt,X4 hf0,BX hwh],rfl⟩)
    have hwh:ems[i].wh.err=0:=by simpa using c5
    refine Zk (J.seq (Zs (Zq rfl (Qa X6 (.tmp rfl) rfl) (Zq rfl (Qb 0 NB (.tmp rfl) rfl rfl) (Zq rfl (QW.move (.tmp rfl)) (Zq rfl (Qi Ys Cc rfl (.tmp rfl) (.tmp rfl) (by first|rfl|omega|(simp;done)) (by(first|exact SetT.css_getE _ hlt|exact EmT.css_getE _ hlt))) ?_))))))
    refine Zq rfl (Qt B4 (.tmp rfl) rfl) (Zq rfl (Qq U9 (.tmp rfl) TN) (Zq rfl (QW.call Du (.cons (.tmp rfl) .nil) (LE _)) (Zq rfl (QW.not (.tmp rfl)) (Zn ?_))))
    refine J.cond (.tmp rfl) (fun c6=>?_) (fun c6=>?_)
    · skip
      have hnm:Wa ems[i].nm=false:=by simpa using c6
      exact Zs (Zq rfl (QW.assign .const) (Zn (J.ret (thenQ.r (blkQ.r (thenQ.r (thenQ.r (blkQ.r (thenQ.r (Zr [.k] (RetEv.one rfl (REv.tmp rfl lr)) rfl ⟨by rw[HdT.err,if_neg hok,DK hlt,X4 hf0,EL hwh,LL hnm];rfl,rfl⟩))))))))))
    have hnm:Wa ems[i].nm=true:=by simpa using c6
    refine Zk (Zs (Zq rfl (Qa X6 (.tmp rfl) rfl) (Zq rfl (Qb 0 NB (.tmp rfl) rfl rfl) (Zq rfl (QW.move (.tmp rfl)) (Zq rfl (Qi Ys Cc rfl (.tmp rfl) (.tmp rfl) (by first|rfl|omega|(simp;done)) (by(first|exact SetT.css_getE _ hlt|exact EmT.css_getE _ hlt))) ?_)))))
    refine Zq rfl (Qt B3 (.tmp rfl) rfl) (Zq rfl (Ql WS (.tmp rfl) EmT.at5 xl) (Zq rfl (QW.call Dt (.cons (.tmp rfl) .nil) (Gx Xc.self (hew _ (List.getElem_mem hlt)).ar)) (Zq rfl (QW.assign (.tmp rfl)) (Zn (Zs (Zq rfl (QW.move (.tmp rfl)) (Zq rfl (QW.neq (.tmp rfl) .const) (Zn ?_))))))))
    refine J.cond (.tmp rfl) (fun c7=>?_) (fun c7=>?_)
    · skip
      have har:¬ems[i].ar.err=0:=by simpa using c7
      exact Zs (Zq rfl (QW.move (.tmp rfl)) (Zq rfl (QW.assign (.tmp rfl)) (Zn (J.ret (blkQ.r (thenQ.r (thenQ.r (blkQ.r (thenQ.r (Zr [.k] (RetEv.one rfl (REv.tmp rfl lr)) rfl ⟨by rw[HdT.err,if_neg hok,DK hlt,X4 hf0,EL hwh,EL (Ku hnm),BX har],rfl⟩))))))))))
    have har:ems[i].ar.err=0:=by simpa using c7
    refine J.skip (blkQ.n (thenQ.n (Qg (Zq rfl (QW.move (.tmp rfl)) (Zq rfl (QW.add (.tmp rfl) .const (by first|exact U5 (by first|rfl|omega|(simp;done)) (by omega)|exact WW (by omega)|rfl)) ?_)))))
    refine Zq rfl (QW.assign (.tmp rfl)) (Zn ?_)
    exact⟨i+1,⟨hlt,by rw[Tc hlt,← List.append_assoc,← List.cons_append,X4 hf0];simp[US,Ku hnm,hwh,har]⟩,by omega,QK (.cons rfl lr (.cons rfl lr .nil)) (Reown.refl _) (fun _ h=>by first|exact h|simp[h])⟩
  obtain rfl:i=ems.length:=by(simp[EmT.css_length]at c4;omega)
  rw[List.take_length]at hf0
  exact J.exit (Qv (Qv (QM (thenQ.n (Zs (Zq rfl (QW.assign .const) (Zn (J.ret (Zr [.k] (RetEv.one rfl (REv.tmp rfl lr)) rfl ⟨by rw[HdT.err,if_neg hok,HdT.es,hf0],rfl⟩)))))))))
theorem T2{fr:Bool}{p:PgT}(hw:p.wf):Fn Tryz.prog 10 [.agg (p.cs fr)] (.c (.int .i64 p.err)):=by
  have hp:=hw
  obtain⟨⟨k,bt,t,ks,is⟩,hs⟩:=p
  obtain⟨hiw,hlen,hhw⟩:=hw
  simp only at hiw hlen hhw
  have hlen2:hs.length≤9223372036854775805:=by unfold Qu at hlen;omega
  refine AC.of_J Tryz.func10 rfl Tryz.ntmps10 rfl fun w0 A0=>?_
  refine Zs (Qp (.tmp rfl) rfl fun b1=>Zq rfl (QW.assign .const) (Zn (Zs (Zq rfl (Qa Ra (.tmp rfl) rfl) (Zq rfl (by first|exact Qf 0 Qj (.tmp rfl) rfl rfl rfl|exact Qf 0 Qj (.tmp rfl) rfl (Qm vl rfl) vl) ?_)))))
  refine Zq rfl (QW.call gofn25 (.cons (.tmp rfl) .nil) (Ct (v:=.mk k bt t ks is) Vc.self hiw)) (Zq rfl (QW.assign (.tmp rfl)) (Zn (J.seq (J.block (Zs (Zq rfl (QW.move (.tmp rfl)) (Zq rfl (QW.neq (.tmp rfl) .const) (Zq rfl (QW.assign (.tmp rfl)) (Zn ?_)))))))))
  refine J.cond (.tmp rfl) (fun c1=>?_) (fun c1=>?_)
  · skip
    have hbad:¬(V.mk k bt t ks is).err=0:=by simpa using c1
    exact Zs (Zq rfl (QW.move (.tmp rfl)) (Zq rfl (QW.assign (.tmp rfl)) (Zn (J.ret (blkQ.r (thenQ.r (Zr [.k] (RetEv.one rfl (REv.tmp rfl lr)) rfl ⟨by rw[LI,if_pos hbad],rfl⟩)))))))
  have hi0:(V.mk k bt t ks is).err=0:=by simpa using c1
  refine Zs (Zq rfl (Qa Ra (.tmp rfl) rfl) (Zq rfl (Qa UJ (.tmp rfl) rfl) (Zq rfl (Qb 0 UQ (.tmp rfl) rfl rfl) (Zq rfl (QW.neq (.tmp rfl) .const) (Zq rfl (QW.assign (.tmp rfl)) (Zn ?_))))))
  refine J.cond (.tmp rfl) (fun c2=>?_) (fun c2=>?_)
  · skip
    have hk:¬k=5:=by simpa using c2
    exact Zs (Zq rfl (QW.assign .const) (Zn (J.ret (blkQ.r (thenQ.r (Zr [.k] (RetEv.one rfl (REv.tmp rfl lr)) rfl ⟨by rw[LI,if_neg (fun h=>h hi0),if_pos hk],rfl⟩))))))
  have hk:k=5:=by simpa using c2
  refine Zs (Zq rfl (Qa KD (.tmp rfl) rfl) (Zq rfl (Qb 0 Ry (.tmp rfl) rfl rfl) (Zq rfl (by first|exact Qh W4 (.tmp rfl) wl|exact Qh W4 (.tmp rfl) (EX.css_length _ _)|exact Qh W4 (.tmp rfl) (SetT.css_length _ _)|exact Qh W4 (.tmp rfl) (EmT.css_length _ _)|exact Qh W4 (.tmp rfl) (HdT.css_length _ _)|exact Qr W4 (.tmp rfl)|exact QW.len_nil W4 (.tmp rfl)) ?_)))
  refine Zq rfl (QW.gtr (.tmp rfl) .const) (Zq rfl (QW.assign (.tmp rfl)) (Zn ?_))
  refine J.cond (.tmp rfl) (fun c3=>?_) (fun c3=>?_)
  · skip
    have h16:16<hs.length:=by(simp[HdT.css_length]at c3;omega)
    exact Zs (Zq rfl (QW.assign .const) (Zn (J.ret (blkQ.r (thenQ.r (Zr [.k] (RetEv.one rfl (REv.tmp rfl lr)) rfl ⟨by rw[LI,if_neg (fun h=>h hi0),if_neg (fun h=>h hk),if_pos h16],rfl⟩))))))
  have h16:¬16<hs.length:=by(simp[HdT.css_length]at c3;omega)
  refine J.skip (blkQ.n (thenQ.n (J.seq (Zs (Zq rfl (QW.assign .const) (Zn (J.block (Q0 (ι:=Nat) [1] (fun j=>[(4,.c (.int .i64 (j:Int)))]) (fun _ oo=>oo) (fun j=>j≤hs.length∧US ((hs.take j).map HdT.err)=0) (fun j=>hs.length-j) 0 (⟨Nat.zero_le _,rfl⟩) (QK (.cons rfl lr (.cons rfl lr .nil)) (Reown.refl _) (fun _ h=>by first|exact h|simp[h])) ?_))))))))
  intro j ⟨hj,hf0⟩
  refine J.conv (by(try simp only[nl,Qk,Qz,QA,Qy,QR,AV.cellsOf,Qd,Qe,Nat.reduceAdd]);rfl) ?_
  refine J.seq (Zs (Zq rfl (QW.move (.tmp rfl)) (Zq rfl (Qa KD (.tmp rfl) rfl) (Zq rfl (Qb 0 Ry (.tmp rfl) rfl rfl) (Zq rfl (by first|exact Qh W4 (.tmp rfl) wl|exact Qh W4 (.tmp rfl) (EX.css_length _ _)|exact Qh W4 (.tmp rfl) (SetT.css_length _ _)|exact Qh W4 (.tmp rfl) (EmT.css_length _ _)|exact Qh W4 (.tmp rfl) (HdT.css_length _ _)|exact Qr W4 (.tmp rfl)|exact QW.len_nil W4 (.tmp rfl)) ?_)))))
  refine Zq rfl (QW.lss (.tmp rfl) (.tmp rfl)) (Zn ?_)
  refine J.cond (.tmp rfl) (fun c4=>?_) (fun c4=>?_)
  · skip
    have hlt:j<hs.length:=by simpa[HdT.css_length]using c4
    refine Zk (J.seq (J.block (Zs (Zq rfl (Qa KD (.tmp rfl) rfl) (Zq rfl (Qb 0 Ry (.tmp rfl) rfl rfl) (Zq rfl (QW.move (.tmp rfl)) (Zq rfl (Qi W4 Xi rfl (.tmp rfl) (.tmp rfl) (by first|rfl|omega|(simp;done)) (by exact HdT.css_getE _ hlt)) ?_)))))))
    refine Zq rfl (by first|exact Ql Xi (.tmp rfl) rfl rfl|exact Ql Xi (.tmp rfl) (QH rfl rfl) rfl) ?_
    refine Zq rfl (QW.call gofn26 (.cons (.tmp rfl) .nil) (RK (hhw _ (List.getElem_mem hlt)))) (Zq rfl (QW.assign (.tmp rfl)) (Zn (Zs (Zq rfl (QW.move (.tmp rfl)) (Zq rfl (QW.neq (.tmp rfl) .const) (Zn ?_))))))
    refine J.cond (.tmp rfl) (fun c5=>?_) (fun c5=>?_)
    · skip
      have he:¬hs[j].err=0:=by simpa using c5
      exact Zs (Zq rfl (QW.move (.tmp rfl)) (Zq rfl (QW.assign (.tmp rfl)) (Zn (J.ret (blkQ.r (thenQ.r (thenQ.r (blkQ.r (thenQ.r (Zr [.k] (RetEv.one rfl (REv.tmp rfl lr)) rfl ⟨by rw[LI,if_neg (fun h=>h hi0),if_neg (fun h=>h hk),if_neg h16,R4 hlt hf0 he,if_pos he],rfl⟩))))))))))
    have he:hs[j].err=0:=by simpa using c5
    refine J.skip (blkQ.n (thenQ.n (Qg (Zq rfl (QW.move (.tmp rfl)) (Zq rfl (QW.add (.tmp rfl) .const (by first|exact U5 (by first|rfl|omega|(simp;done)) (by omega)|exact WW (by omega)|rfl)) ?_)))))
    refine Zq rfl (QW.assign (.tmp rfl)) (Zn ?_)
    exact⟨j+1,⟨hlt,LX hlt hf0 he⟩,by omega,QK (.cons rfl lr (.cons rfl lr .nil)) (Reown.refl _) (fun _ h=>by first|exact h|simp[h])⟩
  obtain rfl:j=hs.length:=by(simp[HdT.css_length]at c4;omega)
  rw[List.take_length]at hf0
  refine J.exit (Qv (Qv (QM (thenQ.n (J.seq (Zs (Zq rfl (QW.assign .const) (Zn (J.block ?_)))))))))
  refine Q0 (ι:=Nat) [1] (fun i=>[(6,.c (.int .i64 (i:Int)))]) (fun _ oo=>oo) (fun i=>i≤hs.length∧∀a (ha:a<hs.length),a<i→∀c (hc:c<hs.length),c<a→¬hs[c].on=hs[a].on) (fun i=>hs.length-i) 0 (⟨Nat.zero_le _,fun a _ h=>by omega⟩) (QK (.cons rfl lr (.cons rfl lr .nil)) (Reown.refl _) (fun _ h=>by first|exact h|simp[h])) ?_
  intro i ⟨hi,hno⟩
  refine J.conv (by(try simp only[nl,Qk,Qz,QA,Qy,QR,AV.cellsOf,Qd,Qe,Nat.reduceAdd]);rfl) ?_
  refine J.seq (Zs (Zq rfl (QW.move (.tmp rfl)) (Zq rfl (Qa KD (.tmp rfl) rfl) (Zq rfl (Qb 0 Ry (.tmp rfl) rfl rfl) (Zq rfl (by first|exact Qh W4 (.tmp rfl) wl|exact Qh W4 (.tmp rfl) (EX.css_length _ _)|exact Qh W4 (.tmp rfl) (SetT.css_length _ _)|exact Qh W4 (.tmp rfl) (EmT.css_length _ _)|exact Qh W4 (.tmp rfl) (HdT.css_length _ _)|exact Qr W4 (.tmp rfl)|exact QW.len_nil W4 (.tmp rfl)) ?_)))))
  refine Zq rfl (QW.lss (.tmp rfl) (.tmp rfl)) (Zn ?_)
  refine J.cond (.tmp rfl) (fun c5=>?_) (fun c5=>?_)
  · skip
    have hlt:i<hs.length:=by simpa[HdT.css_length]using c5
    refine Zk (J.seq (J.block (Zs (Zq rfl (QW.assign .const) (Zn (J.block (Q0 (ι:=Nat) [1,6,41,42,43,44,45] (fun m=>[(7,.c (.int .i64 (m:Int)))]) (fun _ oo=>oo) (fun m=>m≤i∧∀c (hc:c<hs.length),c<m→¬hs[c].on=hs[i].on) (fun m=>i-m) 0 (⟨Nat.zero_le _,fun c _ h=>by omega⟩) (QK (.cons rfl lr (.cons rfl lr (.cons rfl lr (.cons rfl lr (.cons rfl lr (.cons rfl lr (.cons rfl lr (.cons rfl lr .nil)))))))) (Reown.refl _) (fun _ h=>by first|exact h|simp[h])) ?_)))))))
    intro m ⟨hm,hnm⟩
    refine J.conv (by(try simp only[nl,Qk,Qz,QA,Qy,QR,AV.cellsOf,Qd,Qe,Nat.reduceAdd]);rfl) ?_
    refine J.seq (Zs (Zq rfl (QW.move (.tmp rfl)) (Zq rfl (QW.move (.tmp rfl)) (Zq rfl (QW.lss (.tmp rfl) (.tmp rfl)) (Zn ?_)))))
    refine J.cond (.tmp rfl) (fun c6=>?_) (fun c6=>?_)
    · skip
      have hmi:m<i:=by simpa using c6
      have hkl:m<hs.length:=by omega
      refine Zk (J.seq (J.block (J.seq (QY 12 Uc (by kernel_rfl) (by kernel_rfl) (by kernel_rfl) rfl ?_))))
      refine .cons [] rfl rfl rfl (.q rfl (Qa KD (.tmp rfl) rfl)) ?_
      refine .cons [53] rfl rfl rfl (.q rfl (Qb 0 Ry (.tmp rfl) rfl rfl)) ?_
      refine .cons [] rfl rfl rfl (.q rfl (QW.move (.tmp rfl))) ?_
      refine .cons [54,55] rfl rfl rfl (.q rfl (Qi W4 Xi rfl (.tmp rfl) (.tmp rfl) (by first|rfl|omega|(simp;done)) (by exact HdT.css_getE _ hkl))) ?_
      refine .cons [56] rfl rfl rfl (.q rfl (Qt N8 (.tmp rfl) rfl)) ?_
      refine .cons [57] rfl rfl rfl (.q rfl (Qq U9 (.tmp rfl) rfl)) ?_
      refine .cons [] rfl rfl rfl (.q rfl (Qa KD (.tmp rfl) rfl)) ?_
      refine .cons [59] rfl rfl rfl (.q rfl (Qb 0 Ry (.tmp rfl) rfl rfl)) ?_
      refine .cons [] rfl rfl rfl (.q rfl (QW.move (.tmp rfl))) ?_
      refine .cons [60,61] rfl rfl rfl (.q rfl (Qi W4 Xi rfl (.tmp rfl) (.tmp rfl) (by first|rfl|omega|(simp;done)) (by exact HdT.css_getE _ hlt))) ?_
      refine .cons [62] rfl rfl rfl (.q rfl (Qt N8 (.tmp rfl) rfl)) ?_
      refine .cons [63] rfl rfl rfl (.q rfl (Qq U9 (.tmp rfl) rfl)) ?_
      refine .nil ?_
      refine Zq rfl (KI (.tmp rfl) (.tmp rfl)) (Zn ?_)
      refine J.cond (.tmp rfl) (fun c7=>?_) (fun c7=>?_)
      · skip
        have heq:hs[m].on=hs[i].on:=by simpa using c7
        refine Zs (Zq rfl (QW.assign .const) (Zn (J.ret (blkQ.r (thenQ.r (thenQ.r (blkQ.r (blkQ.r (thenQ.r ?_)))))))))
        exact thenQ.r (blkQ.r (thenQ.r (Zr [.k] (RetEv.one rfl (REv.tmp rfl lr)) rfl ⟨by rw[LI,if_neg (fun h=>h hi0),if_neg (fun h=>h hk),if_neg h16,if_neg (fun h=>h hf0),MO ⟨.mk k bt t ks is,hs⟩ hs 0 i hlt (by have:=Ew (l:=hs) (s:=hs[i].on) 0 hkl heq;show ¬Km hs hs[i].on 0=0+(i:Int);omega)];rfl,rfl⟩)))
      have hne:¬hs[m].on=hs[i].on:=by simpa using c7
      refine J.skip (blkQ.n (thenQ.n (Qg (Zq rfl (QW.move (.tmp rfl)) (Zq rfl (QW.add (.tmp rfl) .const (by first|exact U5 (by first|rfl|omega|(simp;done)) (by omega)|exact WW (by omega)|rfl)) ?_)))))
      refine Zq rfl (QW.assign (.tmp rfl)) (Zn ?_)
      exact⟨m+1,⟨by omega,fun c hc h=>by rcases Nat.lt_succ_iff_lt_or_eq.1 h with h|rfl;exact hnm c hc h;exact hne⟩,by omega,QK (.cons rfl lr (.cons rfl lr (.cons rfl lr (.cons rfl lr (.cons rfl lr (.cons rfl lr (.cons rfl lr (.cons rfl lr .nil)))))))) (Reown.refl _) (fun _ h=>by first|exact h|simp[h])⟩
    have hmi:i≤m:=by simpa using c6
    refine J.exit (Qv (Qv (QM (blkQ.n (thenQ.n (Qg (Zq rfl (QW.move (.tmp rfl)) (Zq rfl (QW.add (.tmp rfl) .const (by first|exact U5 (by first|rfl|omega|(simp;done)) (by omega)|exact WW (by omega)|rfl)) ?_))))))))
    refine Zq rfl (QW.assign (.tmp rfl)) (Zn ?_)
    exact⟨i+1,⟨hlt,fun a ha h c hc hca=>by rcases Nat.lt_succ_iff_lt_or_eq.1 h with h|rfl;exact hno a ha h c hc hca;exact hnm c hc (by omega)⟩,by omega,QK (.cons rfl lr (.cons rfl lr .nil)) (Reown.refl _) (fun _ h=>by first|exact h|simp[h])⟩
  have hge:hs.length≤i:=by simpa[HdT.css_length]using c5
  exact J.exit (Qv (Qv (QM (thenQ.n (Zs (Zq rfl (QW.assign .const) (Zn (J.ret (Zr [.k] (RetEv.one rfl (REv.tmp rfl lr)) rfl ⟨by rw[LI,if_neg (fun h=>h hi0),if_neg (fun h=>h hk),if_neg h16,if_neg (fun h=>h hf0),Rz ⟨.mk k bt t ks is,hs⟩ hs 0 (fun a ha=>LU 0 ha rfl (fun c hc hca=>hno a ha (by omega) c hc hca))];rfl,rfl⟩)))))))))

end
section
/- Walks: the page's small program; the example. -/
set_option maxRecDepth 10000
set_option maxHeartbeats 4000000
def aN:List AV:=[.c (.int .i64 8),.c (.int .u64 0),.c (Um [110]),.sl true true Qam [(EX.mk 5 0 [] []).raw (.slice none 0 0)]]
def a1:List AV:=[.c (.int .i64 3),.c (.int .u64 4607182418800017408),.c (Um []),.c (.slice none 0 0)]
def aAdd:List AV:=[.c (.int .i64 11),.c (.int .u64 0),.c (Um []),.sl true true Qam [aN,a1]]
def aLes:List AV:=[.c (.int .i64 17),.c (.int .u64 0),.c (Um []),.sl true true Qam [a1,aN]]
def aHd:List AV:=[.c (Um [117,112]),.sl true true et62 [.c (Um [110])::aAdd],.sl true true et84 [aLes++.c (Um [116,101,108,108])::aN]]
def aV:List AV:=[.c (.int .i64 5),.c (.int .u64 0),.c (Um []),.sl true true et9 [[.c (Um [110])]],.sl true true et26 [[.c (.int .i64 2),.c (.int .u64 0),.c (Um []),.c (.slice none 0 0),.c (.slice none 0 0)]]]
def aP:List AV:=aV++[.sl true true et57 [aHd]]
theorem PF{F:List (Value×AV)}:LeL F aN (dN.cs false):=.cons (.refl _) (.cons (.refl _) (.cons (.refl _) (.cons (.slL (fun h=>by cases h) rfl (EX.css_sz false [.mk 5 0 [] []]) (.cons (.refl _) (.cons (.refl _) (.cons (.refl _) (.cons (.nil false false _) .nil))))) .nil)))
theorem a1_le{F:List (Value×AV)}:LeL F a1 (d1.cs false):=.cons (.refl _) (.cons (.refl _) (.cons (.refl _) (.cons (.nil false false _) .nil)))
theorem QaF{F:List (Value×AV)}:LeL F aAdd (C6.cs false):=.cons (.refl _) (.cons (.refl _) (.cons (.refl _) (.cons (.slL (fun h=>by cases h) rfl (EX.css_sz false [dN,d1]) (LeL.append PF (LeL.append a1_le .nil))) .nil)))
theorem QaE{F:List (Value×AV)}:LeL F aLes (C5.cs false):=.cons (.refl _) (.cons (.refl _) (.cons (.refl _) (.cons (.slL (fun h=>by cases h) rfl (EX.css_sz false [d1,dN]) (LeL.append a1_le (LeL.append PF .nil))) .nil)))
theorem aHd_le{F:List (Value×AV)}:LeL F aHd (dHd.cs false):=.cons (.refl _) (.cons (.slL (fun h=>by cases h) rfl (SetT.css_sz false dHd.sets) (LeL.append (.cons (.refl _) QaF) .nil)) (.cons (.slL (fun h=>by cases h) rfl (EmT.css_sz false dHd.ems) (LeL.append (LeL.append QaE (.cons (.refl _) PF)) .nil)) .nil))
theorem aP_le{F:List (Value×AV)}:Le F (.agg aP) (.agg (dP.cs false)):=.aggL (.cons (.refl _) (.cons (.refl _) (.cons (.refl _) (.cons (.slL (fun h=>by cases h) rfl (KS [[110]]) (.cons (.refl _) .nil)) (.cons (.slL (fun h=>by cases h) rfl (V.css_sz false [.mk 2 0 [] [] []]) (.cons (.refl _) (.cons (.refl _) (.cons (.refl _) (.cons (.nil false false _) (.cons (.nil false false _) .nil)))))) (.cons (.slL (fun h=>by cases h) rfl (HdT.css_sz false [dHd]) (LeL.append aHd_le .nil)) .nil))))))
theorem Qap:Fn Tryz.prog 19 [] (.agg (dP.cs false)):=by
  refine AC.of_J Tryz.func19 rfl Tryz.ntmps19 rfl fun w0 A0=>?_
  refine Zs (JL.alloc z29 rfl rfl fun b0=>Zn (Zs (Zq rfl (QW.build (idx:=[0]) F5 PY rfl (.cons .const .nil) rfl rfl rfl rfl) (Zq rfl (QW.buildSlice (idx:=[0]) (xs:=[(EX.mk 5 0 [] []).raw (.slice none 0 0)]) NH el60 PY rfl (.cons (.tmp rfl) .nil) rfl rfl rfl rfl rfl rfl rfl rfl rfl) (Zq rfl (QW.build (idx:=[0,2,3]) F5 PY rfl (.cons .const (.cons .const (.cons (.tmp rfl) .nil))) rfl rfl rfl rfl) (JL.alloc PY rfl rfl fun b1=>?_))))))
  first|refine Qc 0 WS (.tmp rfl) rfl (.tmp rfl) (by first|rfl|assumption) rfl rfl rfl ?_|refine Qc 0 WS (.tmp rfl) rfl (.tmp rfl) (by first|rfl|assumption) rfl rfl rfl ?_|refine Qc 0 WS (.tmp rfl) rfl (.tmp rfl) (by first|rfl|assumption) rfl rfl rfl ?_|refine Qc 0 WS (.tmp rfl) rfl (.tmp rfl) (by first|rfl|assumption) rfl rfl rfl ?_|refine JL.store_box 0 WS (.tmp rfl) rfl (.tmp rfl) (by first|rfl|assumption) rfl rfl rfl rfl ?_|refine JL.store_box 0 WS (.tmp rfl) rfl (.tmp rfl) (by first|rfl|assumption) rfl rfl rfl rfl ?_
  refine Zn (Zs (Zq rfl (QW.build (idx:=[0,1]) F5 PY rfl (.cons .const (.cons .const .nil)) rfl rfl rfl rfl) (JL.alloc PY rfl rfl fun b2=>?_)))
  first|refine Qc 0 WS (.tmp rfl) rfl (.tmp rfl) (by first|rfl|assumption) rfl rfl rfl ?_|refine Qc 0 WS (.tmp rfl) rfl (.tmp rfl) (by first|rfl|assumption) rfl rfl rfl ?_|refine Qc 0 WS (.tmp rfl) rfl (.tmp rfl) (by first|rfl|assumption) rfl rfl rfl ?_|refine Qc 0 WS (.tmp rfl) rfl (.tmp rfl) (by first|rfl|assumption) rfl rfl rfl ?_|refine JL.store_box 0 WS (.tmp rfl) rfl (.tmp rfl) (by first|rfl|assumption) rfl rfl rfl rfl ?_|refine JL.store_box 0 WS (.tmp rfl) rfl (.tmp rfl) (by first|rfl|assumption) rfl rfl rfl rfl ?_
  refine Zn (Zs (Zq rfl (by first|exact Qf 1 WS (.tmp rfl) rfl rfl rfl|exact Qf 1 WS (.tmp rfl) rfl (Qm rfl rfl) rfl) ?_))
  refine Zq rfl (by first|exact Qf 0 WS (.tmp rfl) rfl rfl rfl|exact Qf 0 WS (.tmp rfl) rfl (Qm rfl rfl) rfl) ?_
  refine Zq rfl (QW.buildSlice (idx:=[0,1]) (xs:=[aN,a1]) NH el60 PY rfl (.cons (.tmp rfl) (.cons (.tmp rfl) .nil)) rfl rfl rfl rfl rfl rfl rfl rfl rfl) (Zq rfl (QW.build (idx:=[0,3]) F5 PY rfl (.cons .const (.cons (.tmp rfl) .nil)) rfl rfl rfl rfl) (Zq rfl (QW.build (idx:=[0,1]) pl62 z62 rfl (.cons .const (.cons (.tmp rfl) .nil)) rfl rfl rfl rfl) (Zq rfl (QW.buildSlice (idx:=[0]) (xs:=[.c (Um [110])::aAdd]) YP el62 z62 rfl (.cons (.tmp rfl) .nil) rfl rfl rfl rfl rfl rfl rfl rfl rfl) (Zq rfl (by first|exact Qf 0 WS (.tmp rfl) rfl rfl rfl|exact Qf 0 WS (.tmp rfl) rfl (Qm rfl rfl) rfl) ?_))))
  refine Zq rfl (by first|exact Qf 1 WS (.tmp rfl) rfl rfl rfl|exact Qf 1 WS (.tmp rfl) rfl (Qm rfl rfl) rfl) ?_
  refine Zq rfl (QW.buildSlice (idx:=[0,1]) (xs:=[a1,aN]) NH el60 PY rfl (.cons (.tmp rfl) (.cons (.tmp rfl) .nil)) rfl rfl rfl rfl rfl rfl rfl rfl rfl) (Zq rfl (QW.build (idx:=[0,3]) F5 PY rfl (.cons .const (.cons (.tmp rfl) .nil)) rfl rfl rfl rfl) (Zq rfl (by first|exact Qf 1 WS (.tmp rfl) rfl rfl rfl|exact Qf 1 WS (.tmp rfl) rfl (Qm rfl rfl) rfl) ?_))
  refine Zq rfl (QW.build (idx:=[0,1,2]) pl84 z84 rfl (.cons (.tmp rfl) (.cons .const (.cons (.tmp rfl) .nil))) rfl rfl rfl rfl) (Zq rfl (QW.buildSlice (idx:=[0]) (xs:=[aLes++.c (Um [116,101,108,108])::aN]) Ys el84 z84 rfl (.cons (.tmp rfl) .nil) rfl rfl rfl rfl rfl rfl rfl rfl rfl) (Zq rfl (QW.build (idx:=[0,1,2]) pl57 z57 rfl (.cons .const (.cons (.tmp rfl) (.cons (.tmp rfl) .nil))) rfl rfl rfl rfl) (JL.alloc z57 rfl rfl fun b3=>?_)))
  first|refine Qc 0 Xi (.tmp rfl) rfl (.tmp rfl) (by first|rfl|assumption) rfl rfl rfl ?_|refine Qc 0 Xi (.tmp rfl) rfl (.tmp rfl) (by first|rfl|assumption) rfl rfl rfl ?_|refine Qc 0 Xi (.tmp rfl) rfl (.tmp rfl) (by first|rfl|assumption) rfl rfl rfl ?_|refine Qc 0 Xi (.tmp rfl) rfl (.tmp rfl) (by first|rfl|assumption) rfl rfl rfl ?_|refine JL.store_box 0 Xi (.tmp rfl) rfl (.tmp rfl) (by first|rfl|assumption) rfl rfl rfl rfl ?_|refine JL.store_box 0 Xi (.tmp rfl) rfl (.tmp rfl) (by first|rfl|assumption) rfl rfl rfl rfl ?_
  refine Zn (Zs (Zq rfl (QW.buildSlice (idx:=[0]) (xs:=[[.c (Um [110])]]) UC el9 z9 rfl (.cons .const .nil) rfl rfl rfl rfl rfl rfl rfl rfl rfl) (Zq rfl (QW.build (idx:=[0]) Xt WQ rfl (.cons .const .nil) rfl rfl rfl rfl) (Zq rfl (QW.buildSlice (idx:=[0]) (xs:=[[.c (.int .i64 2),.c (.int .u64 0),.c (Um []),.c (.slice none 0 0),.c (.slice none 0 0)]]) QO K6 WQ rfl (.cons (.tmp rfl) .nil) rfl rfl rfl rfl rfl rfl rfl rfl rfl) (Zq rfl (QW.build (idx:=[0,3,4]) Xt WQ rfl (.cons .const (.cons (.tmp rfl) (.cons (.tmp rfl) .nil))) rfl rfl rfl rfl) (Zq rfl (by first|exact Qf 0 Xi (.tmp rfl) rfl rfl rfl|exact Qf 0 Xi (.tmp rfl) rfl (Qm rfl rfl) rfl) ?_))))))
  refine Zq rfl (QW.buildSlice (idx:=[0]) (xs:=[aHd]) W4 el57 z57 rfl (.cons (.tmp rfl) .nil) rfl rfl rfl rfl rfl rfl rfl rfl rfl) (Zq rfl (QW.build (idx:=[0,1]) pl29 z29 rfl (.cons (.tmp rfl) (.cons (.tmp rfl) .nil)) rfl rfl rfl rfl) ?_)
  first|refine Qc 3 XR (.tmp rfl) rfl (.tmp rfl) (by first|rfl|assumption) rfl rfl rfl ?_|refine JL.store_box 3 XR (.tmp rfl) rfl (.tmp rfl) (by first|rfl|assumption) rfl rfl rfl rfl ?_
  exact Zn (J.ret (Zr [.k,.k,.k,.k] (RetEv.one rfl (REv.cell 3 XR rfl rfl rfl rfl (aP_le))) rfl ⟨rfl,rfl⟩))
def upA:List AV:=[.c (Um [117,112]),.c (.int .i64 0),.c (.int .u64 0),.c (Um []),.c (.slice none 0 0),.c (.slice none 0 0)]
theorem up_le{F:List (Value×AV)}:Le F (.sl true true et47 [upA,upA]) (.sl false false MH (EvT.css false [E2,E2])):=
  .slL (fun h=>by cases h) rfl (EvT.css_sz false [E2,E2]) (.cons (.refl _) (.cons (.refl _) (.cons (.refl _) (.cons (.refl _) (.cons (.nil false false _) (.cons (.nil false false _) (.cons (.refl _) (.cons (.refl _) (.cons (.refl _) (.cons (.refl _) (.cons (.nil false false _) (.cons (.nil false false _) .nil))))))))))))
theorem up_wf:EvT.wfs [E2,E2]:=⟨by decide,fun e he=>by simp at he;subst he;exact⟨by show 2≤Qu;decide,Wv⟩⟩
theorem dP_wf:dP.wf:=by
  have hx5:(EX.mk 5 0 [] []).wf:=.mk (by decide) (by decide) (by decide) (by decide) (fun _ h=>by cases h)
  have hN:dN.wf:=.mk (by decide) (by decide) (by decide) (by decide) (fun x h=>by rw[List.mem_singleton.1 h];exact hx5)
  have h1:d1.wf:=.mk (by decide) (by decide) (by decide) (by decide) (fun _ h=>by cases h)
  have hA:C6.wf:=.mk (by decide) (by decide) (by decide) (by decide) (fun x h=>by simp at h;rcases h with rfl|rfl;exact hN;exact h1)
  have hL:C5.wf:=.mk (by decide) (by decide) (by decide) (by decide) (fun x h=>by simp at h;rcases h with rfl|rfl;exact h1;exact hN)
  have hv:(V.mk 2 0 [] [] []).wf:=.mk (by decide) (by decide) (by decide) (by decide) (by decide) (fun _ h=>by cases h) (fun _ h=>by cases h)
  refine⟨.mk (by decide) (by decide) (by decide) (by decide) (by decide) (fun x h=>by rw[List.mem_singleton.1 h];decide) (fun x h=>by rw[List.mem_singleton.1 h];exact hv),by decide,fun x h=>?_⟩
  rw[List.mem_singleton.1 h]
  exact⟨by decide,by decide,fun x h=>by rw[List.mem_singleton.1 h];exact⟨by decide,hA⟩,by decide,fun x h=>by rw[List.mem_singleton.1 h];exact⟨hL,by decide,hN⟩⟩
theorem XD(n:Int):Fn Tryz.prog 11 [.c (.int .i64 n)] (.c (.int .i64 n)):=by
  refine AC.of_J Tryz.func11 rfl Tryz.ntmps11 rfl fun w0 A0=>?_
  exact Zs (Zq rfl (QW.assign .const) (Zn (Zs (Zq rfl (QW.move (.tmp rfl)) (Zq rfl (QW.assign (.tmp rfl)) (Zn (J.ret (Zr [] (RetEv.one rfl (REv.tmp rfl lr)) rfl ⟨rfl,rfl⟩))))))))
theorem foldD{xs:List AV}(h:Fn Tryz.prog 8 xs (Hs (YJ dP [E2,E2]))):Fn Tryz.prog 8 xs (Hs (Hx 4611686018427387904,[⟨[116,101,108,108],.nu 4611686018427387904⟩],2,0)):=dfold▸h
theorem DS:Fn Tryz.prog 7 [] (.c (.bool true)):=by
  refine AC.of_J Tryz.func7 rfl Tryz.ntmps7 rfl fun w0 A0=>?_
  refine Zs (Zq rfl (QW.assign .const) (Zn (Zs (Zq rfl (QW.call gofn19 .nil (Qap)) (Zq rfl (QW.call Ey (.cons (.tmp rfl) .nil) (H7 (p:=dP) dP_wf)) (Zq rfl (QW.build (idx:=[0]) pl47 z47 rfl (.cons .const .nil) rfl rfl rfl rfl) (Zq rfl (QW.build (idx:=[0]) pl47 z47 rfl (.cons .const .nil) rfl rfl rfl rfl) (Zq rfl (QW.buildSlice (idx:=[0,1]) (xs:=[upA,upA]) Yg el47 z47 rfl (.cons (.tmp rfl) (.cons (.tmp rfl) .nil)) rfl rfl rfl rfl rfl rfl rfl rfl rfl) (Zq rfl (QW.call Ez (.cons (.tmp rfl) (.cons (Ev.le (.tmp rfl) (up_le)) .nil)) ((foldD (Ld (fr:=true) (fr2:=false) (c:=false) dP_wf up_wf (by decide))))) ?_)))))))))
  refine Zq rfl (QW.move (.tmp rfl)) (Zq rfl (QW.extract (.tmp rfl) rfl) (Zq rfl (QW.extract (.tmp rfl) rfl) (Zq rfl (QW.extract (.tmp rfl) rfl) (Zq rfl (QW.extract (.tmp rfl) rfl) (JL.alloc WQ rfl rfl fun b1=>?_)))))
  first|refine Qc 0 Qj (.tmp rfl) rfl (.tmp rfl) (by first|rfl|assumption) rfl rfl rfl ?_|refine Qc 0 Qj (.tmp rfl) rfl (.tmp rfl) (by first|rfl|assumption) rfl vl rfl ?_|refine Qc 0 Qj (.tmp rfl) rfl (.tmp rfl) (by first|rfl|assumption) vl rfl rfl ?_|refine Qc 0 Qj (.tmp rfl) rfl (.tmp rfl) (by first|rfl|assumption) vl vl rfl ?_|refine JL.store_box 0 Qj (.tmp rfl) rfl (.tmp rfl) (by first|rfl|assumption) rfl rfl rfl rfl ?_|refine JL.store_box 0 Qj (.tmp rfl) rfl (.tmp rfl) (by first|rfl|assumption) vl rfl rfl rfl ?_
  refine Zq rfl (QW.assign (.tmp rfl)) (Zq rfl (QW.assign (.tmp rfl)) (Zq rfl (QW.assign (.tmp rfl)) (Zn (Zs (Zq rfl (QW.move (.tmp rfl)) (Zq rfl (QW.call Hr (.cons (.tmp rfl) .nil) (XD _)) (Zq rfl (QW.eql (.tmp rfl) .const) (Zq rfl (QW.move (.tmp rfl)) (Zg rfl (fun hg=>(QW.move (.tmp rfl))) ?_)))))))))
  refine Zg rfl (fun hg=>(QW.eql (.when rfl hg) .const)) (Zq rfl (QW.pick_and (.tmp rfl) (.tmp rfl)) (Zq rfl (QW.move (.tmp rfl)) (Zg rfl (fun hg=>(Qa Ud (.tmp rfl) rfl)) (Zg rfl (fun hg=>(Qb 0 U4 (.when rfl hg) rfl rfl)) (Zg rfl (fun hg=>(by first|exact Qh QO (.when rfl hg) wl|exact Qh QO (.when rfl hg) (EvT.css_length _ _)|exact Qr QO (.when rfl hg)|exact QW.len_nil QO (.when rfl hg))) ?_)))))
  refine Zg rfl (fun hg=>(QW.eql (.when rfl hg) .const)) (Zq rfl (QW.pick_and (.tmp rfl) (.tmp rfl)) (Zq rfl (QW.move (.tmp rfl)) (Zg rfl (fun hg=>(Qa Ud (.tmp rfl) rfl)) (Zg rfl (fun hg=>(Qb 0 U4 (.when rfl hg) rfl rfl)) (Zg rfl (fun hg=>(Qi QO Qj rfl (.when rfl hg) .const (by first|rfl|omega|(simp;done)) (by rfl))) ?_)))))
  refine Zg rfl (fun hg=>(Qt Uu (.when rfl hg) rfl)) (Zg rfl (fun hg=>(Qq Wi (.when rfl hg) rfl)) (Zg rfl (fun hg=>(QW.eql (.when rfl hg) .const)) (Zq rfl (QW.pick_and (.tmp rfl) (.tmp rfl)) (Zq rfl (QW.move (.tmp rfl)) (Zg rfl (fun hg=>(QW.move (.tmp rfl))) (Zg rfl (fun hg=>(by first|exact Qh W3 (.when rfl hg) wl|exact Qh W3 (.when rfl hg) (EvT.css_length _ _)|exact Qr W3 (.when rfl hg)|exact QW.len_nil W3 (.when rfl hg))) ?_))))))
  refine Zg rfl (fun hg=>(QW.eql (.when rfl hg) .const)) (Zq rfl (QW.pick_and (.tmp rfl) (.tmp rfl)) (Zq rfl (QW.move (.tmp rfl)) (Zg rfl (fun hg=>(QW.move (.tmp rfl))) (Zg rfl (fun hg=>(Qi W3 TR rfl (.when rfl hg) .const (by first|rfl|omega|(simp;done)) (by rfl))) ?_))))
  exact Zg rfl (fun hg=>(Qt N9 (.when rfl hg) rfl)) (Zg rfl (fun hg=>(Qq U9 (.when rfl hg) rfl)) (Zg rfl (fun hg=>(KI (.when rfl hg) .const)) (Zq rfl (QW.pick_and (.tmp rfl) (.tmp rfl)) (Zq rfl (QW.assign (.tmp rfl)) (Zn (J.ret (Zr [.k] (RetEv.one rfl (REv.tmp rfl lr)) rfl ⟨WH (by first|decide|simp|(simp[Hx];done)|(trace_state;rfl)),rfl⟩)))))))

end
section
/- ReduceNone. -/
set_option maxRecDepth 10000
set_option maxHeartbeats 4000000
theorem Qag{c a0 a1 a2 a3 a4 a5:AV}{z:List AV}(hz:z.length=5):Ym ([(0,1),(1,5)].toArray[·]?) [a0,a1,a2,a3,a4,a5] [(0,[c]),(1,z)]=some (c::z):=ES hz

end
section
/- ReduceMay. -/
set_option maxRecDepth 10000
set_option maxHeartbeats 4000000
theorem Dc{s:Ui}(h:Wa s=true):1≤s.length∧s.length≤16:=by
  unfold Wa Kh at h
  cases s with
  |nil=>simp at h
  |cons a r=>simp at h⊢;omega

end
section
/- Events folded in two parts make what they make in one. -/
set_option maxRecDepth 10000
theorem q4{α β γ δ:Type}{a a':α}{b b':β}{c c':γ}{d d':δ}(h:(a,b,c,d)=(a',b',c',d')):a=a'∧b=b'∧c=c'∧d=d':=by cases h;exact⟨rfl,rfl,rfl,rfl⟩
theorem TV{p:PgT}{w:V}:W2 {p with init:=w}=W2 p:=rfl
theorem L0{p:PgT}{w:V}:∀{l:List EvT} {st:V} {out:List EvT} {i:Int},Uy {p with init:=w} st out l i=Uy p st out l i
  |[],_,_,_=>rfl
  |e::r,st,out,i=>by
    rw[Uy,Uy,TV]
    cases W2 p st e with
    |error c=>rfl
    |ok q=>obtain⟨v,m⟩:=q;exact L0
theorem Ps{p:PgT}{w:V}(hp:p.err=0)(hw:w.good)(hk:w.kind=5):PgT.err {p with init:=w}=0:=by
  obtain⟨h1,h2,h3,h4⟩:p.init.err=0∧p.init.kind=5∧¬16<p.hs.length∧(US (p.hs.map HdT.err)=0∧twiceB p p.hs 0=false):=by
    unfold PgT.err at hp
    split at hp
    · rename_i h;exact absurd hp h
    · rename_i h
      split at hp
      · cases hp
      · rename_i h2
        split at hp
        · cases hp
        · rename_i h3
          split at hp
          · rename_i h4;exact absurd hp h4
          · rename_i h4
            split at hp
            · cases hp
            · rename_i h5;exact⟨Decidable.not_not.1 h,Decidable.not_not.1 h2,h3,Decidable.not_not.1 h4,by simpa using h5⟩
  have ht:∀(l:List HdT) (i:Int),twiceB {p with init:=w} l i=twiceB p l i:=by
    intro l
    induction l with
    |nil=>intro i;rfl
    |cons h r ih=>intro i;rw[twiceB,twiceB,ih];rfl
  unfold PgT.err
  rw[if_neg (by simp[hw.err]),if_neg (by simp[hk]),if_neg h3,if_neg (by simp[h4.1]),ht,h4.2]
  rfl
theorem Y4{p:PgT}:∀{l:List EvT} {st:V} {out:List EvT} {i:Int} {v:V} {m:List EvT} {n c:Int},Uy p st [] l 0=(v,m,n,c)→Uy p st out l i=(v,out++m,i+n,c)
  |[],st,out,i,v,m,n,c,h=>by
    rw[Uy]at h⊢
    obtain⟨rfl,rfl,rfl,rfl⟩:=q4 h
    simp
  |e::r,st,out,i,v,m,n,c,h=>by
    rw[Uy]at h⊢
    cases hs:W2 p st e with
    |error d=>
      rw[hs]at h
      obtain⟨rfl,rfl,rfl,rfl⟩:=q4 h
      simp
    |ok q=>
      obtain⟨u,k⟩:=q
      rw[hs]at h
      simp only[List.nil_append]at h⊢
      obtain⟨⟨v',m',n',c'⟩,h1⟩:∃q,Uy p u [] r 0=q:=⟨_,rfl⟩
      rw[Y4 h1]at h
      rw[Y4 h1]
      obtain⟨rfl,rfl,rfl,rfl⟩:=q4 h
      simp only[List.append_assoc,Prod.mk.injEq,true_and,and_true]
      omega
theorem X5{p:PgT}(hw:p.wf)(hp:p.err=0):∀{l:List EvT} {st:V} {v:V} {m:List EvT} {n c:Int},(∀e∈l,e.wf)→st.good→st.kind=5→Uy p st [] l 0=(v,m,n,c)→
    v.good∧v.kind=5∧m.length≤8*l.length∧(∀x∈m,x.arg.good∧Wa x.name=true)∧(c=0→n=(l.length:Int))∧0≤n∧n≤(l.length:Int)
  |[],st,v,m,n,c,hl,hg,hk,h=>by
    rw[Uy]at h
    obtain⟨rfl,rfl,rfl,rfl⟩:=q4 h
    exact⟨hg,hk,by simp,(fun x hx=>by cases hx),(fun _=>rfl),by simp⟩
  |e::r,st,v,m,n,c,hl,hg,hk,h=>by
    rw[Uy]at h
    cases hs:W2 p st e with
    |error d=>
      rw[hs]at h
      have hd:=NE hp _ hs
      obtain⟨rfl,rfl,rfl,rfl⟩:=q4 h
      exact⟨hg,hk,by simp,(fun x hx=>by cases hx),(fun h=>absurd h hd),by simp;omega⟩
    |ok q=>
      obtain⟨u,k⟩:=q
      obtain⟨-,g1,g2,g3,g4⟩:=MQ hw hp hg.wf (hl e (by simp)) hs
      rw[hs]at h
      simp only[List.nil_append]at h
      obtain⟨⟨v',m',n',c'⟩,h1⟩:∃q,Uy p u [] r 0=q:=⟨_,rfl⟩
      obtain⟨k1,k2,k3,k4,k5,k6,k7⟩:=X5 hw hp (fun x hx=>hl x (by simp[hx])) g1 g2 h1
      rw[Y4 h1]at h
      obtain⟨rfl,rfl,rfl,rfl⟩:=q4 h
      refine⟨k1,k2,by simp only[List.length_append,List.length_cons];omega,fun x hx=>?_,(fun h0=>by rw[k5 h0];simp;omega),by simp;omega⟩
      rcases List.mem_append.1 hx with hx|hx
      · exact g4 x hx
      · exact k4 x hx
theorem CU{p:PgT}{a b:List EvT}{st v v2:V}{m m2:List EvT}{n n2 c c2:Int}(h1:Uy p st [] a 0=(v,m,n,c))(h2:Uy p v [] b 0=(v2,m2,n2,c2))(hn:∀st e d,W2 p st e=.error d→d≠0):
    Uy p st [] (a++b) 0=if c=0 then(v2,m++m2,n+n2,c2)else(v,m,n,c):=by
  induction a generalizing st v m n c with
  |nil=>
    rw[Uy]at h1
    obtain⟨rfl,rfl,rfl,rfl⟩:=q4 h1
    simp[h2]
  |cons e r ih=>
    rw[List.cons_append,Uy]
    rw[Uy]at h1
    cases hs:W2 p st e with
    |error d=>
      rw[hs]at h1
      have hd:=hn _ _ _ hs
      obtain⟨rfl,rfl,rfl,rfl⟩:=q4 h1
      simp[hd]
    |ok q=>
      obtain⟨u,k⟩:=q
      rw[hs]at h1
      simp only[List.nil_append]at h1⊢
      obtain⟨⟨v',m',n',c'⟩,h3⟩:∃q,Uy p u [] r 0=q:=⟨_,rfl⟩
      rw[Y4 h3]at h1
      obtain⟨rfl,rfl,rfl,rfl⟩:=q4 h1
      have h4:=ih h3 h2
      by_cases h0:c'=0
      · rw[if_pos h0]at h4⊢
        rw[Y4 h4]
        simp only[List.append_assoc,Prod.mk.injEq,true_and,and_true]
        omega
      · rw[if_neg h0]at h4⊢
        rw[Y4 h4]
theorem DF{m:List EvT}{n:Nat}(hm:m.length≤8*n)(hb:n*768≤Qu)(hg:∀x∈m,x.arg.good∧Wa x.name=true):EvT.wfs m:=
  ⟨by omega,fun x hx=>⟨by have:=Dc (hg x hx).2;unfold Qu;omega,(hg x hx).1.wf⟩⟩
theorem RN{p:PgT}{l:List EvT}{at_:Nat}(hw:p.wf)(hl:EvT.wfs l)(hb:l.length*768≤Qu)(hat:at_≤l.length){v w:V}{a b:List EvT}{n e m f:Int}(h1:YJ p l=(v,a,n,e))(h2:YJ p (l.take at_)=(w,b,m,f)):
    EvT.wfs a∧EvT.wfs b∧v.wf∧w.wf∧((¬p.err=0∨¬f=0)→v=w∧a=b∧n=m∧e=f)∧
    (p.err=0→f=0→∀x c k g,YJ {p with init:=w} (l.drop at_)=(x,c,k,g)→EvT.wfs c∧(b.length+c.length)*96≤Qu∧x.wf∧PgT.wf {p with init:=w}∧v=x∧a=b++c∧e=g∧n=(at_:Int)+k∧0≤k∧k≤(l.length:Int)):=by
  by_cases hp:p.err=0
  · have h1':Uy p p.init [] l 0=(v,a,n,e):=(if_neg (fun h=>h hp):YJ p l=_).symm.trans h1
    have h2':Uy p p.init [] (l.take at_) 0=(w,b,m,f):=(if_neg (fun h=>h hp):YJ p _=_).symm.trans h2
    obtain⟨hi,hk⟩:p.init.good∧p.init.kind=5:=by
      have:=PgT.ok_of hp
      exact⟨⟨hw.init,this.1⟩,this.2.1⟩
    obtain⟨g1,g2,g3,g4,g5,-,-⟩:=X5 hw hp hl.2 hi hk h1'
    obtain⟨k1,k2,k3,k4,k5,-,-⟩:=X5 hw hp (fun x hx=>hl.2 x (List.mem_of_mem_take hx)) hi hk h2'
    have hlt:(l.take at_).length=at_:=by simp;omega
    rw[hlt]at k3 k5
    obtain⟨⟨x,c,k,g⟩,h3⟩:∃q,Uy p w [] (l.drop at_) 0=q:=⟨_,rfl⟩
    have h4:=CU h2' h3 (fun st e d h=>NE hp d h)
    rw[List.take_append_drop,h1']at h4
    obtain⟨j1,j2,j3,j4,j5,j6,j7⟩:=X5 hw hp (fun x hx=>hl.2 x (List.mem_of_mem_drop hx)) k1 k2 h3
    have hld:(l.drop at_).length=l.length-at_:=by simp
    rw[hld]at j3 j5 j7
    refine⟨DF g3 hb g4,DF k3 (by omega) k4,g1.wf,k1.wf,fun h=>?_,fun _ hf x' c' k' g' h5=>?_⟩
    · have hf:¬f=0:=h.resolve_left (fun h=>h hp)
      rw[if_neg hf]at h4
      obtain⟨rfl,rfl,rfl,rfl⟩:=q4 h4
      exact⟨rfl,rfl,rfl,rfl⟩
    · have hpe:=Ps hp k1 k2
      have h6:Uy p w [] (l.drop at_) 0=(x',c',k',g'):=by
        rw[← L0 (w:=w)]
        exact(if_neg (fun h=>h hpe):YJ {p with init:=w} _=_).symm.trans h5
      rw[h3]at h6
      obtain⟨rfl,rfl,rfl,rfl⟩:=q4 h6
      rw[if_pos hf]at h4
      obtain⟨rfl,rfl,rfl,rfl⟩:=q4 h4
      exact⟨DF j3 (by omega) j4,by omega,j1.wf,⟨k1.wf,hw.hlen,hw.hs⟩,rfl,rfl,rfl,by rw[k5 hf],j6,by omega⟩
  · have h1':((V.nil,[],0,p.err):V×List EvT×Int×Int)=(v,a,n,e):=(if_pos hp:YJ p l=_).symm.trans h1
    have h2':((V.nil,[],0,p.err):V×List EvT×Int×Int)=(w,b,m,f):=(if_pos hp:YJ p _=_).symm.trans h2
    obtain⟨rfl,rfl,rfl,rfl⟩:=q4 h1'
    obtain⟨rfl,rfl,rfl,rfl⟩:=q4 h2'
    exact⟨H2,H2,Wv,Wv,fun _=>⟨rfl,rfl,rfl,rfl⟩,fun h=>absurd h hp⟩
theorem Ga{a:Int}{n:Nat}:∃k:Nat,k≤n∧(Int.tmod a (n+1)+n+1).tmod (n+1)=(k:Int):=by
  have h1:=Int.lt_tmod_of_pos a (b:=(n:Int)+1) (by omega)
  have h2:=Int.tmod_nonneg (a:=Int.tmod a (n+1)+n+1) ((n:Int)+1) (by omega)
  have h3:=Int.tmod_lt_of_pos (Int.tmod a (n+1)+n+1) (b:=(n:Int)+1) (by omega)
  exact⟨((Int.tmod a (n+1)+n+1).tmod (n+1)).toNat,by omega,by omega⟩

end
section
/- Walks: effects and items: may one be, lists of them, copies; the box in memory of its own. -/
set_option maxRecDepth 10000
set_option maxHeartbeats 4000000
theorem Kr{fr fr2 c c2:Bool}{a b:List EvT}(ha:EvT.wfs a)(hb:EvT.wfs b):Fn Tryz.prog 13 [.sl fr c MH (EvT.css fr a),.sl fr2 c2 MH (EvT.css fr2 b)] (.c (.bool (decide (a=b)))):=by
  have hal:=ha.len
  have hbl:=hb.len
  refine AC.of_J Tryz.func13 rfl Tryz.ntmps13 rfl fun w0 A0=>?_
  refine Zs (Zq rfl (QW.assign .const) (Zn (J.seq (Zs (Zm rfl (Zq rfl (by first|exact Qr W3 (.r rfl)|exact QW.len_nil W3 (.r rfl)) ?_))))))
  refine Zm rfl (Zq rfl (by first|exact Qr W3 (.r rfl)|exact QW.len_nil W3 (.r rfl)) ?_)
  refine Zq rfl (QW.neq (.r rfl) (.r rfl)) (Zn ?_)
  refine J.cond (.r rfl) (fun c1=>?_) (fun c1=>?_)
  · skip
    simp[EvT.css_length]at c1
    exact Zs (Zq rfl (QW.assign .const) (Zn (J.ret (thenQ.r (Zr [] (RetEv.one rfl (REv.tmp rfl lr)) rfl ⟨WH (by simp;intro e;subst e;exact c1 rfl),rfl⟩)))))
  have hl:a.length=b.length:=by simp[EvT.css_length]at c1;omega
  refine Zk (J.seq (Zs (Zq rfl (QW.assign .const) (Zn (J.block (Q0 (ι:=Nat) [0,1] (fun k=>[(5,.c (.int .i64 (k:Int)))]) (fun _ oo=>oo) (fun k=>k≤a.length∧a.take k=b.take k) (fun k=>a.length-k) 0 (⟨Nat.zero_le _,rfl⟩) (QK (.cons rfl lr (.cons rfl lr (.cons rfl lr .nil))) (Reown.refl _) (fun _ h=>by first|exact h|simp[h])) ?_))))))
  intro k ⟨hk,heqs⟩
  refine J.conv (by(try simp only[nl,Qk,Qz,QA,Qy,QR,AV.cellsOf,Qd,Qe,Nat.reduceAdd]);rfl) ?_
  refine J.seq (Zs (Zm rfl (Zm rfl (Zq rfl (by first|exact Qr W3 (.r rfl)|exact QW.len_nil W3 (.r rfl)) ?_))))
  refine Zq rfl (QW.lss (.r rfl) (.r rfl)) (Zn ?_)
  refine J.cond (.r rfl) (fun c2=>?_) (fun c2=>?_)
  · skip
    have hlt:k<a.length:=by simpa[EvT.css_length]using c2
    have hlt2:k<b.length:=by omega
    refine Zk (J.seq (J.block (J.seq (QY 22 Uc (by kernel_rfl) (by kernel_rfl) (by kernel_rfl) rfl ?_))))
    refine .cons [] rfl rfl rfl (.q rfl (QW.move (.r rfl))) ?_
    refine .cons [] rfl rfl rfl (.q rfl (QW.move (.r rfl))) ?_
    refine .cons [17,18] rfl rfl rfl (.q rfl (Qi W3 TR rfl (.r rfl) (.r rfl) (by first|rfl|omega|(simp;done)) (by first|exact EvT.css_getE _ hlt|exact EvT.css_getE _ hlt2))) ?_
    refine .cons [19] rfl rfl rfl (.q rfl (Qt N9 (.r rfl) rfl)) ?_
    refine .cons [20] rfl rfl rfl (.q rfl (Qq U9 (.r rfl) rfl)) ?_
    refine .cons [] rfl rfl rfl (.q rfl (QW.move (.r rfl))) ?_
    refine .cons [] rfl rfl rfl (.q rfl (QW.move (.r rfl))) ?_
    refine .cons [22,23] rfl rfl rfl (.q rfl (Qi W3 TR rfl (.r rfl) (.r rfl) (by first|rfl|omega|(simp;done)) (by first|exact EvT.css_getE _ hlt|exact EvT.css_getE _ hlt2))) ?_
    refine .cons [24] rfl rfl rfl (.q rfl (Qt N9 (.r rfl) rfl)) ?_
    refine .cons [25] rfl rfl rfl (.q rfl (Qq U9 (.r rfl) rfl)) ?_
    refine .cons [21,26] rfl rfl rfl (.q rfl (YK (.r rfl) (.r rfl))) ?_
    refine .cons [27] rfl rfl rfl (.q rfl (QW.move (.r rfl))) ?_
    refine .cons [28] rfl rfl rfl (.g rfl rfl rfl (fun hg=>(QW.move (.r rfl)))) ?_
    refine .cons [28] rfl rfl rfl (.g rfl rfl rfl (fun hg=>(QW.move (.r rfl)))) ?_
    refine .cons [29,30,28] rfl rfl rfl (.g rfl rfl rfl (fun hg=>(Qi W3 TR rfl (.when rfl hg) (.when rfl hg) (by first|rfl|omega|(simp;done)) (by first|exact EvT.css_getE _ hlt|exact EvT.css_getE _ hlt2)))) ?_
    refine .cons [31,28] rfl rfl rfl (.g rfl rfl rfl (fun hg=>(Qt Dz (.when rfl hg) rfl))) ?_
    refine .cons [32,28] rfl rfl rfl (.g rfl rfl rfl (fun hg=>(by first|exact Ql Qj (.when rfl hg) rfl rfl|exact Ql Qj (.when rfl hg) (QH vl rfl) vl))) ?_
    refine .cons [28] rfl rfl rfl (.g rfl rfl rfl (fun hg=>(QW.move (.r rfl)))) ?_
    refine .cons [28] rfl rfl rfl (.g rfl rfl rfl (fun hg=>(QW.move (.r rfl)))) ?_
    refine .cons [34,35,28] rfl rfl rfl (.g rfl rfl rfl (fun hg=>(Qi W3 TR rfl (.when rfl hg) (.when rfl hg) (by first|rfl|omega|(simp;done)) (by first|exact EvT.css_getE _ hlt|exact EvT.css_getE _ hlt2)))) ?_
    refine .cons [36,28] rfl rfl rfl (.g rfl rfl rfl (fun hg=>(Qt Dz (.when rfl hg) rfl))) ?_
    refine .cons [37,28] rfl rfl rfl (.g rfl rfl rfl (fun hg=>(by first|exact Ql Qj (.when rfl hg) rfl rfl|exact Ql Qj (.when rfl hg) (QH vl rfl) vl))) ?_
    refine .nil ?_
    refine Zg rfl (fun hg=>(QW.call N0 (.cons (.when rfl hg) (.cons (.when rfl hg) .nil)) (XU Vc.self Vc.self (ha.2 _ (List.getElem_mem _)).arg (hb.2 _ (List.getElem_mem _)).arg))) (Zg rfl (fun hg=>(QW.not (.when rfl hg))) (Zq rfl (QW.pick_or (.r rfl) (.r rfl)) (Zn ?_)))
    refine J.cond (.r rfl) (fun c3=>?_) (fun c3=>?_)
    · skip
      have hne:a[k]≠b[k]:=by
        intro e;rw[e]at c3;simp[Ye]at c3
      exact Zs (Zq rfl (QW.assign .const) (Zn (J.ret (blkQ.r (thenQ.r (thenQ.r (blkQ.r (thenQ.r (Zr [] (RetEv.one rfl (REv.tmp rfl lr)) rfl ⟨WH (by simp;intro e;subst e;exact hne rfl),rfl⟩)))))))))
    have heq:a[k]=b[k]:=by
      simp[DU]at c3
      cases hx:a[k];cases hy:b[k];rw[hx,hy]at c3;simpa using c3
    refine J.skip (blkQ.n (thenQ.n (Qg (Zm rfl (Zq rfl (QW.add (.r rfl) .const (by first|exact U5 (by first|rfl|omega|(simp;done)) (by omega)|exact WW (by omega)|rfl)) ?_)))))
    refine Za rfl (Zn ?_)
    exact⟨k+1,⟨hlt,(LO hl heqs hlt).2 heq⟩,by omega,QK (.cons rfl lr (.cons rfl lr (.cons rfl lr .nil))) (Reown.refl _) (fun _ h=>by first|exact h|simp[h])⟩
  have hge:a.length≤k:=by simpa[EvT.css_length]using c2
  exact J.exit (Qv (Qv (QM (thenQ.n (Zs (Zq rfl (QW.assign .const) (Zn (J.ret (Zr [] (RetEv.one rfl (REv.tmp rfl lr)) rfl ⟨WH (by simp;rw[List.take_of_length_le hge,List.take_of_length_le (by omega)]at heqs;exact heqs),rfl⟩)))))))))

end
section
/- ReduceParts. -/
set_option maxRecDepth 10000
set_option maxHeartbeats 4000000
theorem pg_set{fr:Bool}{p:PgT}{w:V}:QT (p.cs fr) 0 (w.cs fr)=PgT.cs fr {p with init:=w}:=by
  obtain⟨⟨a,b,c,d,f⟩,hs⟩:=p;obtain⟨a2,b2,c2,d2,f2⟩:=w;rfl
theorem F6{F:List (Value×AV)}{b c:List EvT}:LeL F (EvT.css true b++EvT.css false c).flatten (EvT.css false (b++c)).flatten:=by
  rw[EvT.css_append,List.flatten_append,List.flatten_append]
  exact LeL.append (EvT.css_le true false (fun h=>by cases h) b) (.refl _)
def EvArr(l:List EvT):AV→List Own→Prop:=fun x o=>∃v,x=.c v∧o=[.arr v MH (EvT.css true l)]
theorem H3{fr c:Bool}{l:List EvT}(hl:EvT.wfs l):AC Tryz.prog 14 [] [.sl fr c MH (EvT.css fr l)] (Ww (EvArr l)):=by
  have hlen:=hl.len
  have hl1:=hl.1
  refine AC.of_J Tryz.func14 rfl Tryz.ntmps14 rfl fun w0 A0=>?_
  refine Zs (Zq rfl (QW.assign .const) (Zn (Zs (Zq rfl (QW.assign .const) (Zn (J.seq (Zs (Zq rfl (QW.assign .const) (Zn ?_)))))))))
  refine J.block (J.reown (Uf MH _) (Q0 (ι:=Nat×Value) [0,2] (fun⟨j,v⟩=>[(4,.c (.int .i64 (j:Int))),(3,.c v)]) (fun⟨j,v⟩ oo=>List.set oo 0 (.arr v MH (EvT.css true (l.take j)))) (fun⟨j,v⟩=>j≤l.length) (fun⟨j,v⟩=>l.length-j) ⟨0,.slice none 0 0⟩ (Nat.zero_le _) (QK (.cons rfl lr (.cons rfl lr (.cons rfl lr (.cons rfl lr .nil)))) (Reown.refl _) (fun _ h=>by first|exact h|simp[h])) ?_))
  intro⟨j,v⟩ hj
  refine J.conv (by(try simp only[nl,Qk,Qz,QA,Qy,QR,AV.cellsOf,Qd,Qe,Nat.reduceAdd]);rfl) ?_
  refine J.seq (Zs (Zm rfl (Zm rfl (Zq rfl (by first|exact Qh W3 (.r rfl) wl|exact Qh W3 (.r rfl) (EvT.css_length _ _)|exact Qh W3 (.r rfl) (HdT.css_length _ _)|exact Qr W3 (.r rfl)|exact QW.len_nil W3 (.r rfl)) ?_))))
  refine Zq rfl (QW.lss (.r rfl) (.r rfl)) (Zn ?_)
  refine J.cond (.r rfl) (fun c1=>?_) (fun c1=>?_)
  · skip
    have hlt:j<l.length:=by simpa[EvT.css_length]using c1
    refine Zk (J.seq (J.block (HG [3] Uc (Zf 0 [] rfl (fun _=>QW.move (.r rfl)) (Zf 1 [] rfl (fun _=>QW.move (.r rfl)) (Zf 2 [] rfl (fun _=>QW.move (.r rfl)) (Zf 3 [12,13] rfl (fun _=>Qi W3 TR rfl (.r rfl) (.r rfl) (by first|rfl|omega|(simp;done)) (by exact EvT.css_getE _ hlt)) ?_)))))))
    refine Zf 4 [14] rfl (fun _=>Qt N9 (.r rfl) rfl) (Zf 5 [15] rfl (fun _=>Qq U9 (.r rfl) rfl) (Zf 6 [] rfl (fun _=>QW.move (.r rfl)) (Zf 7 [] rfl (fun _=>QW.move (.r rfl)) (Zf 8 [17,18] rfl (fun _=>Qi W3 TR rfl (.r rfl) (.r rfl) (by first|rfl|omega|(simp;done)) (by exact EvT.css_getE _ hlt)) ?_))))
    refine Zf 9 [19] rfl (fun _=>Qt Dz (.r rfl) rfl) (Zf 10 [20] rfl (fun _=>by first|exact Ql Qj (.r rfl) rfl rfl|exact Ql Qj (.r rfl) (QH vl rfl) vl) ?_)
    refine Zf 11 [21] rfl (fun _=>QW.call Dv (.cons (.r rfl) .nil) (G2 Vc.self (hl.2 _ (List.getElem_mem hlt)).arg)) (Zf 12 [16,22] rfl (fun _=>QW.build (idx:=[0,1]) pl51 z51 rfl (.cons (.r rfl) (.cons (.r rfl) .nil)) rfl rfl rfl (by exact Qag vl)) ?_)
    refine Zf 13 [23] rfl (fun _=>QW.buildSlice (idx:=[0]) (xs:=[EvT.cs true (l[j])]) (zs:=[AV.agg (EvT.cs true (l[j]))]) W3 C1 z51 rfl (.cons (.r rfl) .nil) rfl rfl rfl rfl rfl (by exact KW (EvT.cs_length _ _)) rfl (HA (EvT.cs_length _ _)) rfl) ?_
    refine JX.one 14 [true,true,true,true,true,true,true,true,true,true,true,true,true,true] rfl (by kernel_rfl) (by kernel_rfl) rfl rfl (by kernel_rfl) rfl fun bs14_ pe_ ex_=>?_
    refine JL.conv (by(try simp only[Ua,Uj,Q5,QS,Flt.val,Flt.bx,nx,nl,Qk,Qz,QA,Qy,QR,AV.cellsOf,Qd,Qe,Nat.reduceAdd]);rfl) ?_
    refine JL.append 0 W3 C1 rfl (.r rfl) rfl (UL W3 (.r rfl)) (by rw[EvT.css_length,List.length_take];show(_+1)*96≤_;exact Nat.le_trans (Nat.mul_le_mul_right 96 (by omega)) hl1) rfl fun v25=>?_
    refine JL.nil ?_
    refine thenQ.n ⟨[_],_,rfl,rfl,rfl,rfl,rfl,QJ 1 rfl,⟨rfl,rfl⟩,trivial,?_⟩
    refine JX.conv (S':=[14,13,12,11,10,9,8,7,6,5,4,3,2,1,0]) rfl (by(try simp only[QS]);rfl) (by(try simp only[Ua,Uj,Q5,QS,Flt.val,Flt.bx,nx,nl,Qk,Qz,QA,Qy,QR,AV.cellsOf,Qd,Qe,Nat.reduceAdd]);rfl) ?_
    refine JX.last 15 rfl (by kernel_rfl) (by kernel_rfl) rfl rfl (by kernel_rfl) (by kernel_rfl) fun bs_=>?_
    refine JL.conv (by(try simp only[Ua,Uj,Q5,QS,Flt.val,Flt.bx,nx,nl,Qk,Qz,QA,Qy,QR,AV.cellsOf,Qd,Qe,Nat.reduceAdd]);rfl) ?_
    refine Za rfl (Zn (blkQ.n (thenQ.n (Qg (Zm rfl (Zq rfl (QW.add (.r rfl) .const (by first|exact U5 (by first|rfl|omega|(simp;done)) (by omega)|exact WW (by omega)|rfl)) ?_))))))
    refine Za rfl (Zn ?_)
    rw[show EvT.css true (l.take j)++[(l[j]).cs true]=EvT.css true (l.take (j+1)) by rw[List.take_succ_eq_append_getElem hlt,EvT.css_append];rfl]
    exact⟨⟨j+1,v25⟩,hlt,by show l.length-(j+1)<l.length-j;omega,QK (.cons rfl lr (.cons rfl lr (.cons rfl lr (.cons rfl lr .nil)))) (Reown.refl _) (fun _ h=>by first|exact h|simp[h])⟩
  have hge:l.length≤j:=by simpa[EvT.css_length]using c1
  refine J.exit (Qv (Qv (QM (thenQ.n (Zs (Zm rfl (Za rfl (Zn (J.ret ?_)))))))))
  obtain rfl:j=l.length:=by omega
  rw[List.take_length]
  exact Zr [.p] (RetEv.one rfl (REv.tmp rfl lr)) rfl ⟨_,rfl,_,rfl,rfl⟩
theorem LF{p:PgT}{l:List EvT}{a0:Int}(hw:p.wf)(hl:EvT.wfs l)(hb:l.length*768≤Qu)(ha: -9223372036854775808≤a0∧a0≤9223372036854775807):Fn Tryz.prog 3 [.agg (p.cs false),.sl false false MH (EvT.css false l),.c (.int .i64 a0)] (.c (.bool true)):=by
  have hlen:=hl.len
  obtain⟨at_,hat,hke⟩:=Ga (a:=a0) (n:=l.length)
  have ht1:=Int.lt_tmod_of_pos a0 (b:=(l.length:Int)+1) (by omega)
  have ht2:=Int.tmod_lt_of_pos a0 (b:=(l.length:Int)+1) (by omega)
  obtain⟨⟨v,a,n,e⟩,hF1⟩:∃q,YJ p l=q:=⟨_,rfl⟩
  obtain⟨⟨w,b,m,f⟩,hF2⟩:∃q,YJ p (l.take at_)=q:=⟨_,rfl⟩
  obtain⟨hwa,hwb,hwv,hww,hbad,hgood⟩:=RN hw hl hb hat hF1 hF2
  refine AC.of_J Tryz.func3 rfl Tryz.ntmps3 rfl fun w0 A0=>?_
  refine Zs (Qp (.r rfl) rfl fun b3=>Zq rfl (QW.assign .const) (Zn (J.seq (Zs (Zq rfl (QW.call gofn7 .nil (DS)) (Zq rfl (QW.not (.r rfl)) (Zn ?_)))))))
  refine J.cond (.r rfl) (fun c1=>?_) (fun c1=>?_)
  · skip
    exact absurd c1 (by simp)
    --closed
  skip
  refine Zk (Zs (Zm rfl (Zm rfl (Zq rfl (by first|exact Qh Yg (.r rfl) wl|exact Qh Yg (.r rfl) (EvT.css_length _ _)|exact Qh Yg (.r rfl) (HdT.css_length _ _)|exact Qr Yg (.r rfl)|exact QW.len_nil Yg (.r rfl)) ?_))))
  refine Zq rfl (QW.add (.r rfl) .const (by first|exact U5 (by first|rfl|omega|(simp;done)) (by omega)|exact WW (by omega)|rfl)) ?_
  refine Zq rfl (QW.rem (.r rfl) (.r rfl) (by first|decide|omega) rfl) ?_
  refine Zm rfl (Zq rfl (by first|exact Qh Yg (.r rfl) wl|exact Qh Yg (.r rfl) (EvT.css_length _ _)|exact Qh Yg (.r rfl) (HdT.css_length _ _)|exact Qr Yg (.r rfl)|exact QW.len_nil Yg (.r rfl)) ?_)
  refine Zq rfl (QW.add (.r rfl) (.r rfl) (by first|exact U5 (by first|rfl|omega|(simp;done)) (by omega)|exact WW (by omega)|rfl)) ?_
  refine Zq rfl (QW.add (.r rfl) .const (by first|exact U5 (by first|rfl|omega|(simp;done)) (by omega)|exact WW (by omega)|rfl)) ?_
  refine Zm rfl (Zq rfl (by first|exact Qh Yg (.r rfl) wl|exact Qh Yg (.r rfl) (EvT.css_length _ _)|exact Qh Yg (.r rfl) (HdT.css_length _ _)|exact Qr Yg (.r rfl)|exact QW.len_nil Yg (.r rfl)) ?_)
  refine Zq rfl (QW.add (.r rfl) .const (by first|exact U5 (by first|rfl|omega|(simp;done)) (by omega)|exact WW (by omega)|rfl)) ?_
  refine Zq rfl (QW.rem (.r rfl) (.r rfl) (by first|decide|omega) rfl) ?_
  refine Za rfl (Zn (J.seq ?_))
  rw[hke]
  refine Qg (Zq rfl (by first|exact Qf 0 XR (.r rfl) rfl rfl rfl|exact Qf 0 XR (.r rfl) rfl (Qm (PgT.cs_length _ _) rfl) (PgT.cs_length _ _)) ?_)
  refine Zq rfl (QW.call Ey (.cons (.r rfl) .nil) (H7 hw)) (Zm rfl (Zq rfl (QW.call Ez (.cons (.r rfl) (.cons (.r rfl) .nil)) ((hF1▸Ld (fr:=true) (fr2:=false) (c:=false) hw hl hb))) (Zm rfl (Zx rfl (Zx rfl (Zx rfl (Zx rfl (JL.alloc WQ rfl rfl fun b7=>?_))))))))
  first|refine Qc 0 Qj (.r rfl) rfl (.r rfl) (by first|rfl|assumption) rfl rfl rfl ?_|refine Qc 0 Qj (.r rfl) rfl (.r rfl) (by first|rfl|assumption) rfl vl rfl ?_|refine Qc 0 Qj (.r rfl) rfl (.r rfl) (by first|rfl|assumption) vl rfl rfl ?_|refine Qc 0 Qj (.r rfl) rfl (.r rfl) (by first|rfl|assumption) vl vl rfl ?_|refine JL.store_box 0 Qj (.r rfl) rfl (.r rfl) (by first|rfl|assumption) rfl rfl rfl rfl ?_|refine JL.store_box 0 Qj (.r rfl) rfl (.r rfl) (by first|rfl|assumption) vl rfl rfl rfl ?_
  refine Za rfl (Za rfl (Za rfl (Zn (J.seq (QU Uc (Zo 0 1 [] rfl (fun _ ho_=>by first|exact Qf 1 XR (.r rfl) ho_ rfl rfl|exact Qf 1 XR (.r rfl) ho_ (Qm (PgT.cs_length _ _) rfl) (PgT.cs_length _ _)) ?_))))))
  refine Zf 1 [45] rfl (fun _=>QW.call Ey (.cons (.r rfl) .nil) (H7 hw)) (Zf 2 [] rfl (fun _=>QW.move (.r rfl)) (Zf 3 [] rfl (fun _=>QW.move (.r rfl)) (Zf 4 [47,48] rfl (fun _=>DY Yg He rfl (.r rfl) (.r rfl) (by first|rfl|omega|(simp;done)) (by rw[EvT.css_length];exact hat)) ?_)))
  rw[← EvT.css_take]
  refine Zf 5 [46,49] rfl (fun _=>QW.call Ez (.cons (.r rfl) (.cons (.r rfl) .nil)) ((hF2▸Ld (fr:=true) (fr2:=false) (c:=false) hw (hl.take at_) (by rw[List.length_take];omega)))) ?_
  refine Zf 6 [50] rfl (fun _=>QW.move (.r rfl)) (Zf 7 [44] rfl (fun _=>QW.extract (.r rfl) rfl) (Zf 8 [44] rfl (fun _=>QW.extract (.r rfl) rfl) (Zf 9 [44] rfl (fun _=>QW.extract (.r rfl) rfl) (Zf 10 [44] rfl (fun _=>QW.extract (.r rfl) rfl) (JX.a 11 rfl (AllocOp.mk WQ rfl) rfl rfl rfl rfl rfl (JX.one 12 [true,false,false,false,true,true,true,true,true,true,true,true] rfl (by kernel_rfl) (by kernel_rfl) rfl rfl (by kernel_rfl) rfl fun bs12_ pe_ ex_=>?_))))))
  refine JL.conv (by(try simp only[Ua,Uj,Q5,QS,Flt.val,Flt.bx,nx,nl,Qk,Qz,QA,Qy,QR,AV.cellsOf,Qd,Qe,Nat.reduceAdd]);rfl) ?_
  first|refine Qc 2 Qj (.r rfl) rfl (.r rfl) (by first|rfl|assumption) rfl rfl rfl ?_|refine Qc 2 Qj (.r rfl) rfl (.r rfl) (by first|rfl|assumption) rfl vl rfl ?_|refine Qc 2 Qj (.r rfl) rfl (.r rfl) (by first|rfl|assumption) vl rfl rfl ?_|refine Qc 2 Qj (.r rfl) rfl (.r rfl) (by first|rfl|assumption) vl vl rfl ?_|refine JL.store_box 2 Qj (.r rfl) rfl (.r rfl) (by first|rfl|assumption) rfl rfl rfl rfl ?_|refine JL.store_box 2 Qj (.r rfl) rfl (.r rfl) (by first|rfl|assumption) vl rfl rfl rfl ?_
  refine JL.nil ?_
  refine thenQ.n ⟨[],_,rfl,rfl,rfl,rfl,rfl,QJ 3 rfl,trivial,⟨trivial,⟨trivial,⟨trivial,trivial⟩⟩⟩,?_⟩
  refine JX.conv (S':=[12,11,7,6,5,4,3,2,1,0]) rfl (by(try simp only[QS]);rfl) (by(try simp only[Ua,Uj,Q5,QS,Flt.val,Flt.bx,nx,nl,Qk,Qz,QA,Qy,QR,AV.cellsOf,Qd,Qe,Nat.reduceAdd]);rfl) ?_
  refine Zf 13 [52] rfl (fun _=>QW.assign (.r rfl)) (Zf 14 [53] rfl (fun _=>QW.assign (.r rfl)) (Zf 15 [54] rfl (fun _=>QW.assign (.r rfl)) (JX.fin (by kernel_rfl) (by kernel_rfl) fun bs_=>?_)))
  refine QX.conv (by(try simp only[Ua,Uj,Q5,QS,Flt.val,Flt.bx,nx,nl,Qk,Qz,QA,Qy,QR,AV.cellsOf,Qd,Qe,Nat.reduceAdd]);rfl) ?_
  refine thenQ.n (J.seq (Zs (Zq rfl (by first|exact Qf 1 XR (.r rfl) rfl rfl rfl|exact Qf 1 XR (.r rfl) rfl (Qm (PgT.cs_length _ _) rfl) (PgT.cs_length _ _)) ?_)))
  refine Zq rfl (QW.call gofn10 (.cons (.r rfl) .nil) (T2 hw)) (Zq rfl (QW.neq (.r rfl) .const) (Zm rfl (Zg rfl (fun hg=>(QW.move (.r rfl))) (Zg rfl (fun hg=>(QW.call Hr (.cons (.when rfl hg) .nil) (XD _))) (Zg rfl (fun hg=>(QW.neq (.when rfl hg) .const)) (Zq rfl (QW.pick_or (.r rfl) (.r rfl)) (Zn ?_)))))))
  refine J.cond (.r rfl) (fun c2=>?_) (fun c2=>?_)
  · skip
    have hor:¬p.err=0∨¬f=0:=by simpa using c2
    obtain⟨rfl,rfl,rfl,rfl⟩:=hbad hor
    refine Zs (Zm rfl (Zq rfl (QW.call Hr (.cons (.r rfl) .nil) (XD _)) (Zm rfl (Zq rfl (QW.call Hr (.cons (.r rfl) .nil) (XD _)) (Zq rfl (QW.eql (.r rfl) (.r rfl)) (Zm rfl (Zg rfl (fun hg=>(QW.move (.r rfl))) (Zg rfl (fun hg=>(QW.move (.r rfl))) (Zg rfl (fun hg=>(QW.eql (.when rfl hg) (.when rfl hg))) ?_)))))))))
    refine Zq rfl (QW.pick_and (.r rfl) (.r rfl)) (Zm rfl (Zg rfl (fun hg=>(by first|exact Qf 0 Qj (.r rfl) rfl rfl rfl|exact Qf 0 Qj (.r rfl) rfl (Qm vl rfl) vl)) ?_))
    refine Zg rfl (fun hg=>(by first|exact Qf 2 Qj (.r rfl) rfl rfl rfl|exact Qf 2 Qj (.r rfl) rfl (Qm vl rfl) vl)) ?_
    refine Zg rfl (fun hg=>(QW.call N0 (.cons (.when rfl hg) (.cons (.when rfl hg) .nil)) (XU Vc.self Vc.self hwv hww))) (Zq rfl (QW.pick_and (.r rfl) (.r rfl)) (Zm rfl (Zg rfl (fun hg=>(QW.move (.r rfl))) (Zg rfl (fun hg=>(QW.move (.r rfl))) (Zg rfl (fun hg=>(QW.call BV (.cons (.when rfl hg) (.cons (.when rfl hg) .nil)) (Kr hwa hwb))) (Zq rfl (QW.pick_and (.r rfl) (.r rfl)) (Za rfl (Zn (J.ret ?_)))))))))
    exact thenQ.r (Zr [.k,.k,.k] (RetEv.one rfl (REv.tmp rfl lr)) rfl ⟨WH (by simp[Ye]),rfl⟩)
  obtain⟨hpe,hf0⟩:p.err=0∧f=0:=by simpa using c2
  obtain⟨⟨x,c,k,g⟩,hF3⟩:∃q,YJ {p with init:=w} (l.drop at_)=q:=⟨_,rfl⟩
  obtain⟨hwc,hbc,hxw,hqw,rfl,rfl,rfl,rfl,hk0,hk1⟩:=hgood hpe hf0 x c k g hF3
  have hwbc:=hwa
  refine Zk (Zs (Zq rfl (by first|exact Qf 1 XR (.r rfl) rfl rfl rfl|exact Qf 1 XR (.r rfl) rfl (Qm (PgT.cs_length _ _) rfl) (PgT.cs_length _ _)) ?_))
  refine JL.alloc z29 rfl rfl fun b15=>?_
  first|refine Qc 0 XR (.r rfl) rfl (.r rfl) (by first|rfl|assumption) rfl rfl rfl ?_|refine Qc 0 XR (.r rfl) rfl (.r rfl) (by first|rfl|assumption) rfl (PgT.cs_length _ _) rfl ?_|refine Qc 0 XR (.r rfl) rfl (.r rfl) (by first|rfl|assumption) (PgT.cs_length _ _) rfl rfl ?_|refine Qc 0 XR (.r rfl) rfl (.r rfl) (by first|rfl|assumption) (PgT.cs_length _ _) (PgT.cs_length _ _) rfl ?_|refine JL.store_box 0 XR (.r rfl) rfl (.r rfl) (by first|rfl|assumption) rfl rfl rfl rfl ?_|refine JL.store_box 0 XR (.r rfl) rfl (.r rfl) (by first|rfl|assumption) (PgT.cs_length _ _) rfl rfl rfl ?_
  refine Zn (Zs (Zq rfl (by first|exact Qf 3 Qj (.r rfl) rfl rfl rfl|exact Qf 3 Qj (.r rfl) rfl (Qm vl rfl) vl) ?_))
  refine Zd Ra rfl (JL.store_box 0 Qj (.r rfl) rfl (.r rfl) rfl vl (by show Nat.ble _ (PgT.cs false p).length=true;rw[PgT.cs_length];rfl) pg_set rfl ?_)
  refine Zn (J.seq (QU Uc (Zo 0 0 [] rfl (fun _ ho_=>by first|exact Qf 0 XR (.r rfl) ho_ rfl rfl|exact Qf 0 XR (.r rfl) ho_ (Qm (PgT.cs_length _ _) rfl) (PgT.cs_length _ _)) ?_)))
  refine Zf 1 [87] rfl (fun _=>QW.call Ey (.cons (.r rfl) .nil) (H7 hqw)) (Zf 2 [] rfl (fun _=>QW.move (.r rfl)) (Zf 3 [] rfl (fun _=>QW.move (.r rfl)) (Zf 4 [89,90] rfl (fun _=>Mp Yg He rfl (.r rfl) (.r rfl) (by first|rfl|omega|(simp;done)) (by rw[EvT.css_length];exact hat)) ?_)))
  rw[← Rr]
  refine Zf 5 [88,91] rfl (fun _=>QW.call Ez (.cons (.r rfl) (.cons (.r rfl) .nil)) ((hF3▸Ld (fr:=true) (fr2:=false) (c:=false) hqw (hl.drop at_) (by rw[List.length_drop];omega)))) ?_
  refine Zf 6 [92] rfl (fun _=>QW.move (.r rfl)) (Zf 7 [86] rfl (fun _=>QW.extract (.r rfl) rfl) (Zf 8 [86] rfl (fun _=>QW.extract (.r rfl) rfl) (Zf 9 [86] rfl (fun _=>QW.extract (.r rfl) rfl) (Zf 10 [86] rfl (fun _=>QW.extract (.r rfl) rfl) (JX.a 11 rfl (AllocOp.mk WQ rfl) rfl rfl rfl rfl rfl (JX.one 12 [true,false,false,false,true,true,true,true,true,true,true,true] rfl (by kernel_rfl) (by kernel_rfl) rfl rfl (by kernel_rfl) rfl fun bs12_ pe_ ex_=>?_))))))
  refine JL.conv (by(try simp only[Ua,Uj,Q5,QS,Flt.val,Flt.bx,nx,nl,Qk,Qz,QA,Qy,QR,AV.cellsOf,Qd,Qe,Nat.reduceAdd]);rfl) ?_
  first|refine Qc 4 Qj (.r rfl) rfl (.r rfl) (by first|rfl|assumption) rfl rfl rfl ?_|refine Qc 4 Qj (.r rfl) rfl (.r rfl) (by first|rfl|assumption) rfl vl rfl ?_|refine Qc 4 Qj (.r rfl) rfl (.r rfl) (by first|rfl|assumption) vl rfl rfl ?_|refine Qc 4 Qj (.r rfl) rfl (.r rfl) (by first|rfl|assumption) vl vl rfl ?_|refine JL.store_box 4 Qj (.r rfl) rfl (.r rfl) (by first|rfl|assumption) rfl rfl rfl rfl ?_|refine JL.store_box 4 Qj (.r rfl) rfl (.r rfl) (by first|rfl|assumption) vl rfl rfl rfl ?_
  refine JL.nil ?_
  refine thenQ.n ⟨[],_,rfl,rfl,rfl,rfl,rfl,QJ 5 rfl,trivial,⟨trivial,⟨trivial,⟨trivial,trivial⟩⟩⟩,?_⟩
  refine JX.conv (S':=[12,11,7,6,5,4,3,2,1,0]) rfl (by(try simp only[QS]);rfl) (by(try simp only[Ua,Uj,Q5,QS,Flt.val,Flt.bx,nx,nl,Qk,Qz,QA,Qy,QR,AV.cellsOf,Qd,Qe,Nat.reduceAdd]);rfl) ?_
  refine Zf 13 [94] rfl (fun _=>QW.assign (.r rfl)) (Zf 14 [95] rfl (fun _=>QW.assign (.r rfl)) (Zf 15 [96] rfl (fun _=>QW.assign (.r rfl)) (JX.fin (by kernel_rfl) (by kernel_rfl) fun bs_=>?_)))
  refine QX.conv (by(try simp only[Ua,Uj,Q5,QS,Flt.val,Flt.bx,nx,nl,Qk,Qz,QA,Qy,QR,AV.cellsOf,Qd,Qe,Nat.reduceAdd]);rfl) ?_
  refine thenQ.n (Zs (Zm rfl (Zq rfl (QW.call Hr (.cons (.r rfl) .nil) (XD _)) (Zm rfl (Zq rfl (QW.call Hr (.cons (.r rfl) .nil) (XD _)) (Zq rfl (QW.eql (.r rfl) (.r rfl)) (Zm rfl (Zg rfl (fun hg=>(QW.move (.r rfl))) (Zg rfl (fun hg=>(QW.move (.r rfl))) ?_)))))))))
  refine Zg rfl (fun hg=>(QW.move (.r rfl))) (Zg rfl (fun hg=>(QW.add (.when rfl hg) (.when rfl hg) (by first|exact U5 (by first|rfl|omega|(simp;done)) (by omega)|exact WW (by omega)|rfl))) ?_)
  refine Zg rfl (fun hg=>(QW.eql (.when rfl hg) (.when rfl hg))) (Zq rfl (QW.pick_and (.r rfl) (.r rfl)) (Zm rfl (Zg rfl (fun hg=>(by first|exact Qf 1 Qj (.r rfl) rfl rfl rfl|exact Qf 1 Qj (.r rfl) rfl (Qm vl rfl) vl)) ?_)))
  refine Zg rfl (fun hg=>(by first|exact Qf 4 Qj (.r rfl) rfl rfl rfl|exact Qf 4 Qj (.r rfl) rfl (Qm vl rfl) vl)) ?_
  refine Zg rfl (fun hg=>(QW.call N0 (.cons (.when rfl hg) (.cons (.when rfl hg) .nil)) (XU Vc.self Vc.self hxw hxw))) (Zq rfl (QW.pick_and (.r rfl) (.r rfl)) (Zm rfl (JL.conv (by(simp only[Ye,decide_true,beq_self_eq_true,Bool.and_self,Bool.and_true,Bool.true_and]);rfl) ?_)))
  refine U2 rfl rfl rfl (Zm rfl (U2 rfl rfl rfl (Zm rfl (U2 rfl rfl rfl (JL.callRF [] gofn14 rfl Lent.nil (fun _=>(.cons (.r rfl) .nil)) (H3 hwb) (.inl rfl) fun x117 o117 h117=>?_)))))
  obtain⟨v117,rfl,rfl⟩:=h117
  refine U2 rfl rfl rfl (Zm rfl (U2 rfl rfl rfl (JL.append 5 W3 C1 rfl (.r rfl) rfl (UL W3 (.r rfl)) (by rw[EvT.css_length,EvT.css_length];exact hbc) rfl fun v119=>?_)))
  refine U2 rfl rfl rfl (JL.closeArr 5 rfl (by rw[List.length_append,EvT.css_length,EvT.css_length];exact hbc) rfl (fun _ h=>by cases h) ?_)
  refine Zq rfl (QW.call BV (.cons (.r rfl) (.cons (Ev.le (.r rfl) (.fact (.head _) (.slL (fr:=true) (clip:=false) (fun h=>by cases h) (by simp[EvT.css_append,EvT.css_length]) (EvT.css_sz false _) F6))) .nil)) (Kr (fr:=false) (fr2:=false) (c:=false) (c2:=false) (a:=b++c) (b:=b++c) hwbc hwbc)) ?_
  exact Zq rfl (Ha (.r rfl) (.r rfl)) (Za rfl (Zn (J.ret (Zr [.k,.k,.k,.k,.k] (RetEv.one rfl (REv.tmp rfl lr)) rfl ⟨WH (by simp),rfl⟩))))

end
end Go.Proofs.YtmccnmahegbmpaaGreat.J
