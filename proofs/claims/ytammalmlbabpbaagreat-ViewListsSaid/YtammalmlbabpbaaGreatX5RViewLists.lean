/- Texts of this proof, laid together. -/
import Derived.Test.YtammalmlbabpbaaGreatX4RViewLists
set_option linter.unusedVariables false
set_option linter.unusedSimpArgs false
namespace Go.Proofs.YtammalmlbabpbaaGreat.J
open Go Go.RowKit
section
/- The template of a list, and what it makes of texts. -/
def eS5:EX:=.mk 5 0 [] []
def eF8:EX:=.mk 8 0 [108] [eS5]
def eI7:EX:=.mk 7 0 [] []
def txP:TmT:=.mk 2 [] .nil eI7 [] []
def liP:TmT:=.mk 1 [108,105] .nil .nil [] [txP]
def eaP:TmT:=.mk 4 [] .nil eF8 [] [liP]
def K6:TmT:=.mk 1 [117,108] .nil .nil [] [eaP]
def lV(l:List QN):V:=.mk 4 0 [] [] (l.map V.tx)
def tV(l:List QN):V:=.mk 5 0 [] [[108]] [lV l]
def MD(s:QN):TrT:=.mk [108,105] [] [] [] [.txt s]
def ulT(l:List QN):TrT:=.mk [117,108] [] [] [] (l.map MD)
theorem eS5_wf:eS5.wf:=.mk (by decide) (by decide) (by decide) (by decide) (fun _ h=>by cases h)
theorem eI7_wf:eI7.wf:=.mk (by decide) (by decide) (by decide) (by decide) (fun _ h=>by cases h)
theorem eF8_wf:eF8.wf:=.mk (by decide) (by decide) (by decide) (by decide) (fun x h=>by rw[List.mem_singleton.1 h];exact eS5_wf)
theorem Nj:EX.nil.wf:=.mk (by decide) (by decide) (by decide) (by decide) (fun _ h=>by cases h)
theorem txP_wf:txP.wf:=.mk (by decide) (by decide) Nj eI7_wf (by decide) (fun _ h=>by cases h) (by decide) (fun _ h=>by cases h)
theorem liP_wf:liP.wf:=.mk (by decide) (by decide) Nj Nj (by decide) (fun _ h=>by cases h) (by decide) (fun x h=>by rw[List.mem_singleton.1 h];exact txP_wf)
theorem eaP_wf:eaP.wf:=.mk (by decide) (by decide) Nj eF8_wf (by decide) (fun _ h=>by cases h) (by decide) (fun x h=>by rw[List.mem_singleton.1 h];exact liP_wf)
theorem GK:K6.wf:=.mk (by decide) (by decide) Nj Nj (by decide) (fun _ h=>by cases h) (by decide) (fun x h=>by rw[List.mem_singleton.1 h];exact eaP_wf)
theorem C4:K6.err=0:=by decide+kernel
theorem lV_wf{l:List QN}(h:l.length≤16)(h2:∀s∈l,s.length≤128):(lV l).wf:=.mk (by decide) (by decide) (by decide) (by decide) (by simp;unfold Qr;omega) (fun _ h=>by cases h) (fun x hx=>by
  obtain⟨s,hs,rfl⟩:=List.mem_map.1 hx
  exact(XR (h2 s hs)).wf)
theorem tV_wf{l:List QN}(h:l.length≤16)(h2:∀s∈l,s.length≤128):(tV l).wf:=.mk (by decide) (by decide) (by decide) (by decide) (by show 1*80≤Qr;decide) (fun x hx=>by rw[List.mem_singleton.1 hx];decide) (fun x hx=>by rw[List.mem_singleton.1 hx];exact lV_wf h h2)
theorem tx_chk{s:QN}(h:s.length≤128){lev n:Int}(hl:lev≤8)(hn:n<512):(V.tx s).chk lev n=(0,n+1):=by
  unfold V.tx
  rw[V.chk,if_neg (by omega),if_neg (by omega),if_neg (by simp[Uc,h]),V.chks]
theorem Ef{lev:Int}(hl:lev≤7):∀{l:List QN} {n:Int},(∀s∈l,s.length≤128)→n+l.length≤512→V.chks (l.map V.tx) lev n=(0,n+l.length)
  |[],n,_,_=>by simp[V.chks]
  |s::r,n,h,hn=>by
    simp only[List.length_cons]at hn
    rw[List.map_cons,V.chks,tx_chk (h s (by simp)) (by omega) (by omega),if_neg (by simp),Ef hl (fun x hx=>h x (by simp[hx])) (by show n+1+_≤512;omega)]
    simp;omega
theorem Ba{l:List QN}(h:l.length≤16)(h2:∀s∈l,s.length≤128):(tV l).err=0:=by
  have hk:Uc (tV l)=true:=by simp[tV,Uc];decide
  have h4:Uc (lV l)=true:=by simp[lV,Uc];omega
  unfold V.err tV
  rw[V.chk,if_neg (by decide),if_neg (by decide),if_neg (by show ¬Uc (tV l)=false;rw[hk];simp),V.chks]
  have h1:(lV l).chk 2 1=((0,2+(l.length:Int)):Int×Int):=by
    unfold lV
    rw[V.chk,if_neg (by decide),if_neg (by decide),if_neg (by show ¬Uc (lV l)=false;rw[h4];simp),Ef (by decide) h2 (by omega)]
    rfl
  show(if((lV l).chk 2 1).1≠0 then(lV l).chk 2 1 else V.chks [] 1 ((lV l).chk 2 1).2).1=0
  rw[h1];rfl
/-! what it makes -/
theorem Xz{α β:Type}{v:α}{f:Int}{k:α→Int→ER β}:UV (.ok (v,f)) k=k v f:=rfl
theorem RX{s:ScT}{f:Int}(h:1≤f):W9 (EX.nil.ev s f)=.ok ([],f-1):=by
  unfold EX.nil
  rw[ev_0 (by omega)];rfl
theorem P9{s:ScT}{x:QN}{f:Int}(h:1≤f)(hx:x.length≤128)(hs:s.it=.tx x):W9 (eI7.ev s f)=.ok (x,f-1):=by
  unfold eI7
  rw[ev_7 (by omega),hs]
  have:=LB (XR hx)
  show(if(Xm (V.tx x)).2=0 then _ else _)=_
  rw[this];rfl
theorem SQ{s:ScT}{x:QN}{f:Int}(h:2≤f)(hx:x.length≤128)(hs:s.it=.tx x):QK [liP] s f=.ok ([MD x],f-2):=by
  have h2:QK [txP] s (f-1)=.ok ([.txt x],f-2):=by
    rw[QK,txP,TmT.partE,if_neg (by decide),if_pos rfl,P9 (by omega) hx hs]
    simp only[Xz,QK]
    rw[show f-1-1=f-2 by omega];rfl
  rw[QK,liP,TmT.partE,if_pos rfl,YW,RX (by omega)]
  simp only[Xz]
  rw[if_neg (by decide),Xl]
  simp only[Xz,h2]
  simp only[Xz,QK]
  rfl
theorem ED{s:ScT}:∀{l:List QN} {f:Int},(∀x∈l,x.length≤128)→2*l.length≤f→WO (fun y f=>QK [liP] {s with it:=y} f) (l.map V.tx) f=.ok (l.map MD,f-2*l.length)
  |[],f,_,_=>by rw[List.map_nil,WO];simp
  |x::r,f,h,hf=>by
    simp only[List.length_cons]at hf
    rw[List.map_cons,WO,SQ (x:=x) (by omega) (h x (by simp)) rfl]
    show UV (WO _ (r.map V.tx) (f-2)) _=_
    rw[ED (fun y hy=>h y (by simp[hy])) (by omega)]
    show Except.ok ([MD x]++r.map MD,f-2-2*(r.length:Int))=_
    simp only[List.map_cons,List.length_cons,List.singleton_append]
    rw[show f-2-2*(r.length:Int)=f-2*((r.length+1:Nat):Int) by omega]
theorem get_l{l:List QN}(h:l.length≤16)(h2:∀s∈l,s.length≤128):UI 8 [108] [tV l]=.ok (lV l):=by
  have h3:(tV l).getv [⟨true,[108],0⟩]=(lV l,0):=by
    unfold V.getv
    rw[if_neg (by rw[Ba h h2];simp)]
    rfl
  show La (tV l) ⟨true,[108],0⟩=_
  unfold La
  rw[h3];rfl
theorem SN{l:List QN}{s:ScT}{f:Int}(h:l.length≤16)(hs:s.st=tV l)(h2:∀x∈l,x.length≤128)(hf:3+2*l.length≤f):K6.elE s f=.ok (ulT l,f-3-2*l.length):=by
  have hx:eF8.ev s (f-1)=.ok (lV l,f-3):=by
    unfold eF8
    rw[Cg (by omega) (.inr (by decide)),Uy,eS5,ev_5 (by omega),hs]
    simp only[Uy]
    show plE 8 [108] (.ok ([tV l],f-1-1-1))=_
    unfold plE
    simp only[get_l h h2]
    rw[show f-1-1-1=f-3 by omega]
  have h3:QK [eaP] s (f-1)=.ok (l.map MD,f-3-2*l.length):=by
    rw[QK,eaP,TmT.partE,if_neg (by decide),if_neg (by decide),hx]
    simp only[Xz]
    rw[if_neg (by decide),if_pos (show(lV l).kind=4 from rfl),show(lV l).items=l.map V.tx from rfl,ED h2 (by omega)]
    simp only[Xz,QK,List.append_nil]
  unfold K6
  rw[TmT.elE]
  unfold YW
  rw[RX (by omega)]
  simp only[Xz]
  rw[if_neg (by decide),Xl]
  simp only[Xz,h3]
  rfl
theorem SO{x:QN}(hx:x.length≤128){w:RC}(he:w.e=0)(hn:w.n<255):(MD x).walk 2 w=⟨w.n+2,max w.d 3,0⟩:=by
  have h1:(TrT.txt x).nodeE 3 (w.n+1)=0:=by
    unfold TrT.nodeE
    rw[if_neg (by decide),if_neg (by omega),if_neg (by simp[TrT.txt,Yh,TrT.tag,TrT.key,TrT.text,TrT.attrs,TrT.kids,hx]),if_neg (by show ¬Gf []=true;decide)]
  have h2:(MD x).nodeE 2 w.n=0:=by
    unfold TrT.nodeE
    rw[if_neg (by decide),if_neg (by omega),if_neg (by simp[MD,TrT.tag,TrT.key,TrT.text,TrT.attrs,TrT.kids];decide),if_neg (by simp[MD,TrT.kids,TrT.txt,TrT.key];decide)]
  unfold MD at h2⊢
  rw[TrT.walk,if_neg (fun hc=>hc he),if_neg (fun hc=>hc h2),TrT.walks]
  unfold TrT.txt at h1⊢
  rw[TrT.walk,if_neg (by simp),if_neg (fun hc=>hc h1),TrT.walks,TrT.walks]
  show RC.mk (w.n+1+1) (if(2:Int)+1>(if(2:Int)>w.d then 2 else w.d)then 2+1 else(if(2:Int)>w.d then 2 else w.d)) 0=_
  congr 1
  · omega
  · split<;>split at* <;>omega
theorem R6:∀{l:List QN} {w:RC},(∀x∈l,x.length≤128)→w.e=0→w.n+2*l.length≤256→(TrT.walks (l.map MD) 2 w).e=0
  |[],w,_,he,_=>by rw[List.map_nil,TrT.walks];exact he
  |x::r,w,h,he,hn=>by
    simp only[List.length_cons]at hn
    rw[List.map_cons,TrT.walks,SO (h x (by simp)) he (by omega)]
    exact R6 (fun y hy=>h y (by simp[hy])) rfl (by show w.n+2+2*(r.length:Int)≤256;omega)
theorem ul_err{l:List QN}(h:l.length≤16)(h2:∀x∈l,x.length≤128):(ulT l).err=0:=by
  have hk:(l.map MD).map TrT.key=List.replicate l.length []:=by
    rw[List.map_map]
    exact List.eq_replicate_iff.2 ⟨by simp,fun y hy=>by obtain⟨s,-,rfl⟩:=List.mem_map.1 hy;rfl⟩
  have h1:(ulT l).nodeE 1 0=0:=by
    unfold TrT.nodeE
    rw[if_neg (by decide),if_neg (by decide),if_neg (by simp[ulT,TrT.tag,TrT.key,TrT.text,TrT.attrs,TrT.kids,h];decide),if_neg]
    show ¬Gf ((l.map MD).map TrT.key)=true
    rw[hk,MU fun i hi=>by
      rw[List.length_replicate]at hi
      simp[YX,hi]]
    simp
  unfold TrT.err
  rw[if_neg (by show ¬([117,108]:QN)=[];decide)]
  unfold ulT at h1⊢
  rw[TrT.walk,if_neg (by simp),if_neg (fun hc=>hc h1)]
  exact R6 h2 rfl (by show(0:Int)+1+2*(l.length:Int)≤256;omega)
theorem BT{l:List QN}{f:Int}(h:l.length≤16)(h2:∀x∈l,x.length≤128)(hf:3+2*l.length≤f)(hf2:f≤4096):K6.renT (tV l) f=(ulT l,0):=by
  unfold TmT.renT
  rw[if_neg (by rw[C4];simp),if_neg (by rw[Ba h h2];simp),if_neg (by omega)]
  unfold TmT.treeT
  rw[SN h rfl h2 hf]
  exact if_neg (by rw[ul_err h h2];simp)

end
section
/- Walks: the template of a list, texts; is the renderer alive? -/
set_option maxRecDepth 10000
set_option maxHeartbeats 4000000
theorem Ho:Fn Tryz.prog 25 [] (.agg (K6.cs true)):=by
  refine AC.of_J Tryz.func25 rfl Tryz.ntmps25 rfl fun w0 A0=>?_
  refine Zs (JL.alloc P2 rfl rfl fun b0=>Zn (Zs (Zq rfl (QW.build (idx:=[0]) pl25 z25 rfl (.cons .const .nil) rfl rfl rfl rfl) (Zq rfl (QW.buildSlice (xs:=[eS5.cs true]) (idx:=[0]) sl23 el25 z25 rfl (.cons (Ev.le (z:=.agg (eS5.cs true)) (.r rfl) (.aggL (.cons lr (.cons lr (.cons lr (.cons (.nil true false _) (.nil))))))) .nil) rfl rfl rfl rfl rfl rfl rfl rfl rfl) (Zq rfl (QW.build (idx:=[0,2,3]) pl25 z25 rfl (.cons .const (.cons .const (.cons (.r rfl) .nil))) rfl rfl rfl rfl) (JL.alloc z25 rfl rfl fun b1=>?_))))))
  first|refine Qa 0 Hg (.r rfl) rfl (.r rfl) (by first|rfl|assumption) rfl rfl rfl ?_|refine Qa 0 Hg (.r rfl) rfl (.r rfl) (by first|rfl|assumption) rfl xl rfl ?_|refine Qa 0 Hg (.r rfl) rfl (.r rfl) (by first|rfl|assumption) xl rfl rfl ?_|refine Qa 0 Hg (.r rfl) rfl (.r rfl) (by first|rfl|assumption) xl xl rfl ?_|refine JL.store_box 0 Hg (.r rfl) rfl (.r rfl) (by first|rfl|assumption) rfl rfl rfl rfl ?_|refine JL.store_box 0 Hg (.r rfl) rfl (.r rfl) (by first|rfl|assumption) xl rfl rfl rfl ?_
  refine Zn (Zs (Zq rfl (QW.build (idx:=[0]) pl25 z25 rfl (.cons .const .nil) rfl rfl rfl rfl) (Zq rfl (QW.build (idx:=[0,3]) So P2 rfl (.cons .const (.cons (.r rfl) .nil)) rfl rfl rfl rfl) (Zq rfl (QW.buildSlice (xs:=[txP.cs true]) (idx:=[0]) LG el29 P2 rfl (.cons (Ev.le (z:=.agg (txP.cs true)) (.r rfl) (.aggL (.cons lr (.cons lr (.cons lr (.cons lr (.cons lr (.cons (.nil true false _) (.cons lr (.cons lr (.cons lr (.cons (.nil true false _) (.cons (.nil true false _) (.cons (.nil true false _) (.nil))))))))))))))) .nil) rfl rfl rfl rfl rfl rfl rfl rfl rfl) (Zq rfl (QW.build (idx:=[0,1,5]) So P2 rfl (.cons .const (.cons .const (.cons (.r rfl) .nil))) rfl rfl rfl rfl) (JL.alloc P2 rfl rfl fun b2=>?_))))))
  first|refine Qa 0 XX (.r rfl) rfl (.r rfl) (by first|rfl|assumption) rfl rfl rfl ?_|refine Qa 0 XX (.r rfl) rfl (.r rfl) (by first|rfl|assumption) rfl (TmT.cs_length _ _) rfl ?_|refine Qa 0 XX (.r rfl) rfl (.r rfl) (by first|rfl|assumption) (TmT.cs_length _ _) rfl rfl ?_|refine Qa 0 XX (.r rfl) rfl (.r rfl) (by first|rfl|assumption) (TmT.cs_length _ _) (TmT.cs_length _ _) rfl ?_|refine JL.store_box 0 XX (.r rfl) rfl (.r rfl) (by first|rfl|assumption) rfl rfl rfl rfl ?_|refine JL.store_box 0 XX (.r rfl) rfl (.r rfl) (by first|rfl|assumption) (TmT.cs_length _ _) rfl rfl rfl ?_
  refine Zn (Zs (Zq rfl (by first|exact Qe 1 Hg (.r rfl) rfl rfl rfl|exact Qe 1 Hg (.r rfl) rfl (Qo xl rfl) xl) ?_))
  refine Zq rfl (by first|exact Qe 0 XX (.r rfl) rfl rfl rfl|exact Qe 0 XX (.r rfl) rfl (Qo (TmT.cs_length _ _) rfl) (TmT.cs_length _ _)) ?_
  refine Zq rfl (QW.buildSlice (xs:=[liP.cs true]) (idx:=[0]) LG el29 P2 rfl (.cons (Ev.le (z:=.agg (liP.cs true)) (.r rfl) (.aggL (.cons lr (.cons lr (.cons lr (.cons lr (.cons lr (.cons (.nil true false _) (.cons lr (.cons lr (.cons lr (.cons (.nil true false _) (.cons (.nil true false _) (.cons (Yi (TmT.css_sz true [txP])) (.nil))))))))))))))) .nil) rfl rfl rfl rfl rfl rfl rfl rfl rfl) (Zq rfl (QW.build (idx:=[0,3,5]) So P2 rfl (.cons .const (.cons (.r rfl) (.cons (.r rfl) .nil))) rfl rfl rfl rfl) (Zq rfl (QW.buildSlice (xs:=[eaP.cs true]) (idx:=[0]) LG el29 P2 rfl (.cons (Ev.le (z:=.agg (eaP.cs true)) (.r rfl) (.aggL (.cons lr (.cons lr (.cons lr (.cons lr (.cons lr (.cons (.nil true false _) (.cons lr (.cons lr (.cons lr (.cons (Yi (EX.css_sz true [eS5])) (.cons (.nil true false _) (.cons (Yi (TmT.css_sz true [liP])) (.nil))))))))))))))) .nil) rfl rfl rfl rfl rfl rfl rfl rfl rfl) (Zq rfl (QW.build (idx:=[0,1,5]) So P2 rfl (.cons .const (.cons .const (.cons (.r rfl) .nil))) rfl rfl rfl rfl) ?_)))
  first|refine Qa 2 XX (.r rfl) rfl (.r rfl) (by first|rfl|assumption) rfl rfl rfl ?_|refine Qa 2 XX (.r rfl) rfl (.r rfl) (by first|rfl|assumption) rfl (TmT.cs_length _ _) rfl ?_|refine Qa 2 XX (.r rfl) rfl (.r rfl) (by first|rfl|assumption) (TmT.cs_length _ _) rfl rfl ?_|refine Qa 2 XX (.r rfl) rfl (.r rfl) (by first|rfl|assumption) (TmT.cs_length _ _) (TmT.cs_length _ _) rfl ?_|refine JL.store_box 2 XX (.r rfl) rfl (.r rfl) (by first|rfl|assumption) rfl rfl rfl rfl ?_|refine JL.store_box 2 XX (.r rfl) rfl (.r rfl) (by first|rfl|assumption) (TmT.cs_length _ _) rfl rfl rfl ?_
  exact Zn (J.ret (Zr [.k,.k,.k] (RetEv.one rfl (by first|exact REv.cell 2 XX rfl rfl rfl rfl (.aggL (.cons lr (.cons lr (.cons lr (.cons lr (.cons lr (.cons (.nil true false _) (.cons lr (.cons lr (.cons lr (.cons (.nil true false _) (.cons (.nil true false _) (.cons (Yi (TmT.css_sz true [eaP])) (.nil))))))))))))))|exact REv.cell 2 XX rfl rfl (Qo (TmT.cs_length _ _) rfl) (TmT.cs_length _ _) (.aggL (.cons lr (.cons lr (.cons lr (.cons lr (.cons lr (.cons (.nil true false _) (.cons lr (.cons lr (.cons lr (.cons (.nil true false _) (.cons (.nil true false _) (.cons (Yi (TmT.css_sz true [eaP])) (.nil)))))))))))))))) rfl ⟨rfl,rfl⟩))
theorem Gg{fr c:Bool}{l:List QN}(hl:l.length≤16):Fn Tryz.prog 26 [.sl fr c Wz (QP l)] (.agg ((tV l).cs true)):=by
  refine AC.of_J Tryz.func26 rfl Tryz.ntmps26 rfl fun w0 A0=>?_
  refine Zs (JL.alloc Yd rfl rfl fun b2=>Zn (Zs (Zq rfl (QW.build (idx:=[0]) Kj Yd rfl (.cons .const .nil) rfl rfl rfl rfl) (JL.alloc Yd rfl rfl fun b3=>?_))))
  first|refine Qa 0 Ql (.r rfl) rfl (.r rfl) (by first|rfl|assumption) rfl rfl rfl ?_|refine Qa 0 Ql (.r rfl) rfl (.r rfl) (by first|rfl|assumption) rfl vl rfl ?_|refine Qa 0 Ql (.r rfl) rfl (.r rfl) (by first|rfl|assumption) vl rfl rfl ?_|refine Qa 0 Ql (.r rfl) rfl (.r rfl) (by first|rfl|assumption) vl vl rfl ?_|refine JL.store_box 0 Ql (.r rfl) rfl (.r rfl) (by first|rfl|assumption) rfl rfl rfl rfl ?_|refine JL.store_box 0 Ql (.r rfl) rfl (.r rfl) (by first|rfl|assumption) vl rfl rfl rfl ?_
  refine Zn (J.seq (Zs (Zq rfl (QW.assign .const) (Zn (J.block (J.reown (Up eV _) (Ua (ι:=Nat×Value) [0,2,3] (fun⟨i,v⟩=>[(4,.c (.int .i64 (i:Int)))]) (fun⟨i,v⟩ oo=>List.set (List.set oo 2 (.arr v eV (V.css true ((l.take i).map V.tx)))) 0 (.box b3 [.c (.int .i64 4),.c (.int .u64 0),.c (Q4 []),.c (.slice none 0 0),.c v])) (fun⟨i,v⟩=>i≤l.length) (fun⟨i,v⟩=>l.length-i) ⟨0,.slice none 0 0⟩ (Nat.zero_le _) (QQ (.cons rfl lr (.cons rfl lr (.cons rfl lr (.cons rfl lr .nil)))) (Reown.refl _) (fun _ h=>by first|exact h|simp[h])) ?_)))))))
  intro⟨i,v⟩ hi
  refine J.conv (by(try simp only[nl,Qj,QA,QC,Qy,QZ,AV.cellsOf,Qc,Qd,Nat.reduceAdd]);rfl) ?_
  refine J.seq (Zs (Zm rfl (Zm rfl (Zq rfl (by first|exact Qh Ue (.r rfl) wl|exact Qh Ue (.r rfl) (TmT.css_length _ _)|exact Qh Ue (.r rfl) (SetT.css_length _ _)|exact Qh Ue (.r rfl) (TrT.css_length _ _)|exact Qh Ue (.r rfl) (AtT.css_length _)|exact Qw Ue (.r rfl)|exact QW.len_nil Ue (.r rfl)) ?_))))
  refine Zq rfl (QW.lss (.r rfl) (.r rfl)) (Zn ?_)
  refine J.cond (.r rfl) (fun c1=>?_) (fun c1=>?_)
  · skip
    have hlt:i<l.length:=by simpa[QP]using c1
    refine Zk (J.seq (J.block (QV mixed (Zf 0 [] rfl (fun _=>Qf Uv (.r rfl) rfl) (Zo 1 0 [12] rfl (fun _ ho_=>Qb 0 WP (.r rfl) ho_ rfl) (Zf 2 [] rfl (fun _=>QW.move (.r rfl)) (Zf 3 [] rfl (fun _=>QW.move (.r rfl)) (Zf 4 [14,15] rfl (fun _=>Qi Ue UO rfl (.r rfl) (.r rfl) (by first|rfl|omega|(simp;done)) (by first|exact WE hlt|(simp[QP,hlt]))) ?_))))))))
    refine Zf 5 [16] rfl (fun _=>Qv UO (.r rfl) rfl) (Zf 6 [17] rfl (fun _=>QW.build (idx:=[0,2]) Kj Yd rfl (.cons .const (.cons (.r rfl) .nil)) rfl rfl rfl rfl) (Zf 7 [18] rfl (fun _=>QW.buildSlice (xs:=[(V.tx l[i]).cs true]) (idx:=[0]) QU GX Yd rfl (.cons (Ev.le (z:=.agg ((V.tx l[i]).cs true)) (.r rfl) (.aggL (.cons lr (.cons lr (.cons lr (.cons (.nil true false _) (.cons (.nil true false _) (.nil)))))))) .nil) rfl rfl rfl rfl rfl rfl rfl rfl rfl) (JX.one 8 [true,true,true,true,true,true,true,true] rfl (by kernel_rfl) (by kernel_rfl) rfl rfl (by kernel_rfl) rfl fun bs8_ pe_ ex_=>?_)))
    refine JL.conv (by(try simp only[Ug,Uo,Q8,Q0,Flt.val,Flt.bx,nx,nl,Qj,QA,QC,Qy,QZ,AV.cellsOf,Qc,Qd,Nat.reduceAdd]);rfl) ?_
    refine JL.append 2 QU GX rfl (.r rfl) rfl (U8 QU (.r rfl)) (by rw[V.css_length,List.length_map,List.length_take];show(_+1)*80≤_;unfold Qr;omega) rfl fun v20=>?_
    refine JL.nil ?_
    refine thenQ.n ⟨[_],_,rfl,rfl,rfl,rfl,rfl,QM 3 rfl,⟨rfl,rfl⟩,trivial,?_⟩
    refine JX.conv (S':=[8,7,6,5,4,3,2,1,0]) rfl (by(try simp only[Q0]);rfl) (by(try simp only[Ug,Uo,Q8,Q0,Flt.val,Flt.bx,nx,nl,Qj,QA,QC,Qy,QZ,AV.cellsOf,Qc,Qd,Nat.reduceAdd]);rfl) ?_
    refine Zf 9 [] rfl (fun _=>Qf Uv (.r rfl) rfl) (JX.one 10 [true] rfl (by kernel_rfl) (by kernel_rfl) rfl rfl (by kernel_rfl) rfl fun bs10_ pe_ ex_=>?_)
    refine JL.conv (by(try simp only[Ug,Uo,Q8,Q0,Flt.val,Flt.bx,nx,nl,Qj,QA,QC,Qy,QZ,AV.cellsOf,Qc,Qd,Nat.reduceAdd]);rfl) ?_
    refine JL.isSlice 2 rfl fun hs1=>JL.store_box 0 WP (.r rfl) rfl (.r rfl) (by first|rfl|assumption) rfl rfl rfl rfl ?_
    refine JL.nil ?_
    refine thenQ.n ⟨[],_,rfl,rfl,rfl,rfl,rfl,QM 3 rfl,trivial,trivial,?_⟩
    refine JX.conv (S':=[10,9,8,7,6,5,4,3,2,1,0]) rfl (by(try simp only[Q0]);rfl) (by(try simp only[Ug,Uo,Q8,Q0,Flt.val,Flt.bx,nx,nl,Qj,QA,QC,Qy,QZ,AV.cellsOf,Qc,Qd,Nat.reduceAdd]);rfl) ?_
    refine JX.fin (by kernel_rfl) (by kernel_rfl) fun bs_=>?_
    refine QX.conv (by(try simp only[Ug,Uo,Q8,Q0,Flt.val,Flt.bx,nx,nl,Qj,QA,QC,Qy,QZ,AV.cellsOf,Qc,Qd,Nat.reduceAdd]);rfl) ?_
    refine blkQ.n (thenQ.n (Qg (Zm rfl (Zq rfl (QW.add (.r rfl) .const (by first|exact U6 (by first|rfl|omega|(simp;done)) (by omega)|exact Yy (by omega)|rfl)) ?_))))
    refine Za rfl (Zn ?_)
    rw[show V.css true ((l.take i).map V.tx)++[(V.tx l[i]).cs true]=V.css true ((l.take (i+1)).map V.tx) by rw[List.take_succ_eq_append_getElem hlt,List.map_append,V.css_eq,V.css_eq,List.map_append];rfl]
    exact⟨⟨i+1,v20⟩,hlt,by show l.length-(i+1)<l.length-i;omega,QQ (.cons rfl lr (.cons rfl lr (.cons rfl lr (.cons rfl lr .nil)))) (Reown.refl _) (fun _ h=>by first|exact h|simp[h])⟩
  obtain rfl:i=l.length:=by(simp[QP]at c1;omega)
  rw[List.take_length]
  refine J.exit (Qz (Qz (QY (thenQ.n (J.seq (J.closeArr 2 rfl (by rw[V.css_length,List.length_map];show _*80≤_;unfold Qr;omega) rfl (fun _ h=>by cases h) ?_))))))
  refine Qg (Zq rfl (QW.buildSlice (idx:=[0]) (xs:=[[AV.c (Q4 [108])]]) (zs:=[AV.c (Q4 [108])]) Ue Pw z9 rfl (.cons .const .nil) rfl rfl rfl rfl rfl rfl rfl rfl rfl) (Zq rfl (by first|exact Qe 0 Ql (.r rfl) rfl rfl rfl|exact Qe 0 Ql (.r rfl) rfl (Qo vl rfl) vl) ?_))
  refine Zq rfl (QW.buildSlice (xs:=[(lV l).cs true]) (idx:=[0]) QU GX Yd rfl (.cons (Ev.le (z:=.agg ((lV l).cs true)) (.r rfl) (.aggL (.cons lr (.cons lr (.cons lr (.cons (.nil true false _) (.cons (.fact (by simp) (.refl _)) (.nil)))))))) .nil) rfl rfl rfl rfl rfl rfl rfl rfl rfl) ?_
  refine Zq rfl (QW.build (idx:=[0,3,4]) Kj Yd rfl (.cons .const (.cons (.r rfl) (.cons (.r rfl) .nil))) rfl rfl rfl rfl) ?_
  first|refine Qa 1 Ql (.r rfl) rfl (.r rfl) (by first|rfl|assumption) rfl rfl rfl ?_|refine Qa 1 Ql (.r rfl) rfl (.r rfl) (by first|rfl|assumption) rfl vl rfl ?_|refine Qa 1 Ql (.r rfl) rfl (.r rfl) (by first|rfl|assumption) vl rfl rfl ?_|refine Qa 1 Ql (.r rfl) rfl (.r rfl) (by first|rfl|assumption) vl vl rfl ?_|refine JL.store_box 1 Ql (.r rfl) rfl (.r rfl) (by first|rfl|assumption) rfl rfl rfl rfl ?_|refine JL.store_box 1 Ql (.r rfl) rfl (.r rfl) (by first|rfl|assumption) vl rfl rfl rfl ?_
  exact Zn (J.ret (Zr [.k,.k] (RetEv.one rfl (by first|exact REv.cell 1 Ql rfl rfl rfl rfl (.aggL (.cons lr (.cons lr (.cons lr (.cons (Yi (fun y hy=>by rw[List.mem_singleton.1 hy];rfl)) (.cons (Yi (V.css_sz true [lV l])) (.nil)))))))|exact REv.cell 1 Ql rfl rfl (Qo vl rfl) vl (.aggL (.cons lr (.cons lr (.cons lr (.cons (Yi (fun y hy=>by rw[List.mem_singleton.1 hy];rfl)) (.cons (Yi (V.css_sz true [lV l])) (.nil))))))))) rfl ⟨rfl,rfl⟩))
theorem LP(n:Int):Fn Tryz.prog 18 [.c (.int .i64 n)] (.c (.int .i64 n)):=by
  refine AC.of_J Tryz.func18 rfl Tryz.ntmps18 rfl fun w0 A0=>?_
  exact Zs (Zq rfl (QW.assign .const) (Zn (Zs (Zm rfl (Za rfl (Zn (J.ret (Zr [] (RetEv.one rfl (REv.tmp rfl lr)) rfl ⟨rfl,rfl⟩))))))))
theorem Kv{l:List QN}{f:Int}{fr fr2:Bool}(h:l.length≤16)(h2:∀x∈l,x.length≤128)(hf:3+2*l.length≤f)(hf2:f≤4096):Fn Tryz.prog 14 [.agg (K6.cs fr),.agg ((tV l).cs fr2),.c (.int .i64 f)] (HT (ulT l,0)):=by
  have:=TX (fr:=fr) (fr2:=fr2) GK (tV_wf h h2) (f:=f) ⟨by omega,by omega⟩
  rwa [BT h h2 hf hf2]at this
theorem DP:Fn Tryz.prog 23 [] (.c (.bool true)):=by
  refine AC.of_J Tryz.func23 rfl Tryz.ntmps23 rfl fun w0 A0=>?_
  refine Zs (Zq rfl (QW.assign .const) (Zn (Zs (Zq rfl (QW.call Dr .nil (Ho)) (Zq rfl (QW.call N4 (.cons (.r rfl) .nil) (NN (t:=K6) GK)) (Zq rfl (QW.buildSlice (idx:=[0,1]) Ue Pw z9 rfl (.cons .const (.cons .const .nil)) rfl rfl rfl rfl rfl rfl rfl rfl rfl) (Zq rfl (QW.call Dq (.cons (.r rfl) .nil) (Gg (l:=[[97],[98]]) (by decide))) ?_)))))))
  refine Zq rfl (QW.call Dt (.cons (.r rfl) (.cons (.r rfl) (.cons .const .nil))) (Kv (l:=[[97],[98]]) (fr:=true) (fr2:=true) (f:=99) (by decide) (by decide) (by decide) (by decide))) ?_
  refine Zm rfl (Zx rfl (Zx rfl (JL.alloc z46 rfl rfl fun b1=>?_)))
  first|refine Qa 0 QB (.r rfl) rfl (.r rfl) (by first|rfl|assumption) rfl rfl rfl ?_|refine Qa 0 QB (.r rfl) rfl (.r rfl) (by first|rfl|assumption) rfl (TrT.cs_length _ _) rfl ?_|refine Qa 0 QB (.r rfl) rfl (.r rfl) (by first|rfl|assumption) rfl rfl rfl ?_|refine Qa 0 QB (.r rfl) rfl (.r rfl) (by first|rfl|assumption) (TrT.cs_length _ _) rfl rfl ?_|refine Qa 0 QB (.r rfl) rfl (.r rfl) (by first|rfl|assumption) (TrT.cs_length _ _) (TrT.cs_length _ _) rfl ?_|refine Qa 0 QB (.r rfl) rfl (.r rfl) (by first|rfl|assumption) (TrT.cs_length _ _) rfl rfl ?_|refine Qa 0 QB (.r rfl) rfl (.r rfl) (by first|rfl|assumption) rfl rfl rfl ?_|refine Qa 0 QB (.r rfl) rfl (.r rfl) (by first|rfl|assumption) rfl (TrT.cs_length _ _) rfl ?_|refine Qa 0 QB (.r rfl) rfl (.r rfl) (by first|rfl|assumption) rfl rfl rfl ?_|refine JL.store_box 0 QB (.r rfl) rfl (.r rfl) (by first|rfl|assumption) rfl rfl rfl rfl ?_|refine JL.store_box 0 QB (.r rfl) rfl (.r rfl) (by first|rfl|assumption) (TrT.cs_length _ _) rfl rfl rfl ?_|refine JL.store_box 0 QB (.r rfl) rfl (.r rfl) (by first|rfl|assumption) rfl rfl rfl rfl ?_
  refine Za rfl (Zn (Zs (Zm rfl (Zq rfl (QW.call Ds (.cons (.r rfl) .nil) (LP _)) (Zq rfl (QW.eql (.r rfl) .const) (Zm rfl (Zg rfl (fun hg=>(Qf KC (.r rfl) rfl)) (Zg rfl (fun hg=>(Qb 0 UO (.when rfl hg) rfl rfl)) (Zg rfl (fun hg=>(WJ (.when rfl hg) .const)) ?_)))))))))
  refine Zq rfl (QW.pick_and (.r rfl) (.r rfl)) (Zm rfl (Zg rfl (fun hg=>(Qf UJ (.r rfl) rfl)) (Zg rfl (fun hg=>(Qb 0 YN (.when rfl hg) rfl rfl)) (Zg rfl (fun hg=>(by first|exact Qh Q6 (.when rfl hg) wl|exact Qh Q6 (.when rfl hg) (TmT.css_length _ _)|exact Qh Q6 (.when rfl hg) (SetT.css_length _ _)|exact Qh Q6 (.when rfl hg) (TrT.css_length _ _)|exact Qh Q6 (.when rfl hg) (AtT.css_length _)|exact Qw Q6 (.when rfl hg)|exact QW.len_nil Q6 (.when rfl hg))) ?_))))
  refine Zg rfl (fun hg=>(QW.eql (.when rfl hg) .const)) (Zq rfl (QW.pick_and (.r rfl) (.r rfl)) (Zm rfl (Zg rfl (fun hg=>(Qf UJ (.r rfl) rfl)) (Zg rfl (fun hg=>(Qb 0 YN (.when rfl hg) rfl rfl)) (Zg rfl (fun hg=>(Qi Q6 QB rfl (.when rfl hg) .const (by first|rfl|omega|(simp;done)) (by rfl))) ?_)))))
  refine Zg rfl (fun hg=>(QL KC (.when rfl hg) rfl)) (Zg rfl (fun hg=>(Qv UO (.when rfl hg) rfl)) (Zg rfl (fun hg=>(WJ (.when rfl hg) .const)) (Zq rfl (QW.pick_and (.r rfl) (.r rfl)) (Zm rfl (Zg rfl (fun hg=>(Qf UJ (.r rfl) rfl)) (Zg rfl (fun hg=>(Qb 0 YN (.when rfl hg) rfl rfl)) (Zg rfl (fun hg=>(Qi Q6 QB rfl (.when rfl hg) .const (by first|rfl|omega|(simp;done)) (by rfl))) ?_)))))))
  refine Zg rfl (fun hg=>(QL UJ (.when rfl hg) rfl)) (Zg rfl (fun hg=>(Qv YN (.when rfl hg) rfl)) (Zg rfl (fun hg=>(by first|exact Qh Q6 (.when rfl hg) wl|exact Qh Q6 (.when rfl hg) (TmT.css_length _ _)|exact Qh Q6 (.when rfl hg) (SetT.css_length _ _)|exact Qh Q6 (.when rfl hg) (TrT.css_length _ _)|exact Qh Q6 (.when rfl hg) (AtT.css_length _)|exact Qw Q6 (.when rfl hg)|exact QW.len_nil Q6 (.when rfl hg))) ?_))
  refine Zg rfl (fun hg=>(QW.eql (.when rfl hg) .const)) (Zq rfl (QW.pick_and (.r rfl) (.r rfl)) (Zm rfl (Zg rfl (fun hg=>(Qf UJ (.r rfl) rfl)) (Zg rfl (fun hg=>(Qb 0 YN (.when rfl hg) rfl rfl)) (Zg rfl (fun hg=>(Qi Q6 QB rfl (.when rfl hg) .const (by first|rfl|omega|(simp;done)) (by rfl))) ?_)))))
  refine Zg rfl (fun hg=>(QL UJ (.when rfl hg) rfl)) (Zg rfl (fun hg=>(Qv YN (.when rfl hg) rfl)) (Zg rfl (fun hg=>(Qi Q6 QB rfl (.when rfl hg) .const (by first|rfl|omega|(simp;done)) (by rfl))) ?_))
  exact Zg rfl (fun hg=>(QL Hy (.when rfl hg) rfl)) (Zg rfl (fun hg=>(Qv UO (.when rfl hg) rfl)) (Zg rfl (fun hg=>(WJ (.when rfl hg) .const)) (Zq rfl (QW.pick_and (.r rfl) (.r rfl)) (Za rfl (Zn (J.ret (Zr [.k] (RetEv.one rfl (REv.tmp rfl lr)) rfl ⟨U0 (by first|decide|simp|rfl),rfl⟩)))))))

end
section
/- Walks: are two trees one, in all fields? -/
set_option maxRecDepth 10000
set_option maxHeartbeats 4000000
theorem Tz{a b:List AtT}{k:Nat}(ha:k<a.length)(hb:k<b.length):AtT.sames (a.drop k) (b.drop k)=(a[k].same b[k]&&AtT.sames (a.drop (k+1)) (b.drop (k+1))):=by
  rw[List.drop_eq_getElem_cons ha,List.drop_eq_getElem_cons hb,AtT.sames]
theorem RH{a b:List TrT}{k:Nat}(ha:k<a.length)(hb:k<b.length):TrT.sames (a.drop k) (b.drop k)=(a[k].same b[k]&&TrT.sames (a.drop (k+1)) (b.drop (k+1))):=by
  rw[List.drop_eq_getElem_cons ha,List.drop_eq_getElem_cons hb,TrT.sames]
theorem NK{fr fr2:Bool}(a b:List AtT)(ha:a.length*32≤Qr)(hb:b.length*32≤Qr):Fn Tryz.prog 55 [.sl fr false DH (AtT.css a),.sl fr2 false DH (AtT.css b)] (.c (.bool (AtT.sames a b))):=by
  have h1:a.length≤9223372036854775805:=by unfold Qr at ha;omega
  have h2:b.length≤9223372036854775805:=by unfold Qr at hb;omega
  refine AC.of_J Tryz.func55 rfl Tryz.ntmps55 rfl fun w0 A0=>?_
  refine Zs (Zq rfl (QW.assign .const) (Zn (J.seq (Zs (Zm rfl (Zq rfl (by first|exact Qh WS (.r rfl) (TrT.css_length _ _)|exact Qh WS (.r rfl) (AtT.css_length _)|exact Qw WS (.r rfl)|exact QW.len_nil WS (.r rfl)) ?_))))))
  refine Zm rfl (Zq rfl (by first|exact Qh WS (.r rfl) (TrT.css_length _ _)|exact Qh WS (.r rfl) (AtT.css_length _)|exact Qw WS (.r rfl)|exact QW.len_nil WS (.r rfl)) ?_)
  refine Zq rfl (QW.neq (.r rfl) (.r rfl)) (Zn ?_)
  refine J.cond (.r rfl) (fun c1=>?_) (fun c1=>?_)
  · skip
    have hne:¬a.length=b.length:=by(simp[AtT.css_length]at c1;omega)
    exact Zs (Zq rfl (QW.assign .const) (Zn (J.ret (thenQ.r (Zr [] (RetEv.one rfl (REv.tmp rfl lr)) rfl ⟨U0 (by rw[AtT.sames_len hne]),rfl⟩)))))
  have hl:a.length=b.length:=by(simp[AtT.css_length]at c1;omega)
  refine Zk (J.seq (Zs (Zq rfl (QW.assign .const) (Zn (J.block (Ua (ι:=Nat) [0,1] (fun k=>[(5,.c (.int .i64 (k:Int)))]) (fun _ oo=>oo) (fun k=>k≤a.length∧AtT.sames a b=AtT.sames (a.drop k) (b.drop k)) (fun k=>a.length-k) 0 (⟨Nat.zero_le _,rfl⟩) (QQ (.cons rfl lr (.cons rfl lr (.cons rfl lr .nil))) (Reown.refl _) (fun _ h=>by first|exact h|simp[h])) ?_))))))
  intro k ⟨hk,heqs⟩
  refine J.conv (by(try simp only[nl,Qj,QA,QC,Qy,QZ,AV.cellsOf,Qc,Qd,Nat.reduceAdd]);rfl) ?_
  refine J.seq (Zs (Zm rfl (Zm rfl (Zq rfl (by first|exact Qh WS (.r rfl) (TrT.css_length _ _)|exact Qh WS (.r rfl) (AtT.css_length _)|exact Qw WS (.r rfl)|exact QW.len_nil WS (.r rfl)) ?_))))
  refine Zq rfl (QW.lss (.r rfl) (.r rfl)) (Zn ?_)
  refine J.cond (.r rfl) (fun c2=>?_) (fun c2=>?_)
  · skip
    have hlt:k<a.length:=by simpa[AtT.css_length]using c2
    have hlt2:k<b.length:=by omega
    refine Zk (J.seq (J.block (J.seq (Ud 8 mixed (by kernel_rfl) (by kernel_rfl) (by kernel_rfl) rfl ?_))))
    refine .cons [] rfl rfl rfl (.q rfl (QW.move (.r rfl))) ?_
    refine .cons [] rfl rfl rfl (.q rfl (QW.move (.r rfl))) ?_
    refine .cons [17,18] rfl rfl rfl (.q rfl (Qi WS Ko rfl (.r rfl) (.r rfl) (by first|rfl|omega|(simp;done)) (by first|exact AtT.css_getE hlt|exact AtT.css_getE hlt2))) ?_
    refine .cons [19] rfl rfl rfl (.q rfl (by first|exact Qm Ko (.r rfl) rfl rfl|exact Qm Ko (.r rfl) (QF rfl rfl) rfl)) ?_
    refine .cons [] rfl rfl rfl (.q rfl (QW.move (.r rfl))) ?_
    refine .cons [] rfl rfl rfl (.q rfl (QW.move (.r rfl))) ?_
    refine .cons [21,22] rfl rfl rfl (.q rfl (Qi WS Ko rfl (.r rfl) (.r rfl) (by first|rfl|omega|(simp;done)) (by first|exact AtT.css_getE hlt|exact AtT.css_getE hlt2))) ?_
    refine .cons [23] rfl rfl rfl (.q rfl (by first|exact Qm Ko (.r rfl) rfl rfl|exact Qm Ko (.r rfl) (QF rfl rfl) rfl)) ?_
    refine .nil ?_
    refine Zq rfl (DX (by kernel_rfl) (by kernel_rfl) (by kernel_rfl) Mx UO (by kernel_rfl) (.r rfl) (.r rfl)) ?_
    refine Zn ?_
    refine J.cond (.r rfl) (fun c3=>?_) (fun c3=>?_)
    · skip
      have hno:a[k].same b[k]=false:=by(simp at c3;rw[AtT.same,Bool.eq_false_iff];intro hc;simp at hc;rcases c3 with h|h;exact h hc.1;exact h hc.2)
      exact Zs (Zq rfl (QW.assign .const) (Zn (J.ret (blkQ.r (thenQ.r (thenQ.r (blkQ.r (thenQ.r (Zr [] (RetEv.one rfl (REv.tmp rfl lr)) rfl ⟨U0 (by rw[heqs,Tz hlt hlt2,hno];rfl),rfl⟩)))))))))
    have hyes:a[k].same b[k]=true:=by(simp at c3;simpa[AtT.same]using c3)
    refine J.skip (blkQ.n (thenQ.n (Qg (Zm rfl (Zq rfl (QW.add (.r rfl) .const (by first|exact U6 (by first|rfl|omega|(simp;done)) (by omega)|exact Yy (by omega)|rfl)) ?_)))))
    refine Za rfl (Zn ?_)
    rw[Tz hlt hlt2,hyes,Bool.true_and]at heqs
    exact⟨k+1,⟨hlt,heqs⟩,by omega,QQ (.cons rfl lr (.cons rfl lr (.cons rfl lr .nil))) (Reown.refl _) (fun _ h=>by first|exact h|simp[h])⟩
  have hge:a.length≤k:=by simpa[AtT.css_length]using c2
  exact J.exit (Qz (Qz (QY (thenQ.n (Zs (Zq rfl (QW.assign .const) (Zn (J.ret (Zr [] (RetEv.one rfl (REv.tmp rfl lr)) rfl ⟨U0 (by rw[heqs,List.drop_of_length_le hge,List.drop_of_length_le (by omega)];rfl),rfl⟩)))))))))
theorem T2:∀(n:Nat) {v u:TrT} {fr fr2:Bool},v.wf→u.wf→v.sz≤n→Fn Tryz.prog 21 [.agg (v.cs fr),.agg (u.cs fr2)] (.c (.bool (v.same u))):=by
  intro n
  induction n with
  |zero=>intro v u fr fr2 hw hw2 h;exact absurd h (by have:=v.sz_pos;omega)
  |succ n ih=>
    intro v u fr fr2 hw hw2 hn
    obtain⟨t,k,x,a,l⟩:=v
    obtain⟨t',k',x',a',l'⟩:=u
    obtain⟨-,-,-,ha,-,hl96,hwi⟩:=hw.inv
    obtain⟨-,-,-,ha',-,hl96',hwi'⟩:=hw2.inv
    have h1:l.length≤9223372036854775805:=by unfold Qr at hl96;omega
    have h2:l'.length≤9223372036854775805:=by unfold Qr at hl96';omega
    refine AC.of_J Tryz.func21 rfl Tryz.ntmps21 rfl fun w0 A0=>?_
    refine Zs (Qs (.r rfl) rfl fun b2=>Qs (.r rfl) rfl fun b3=>Zq rfl (QW.assign .const) (Zn (J.seq (Zs (Zd KC rfl (Zl 1 UO rfl (Zd KC rfl ?_)))))))
    refine Zl 0 UO rfl (Zq rfl (Wp (.r rfl) (.r rfl)) (Zm rfl (Zg rfl (fun hg=>(Qf Gv (.r rfl) rfl)) (Zg rfl (fun hg=>(Qb 1 UO (.when rfl hg) rfl rfl)) (Zg rfl (fun hg=>(Qf Gv (.r rfl) rfl)) (Zg rfl (fun hg=>(Qb 0 UO (.when rfl hg) rfl rfl)) (Zg rfl (fun hg=>(Wp (.when rfl hg) (.when rfl hg))) (Zq rfl (QW.pick_or (.r rfl) (.r rfl)) (Zm rfl ?_)))))))))
    refine Zg rfl (fun hg=>(Qf Hy (.r rfl) rfl)) (Zg rfl (fun hg=>(Qb 1 UO (.when rfl hg) rfl rfl)) (Zg rfl (fun hg=>(Qf Hy (.r rfl) rfl)) (Zg rfl (fun hg=>(Qb 0 UO (.when rfl hg) rfl rfl)) (Zg rfl (fun hg=>(Wp (.when rfl hg) (.when rfl hg))) (Zq rfl (QW.pick_or (.r rfl) (.r rfl)) (Zm rfl (Zg rfl (fun hg=>(Qf Hx (.r rfl) rfl)) (Zg rfl (fun hg=>(Qb 1 CB (.when rfl hg) rfl rfl)) (Zg rfl (fun hg=>(Qf Hx (.r rfl) rfl)) ?_)))))))))
    refine Zg rfl (fun hg=>(Qb 0 CB (.when rfl hg) rfl rfl)) (Zg rfl (fun hg=>(QW.call gofn55 (.cons (.when rfl hg) (.cons (.when rfl hg) .nil)) (NK _ _ ha ha'))) (Zg rfl (fun hg=>(QW.not (.when rfl hg))) (Zq rfl (QW.pick_or (.r rfl) (.r rfl)) (Zm rfl (Zg rfl (fun hg=>(Qf UJ (.r rfl) rfl)) (Zg rfl (fun hg=>(Qb 1 YN (.when rfl hg) rfl rfl)) (Zg rfl (fun hg=>(by first|exact Qh Q6 (.when rfl hg) (TrT.css_length _ _)|exact Qh Q6 (.when rfl hg) (AtT.css_length _)|exact Qw Q6 (.when rfl hg)|exact QW.len_nil Q6 (.when rfl hg))) ?_)))))))
    refine Zg rfl (fun hg=>(Qf UJ (.r rfl) rfl)) (Zg rfl (fun hg=>(Qb 0 YN (.when rfl hg) rfl rfl)) (Zg rfl (fun hg=>(by first|exact Qh Q6 (.when rfl hg) (TrT.css_length _ _)|exact Qh Q6 (.when rfl hg) (AtT.css_length _)|exact Qw Q6 (.when rfl hg)|exact QW.len_nil Q6 (.when rfl hg))) ?_))
    refine Zg rfl (fun hg=>(QW.neq (.when rfl hg) (.when rfl hg))) (Zq rfl (QW.pick_or (.r rfl) (.r rfl)) (Zn ?_))
    refine J.cond (.r rfl) (fun c1=>?_) (fun c1=>?_)
    · skip
      simp[TrT.css_length]at c1
      exact Zs (Zq rfl (QW.assign .const) (Zn (J.ret (thenQ.r (Zr [.k,.k] (RetEv.one rfl (REv.tmp rfl lr)) rfl ⟨U0 (by rcases c1 with (((h|h)|h)|h)|h;all_goals first|(simp[TrT.same,h];done)|(rw[TrT.same,TrT.sames_len (by omega)];simp)),rfl⟩)))))
    simp[TrT.css_length]at c1
    obtain⟨⟨⟨⟨e1,e2⟩,e3⟩,e4⟩,e5⟩:=c1
    have hl:l.length=l'.length:=by omega
    refine Zk (J.seq (Zs (Zq rfl (QW.assign .const) (Zn (J.block (Ua (ι:=Nat) [2,3] (fun j=>[(5,.c (.int .i64 (j:Int)))]) (fun _ oo=>oo) (fun j=>j≤l.length∧TrT.sames l l'=TrT.sames (l.drop j) (l'.drop j)) (fun j=>l.length-j) 0 (⟨Nat.zero_le _,rfl⟩) (QQ (.cons rfl lr (.cons rfl lr (.cons rfl lr .nil))) (Reown.refl _) (fun _ h=>by first|exact h|simp[h])) ?_))))))
    intro j ⟨hj,hs⟩
    refine J.conv (by(try simp only[nl,Qj,QA,QC,Qy,QZ,AV.cellsOf,Qc,Qd,Nat.reduceAdd]);rfl) ?_
    refine J.seq (Zs (Zm rfl (Zd UJ rfl (Zl 1 YN rfl (Zq rfl (by first|exact Qh Q6 (.r rfl) (TrT.css_length _ _)|exact Qh Q6 (.r rfl) (AtT.css_length _)|exact Qw Q6 (.r rfl)|exact QW.len_nil Q6 (.r rfl)) ?_)))))
    refine Zq rfl (QW.lss (.r rfl) (.r rfl)) (Zn ?_)
    refine J.cond (.r rfl) (fun c2=>?_) (fun c2=>?_)
    · skip
      have hlt:j<l.length:=by simpa[TrT.css_length]using c2
      have hlt2:j<l'.length:=by omega
      refine Zk (J.seq (J.block (J.seq (Ud 10 mixed (by kernel_rfl) (by kernel_rfl) (by kernel_rfl) rfl ?_))))
      refine .cons [] rfl rfl rfl (.q rfl (Qf UJ (.r rfl) rfl)) ?_
      refine .cons [49] rfl rfl rfl (.q rfl (Qb 1 YN (.r rfl) rfl rfl)) ?_
      refine .cons [] rfl rfl rfl (.q rfl (QW.move (.r rfl))) ?_
      refine .cons [50,51] rfl rfl rfl (.q rfl (Qi Q6 QB rfl (.r rfl) (.r rfl) (by first|rfl|omega|(simp;done)) (by first|exact TrT.css_getE _ hlt|exact TrT.css_getE _ hlt2))) ?_
      refine .cons [52] rfl rfl rfl (.q rfl (by first|exact Qm QB (.r rfl) rfl rfl|exact Qm QB (.r rfl) (QF (TrT.cs_length _ _) rfl) (TrT.cs_length _ _))) ?_
      refine .cons [] rfl rfl rfl (.q rfl (Qf UJ (.r rfl) rfl)) ?_
      refine .cons [54] rfl rfl rfl (.q rfl (Qb 0 YN (.r rfl) rfl rfl)) ?_
      refine .cons [] rfl rfl rfl (.q rfl (QW.move (.r rfl))) ?_
      refine .cons [55,56] rfl rfl rfl (.q rfl (Qi Q6 QB rfl (.r rfl) (.r rfl) (by first|rfl|omega|(simp;done)) (by first|exact TrT.css_getE _ hlt|exact TrT.css_getE _ hlt2))) ?_
      refine .cons [57] rfl rfl rfl (.q rfl (by first|exact Qm QB (.r rfl) rfl rfl|exact Qm QB (.r rfl) (QF (TrT.cs_length _ _) rfl) (TrT.cs_length _ _))) ?_
      refine .nil ?_
      refine Zq rfl (QW.call Pc (.cons (.r rfl) (.cons (.r rfl) .nil)) (ih (hwi _ (List.getElem_mem _)) (hwi' _ (List.getElem_mem _)) (TrT.sz_get hn hlt))) (Zq rfl (QW.not (.r rfl)) (Zn ?_))
      refine J.cond (.r rfl) (fun c3=>?_) (fun c3=>?_)
      · skip
        have hno:l[j].same l'[j]=false:=by simpa using c3
        exact Zs (Zq rfl (QW.assign .const) (Zn (J.ret (blkQ.r (thenQ.r (thenQ.r (blkQ.r (thenQ.r (Zr [.k,.k] (RetEv.one rfl (REv.tmp rfl lr)) rfl ⟨U0 (by rw[RH hlt hlt2,hno]at hs;simp[TrT.same,hs]),rfl⟩)))))))))
      have hyes:l[j].same l'[j]=true:=by simpa using c3
      refine J.skip (blkQ.n (thenQ.n (Qg (Zm rfl (Zq rfl (QW.add (.r rfl) .const (by first|exact U6 (by first|rfl|omega|(simp;done)) (by omega)|exact Yy (by omega)|rfl)) ?_)))))
      refine Za rfl (Zn ?_)
      rw[RH hlt hlt2,hyes,Bool.true_and]at hs
      exact⟨j+1,⟨hlt,hs⟩,by omega,QQ (.cons rfl lr (.cons rfl lr (.cons rfl lr .nil))) (Reown.refl _) (fun _ h=>by first|exact h|simp[h])⟩
    have hge:l.length≤j:=by simpa[TrT.css_length]using c2
    refine J.exit (Qz (Qz (QY (thenQ.n (Zs (Zq rfl (QW.assign .const) (Zn (J.ret ?_))))))))
    have hz:TrT.sames l l'=true:=by
      rw[hs,List.drop_of_length_le hge,List.drop_of_length_le (by omega),TrT.sames]
    exact Zr [.k,.k] (RetEv.one rfl (REv.tmp rfl lr)) rfl ⟨U0 (by simp[TrT.same,hz,e1,e2,e3,e4]),rfl⟩
theorem RP{v u:TrT}{fr fr2:Bool}(hw:v.wf)(hw2:u.wf):Fn Tryz.prog 21 [.agg (v.cs fr),.agg (u.cs fr2)] (.c (.bool (v.same u))):=T2 _ hw hw2 (Nat.le_refl _)

end
section
/- An append onto an own array after which both the old slice and the new one are read alone. -/
section
variable {P:Program} {E:Wy} {Q:Exit→St→Prop} {n:Nat} {env:List (Nat×AV)} {own:List Own} {F:List (Value×AV)} {D:List Deferred} {ops:Array Oper} {rest:List Oper}
variable {A:QS} {a:Act} {w w':World} {t tx et ty:TypeId} {pos:String} {af:Array Edge} {d:Nat} {s x y:Operand}
theorem D5(i:Nat){v:Value}{e:U7}{xs ys:List (List AV)}(hU:P.underlying t=some (.slice et))(hE:WU P et e=true)(hb0:Nat.blt 0 e.bytes=true)(hsv:Ev E ⟨n,env,own,F,D⟩ s (.c v))
    (ho:own[i]? =some (.arr v e xs)) (hx:∀A a w,SatA E A ⟨n,env,own,F,D⟩ a w→SrcA P w A tx (a.eval x) e ys) (hreach:(xs.length+ys.length)*e.bytes≤Qr) (hd:Nat.blt d n=true)
    (h:∀v',(∃ad cp,v=.slice ad xs.length cp∧(cp<xs.length+ys.length∨v'=.slice ad (xs.length+ys.length) cp))→JL P E ops rest ⟨n,(d,.c v')::env,own.set i (.arr v' e (xs++ys)),F,D⟩ Q):
    JL P E ops (⟨some d,.call ⟨.builtin .append,#[s,x],#[t,tx]⟩,ty,pos,af,none⟩::rest) ⟨n,env,own,F,D⟩ Q:=fun a w ⟨A,hA⟩=>by
  refine wpListIn_plain rfl fun K hK=>?_
  refine Hd (by intro c h;cases h) ?_
  unfold Oper.wp
  obtain⟨ti,tz,hi,hsz,hby,hz,hzs,hz1⟩:=Y5 hE
  obtain⟨news,hsrc,hnc,hyl⟩:=hx A a w hA
  rw[← hsz]at hsrc
  have hb1:1≤e.bytes:=Ui hb0
  have hneed:xs.length+ys.length≤Qr:=Nat.le_trans (Nat.le_mul_of_pos_right _ hb1) hreach
  unfold Qr at hneed hreach
  have hnl:news.length=ys.flatten.length:=by rw[hsrc.newsLen,hsz,QE ys hyl]
  have h63:((xs.length+ys.length:Nat):Int)≤9223372036854775807:=by omega
  have hfit:∀sCap,sCap<xs.length+ys.length→Builtin.nextslicecap (xs.length+ys.length) sCap*ti.bytes≤281474976710656:=fun sCap hlt=>growslice_fits hlt (by rw[hby];omega)
  have hgw:∀fr b,A fr b→b<w.heap.size→∀o,(QH (Q9 w) o).heap[b]? =w.heap[b]? :=fun fr b _ hlt o=>(Keep.push [] (Q9 w) o).block b hlt (by simp)
  -- a new row
  have grow:∀(base:Option Addr) (sCap:Nat) (olds:List Value),v=.slice base xs.length sCap→(Builtin.firstCells ti.size xs.length (.slice base xs.length sCap)).run P w.drew=.ok olds.toArray w.drew→
      olds.length=xs.flatten.length→(∀x∈xs,x.length=e.sz)→Cells w A olds.toArray 0 xs.flatten→sCap<xs.length+ys.length→
      Oper.wp P ⟨some d,.call ⟨.builtin .append,#[s,x],#[t,tx]⟩,ty,pos,af,none⟩ a w K (Wh E Q):=by
    intro base sCap olds hv hold hol hxl hoc hlt
    have hr:=run_append_grow_src (P:=P) w t tx ty et ti tz hU hi hz base xs.length sCap olds hold (a.eval x) ys.length news hsrc hlt h63 (hfit _ hlt)
    have hge:=grownCap_ge w (xs.length+ys.length) sCap et
    unfold Oper.wp
    rw[Um (hsv.eq hA) rfl (by rw[hv];exact hr),Oper.upon_value,G4]
    refine hK _ _ (h _ ⟨base,sCap,hv,.inl hlt⟩ _ _ ⟨A,SatA.put ?_ (Ui hd) (.c _)⟩)
    have hd':=hA.draw
    obtain⟨cap,hcap⟩:∃cap,grownCap w (xs.length+ys.length) sCap et=cap+1:=⟨grownCap w (xs.length+ys.length) sCap et-1,by omega⟩
    have hxy:(xs++ys).length=xs.length+ys.length:=by simp
    refine hd'.step (.push _ _ _) (fun _ _ h=>h) (hd'.hp.moved hd'.keep.size ho (o':=.arr _ e (xs++ys)) ?_ (.inr ⟨w.heap.size,cap,_,et,by rw[hxy,hcap],Ya _ _,by omega,?_,?_,?_⟩))
    · rw[hcap];rfl
    · refine KJ ?_ (hoc.ones hol) hsrc.one hz1
      have hol':=QE xs hxl
      have hyl':=QE ys hyl
      simp only[Array.size_append,List.size_toArray,List.length_append,size_zeroCells,hzs,hol,hnl,hol',hyl',hcap]
      rw[← Nat.add_mul,← Nat.add_mul]
      congr 1;omega
    · intro z hz'
      rcases List.mem_append.1 hz' with hz'|hz'
      · exact hxl z hz'
      · exact hyl z hz'
    · rw[List.flatten_append]
      intro k y hk
      rw[Nat.zero_add]
      by_cases hk1:k<xs.flatten.length
      · rw[List.getElem?_append_left hk1]at hk
        obtain⟨u,h1,h0,h2⟩:=hoc k y hk
        refine⟨u,?_,h0,h2.move (fun _ _ h _=>h) fun fr b hb hlt=>hgw fr b hb hlt _⟩
        rw[Nat.zero_add]at h1
        rw[Array.getElem?_append_left (by simp;omega)]
        simp only[List.getElem?_toArray]at h1⊢
        rw[List.getElem?_append_left (by omega)];exact h1
      · rw[List.getElem?_append_right (by omega)]at hk
        have hk2:=(List.getElem?_eq_some_iff.1 hk).1
        obtain⟨u,h1,h0,h2⟩:=hnc _ y hk
        refine⟨u,?_,h0,h2.move (fun _ _ h _=>h) fun fr b hb hlt=>hgw fr b hb hlt _⟩
        rw[Nat.zero_add]at h1
        rw[Array.getElem?_append_left (by simp;omega)]
        simp only[List.getElem?_toArray]at h1⊢
        rw[List.getElem?_append_right (by omega),hol];exact h1
  rcases hA.arr i ho with ⟨a0,hv,hxs⟩|⟨b,cap,us,t',hv,hb,hle,hus,hxl,hc⟩
  · subst hxs
    by_cases hys:ys=[]
    · subst hys
      have hn0:news=[]:=List.eq_nil_of_length_eq_zero (by simpa using hnl)
      subst hn0
      have hc0:(Builtin.firstCells ti.size 0 (a.eval x)).run P w=.ok #[] w:=by simpa using hsrc.cells
      have hr:(Builtin.append_ #[t,tx] ty #[v,a.eval x]).run P w=.ok v w:=by
        rcases hsrc.kind with ⟨e',hk⟩|hk<;>cases a0<;>simp[hv,Builtin.append_,Qq _ hU,Qq _ hk,sizeOf,typeInfo,hi,hsrc.len,hc0,storeCells]
      rw[Um (hsv.eq hA) rfl hr,Oper.upon_value]
      refine hK _ _ (h v ⟨a0,0,hv,.inr hv⟩ _ _ ⟨A,SatA.put ?_ (Ui hd) (.c _)⟩)
      have:own.set i (.arr v e ([]++[]))=own:=by
        have hlt:=(List.getElem?_eq_some_iff.1 ho)
        apply List.ext_getElem?
        intro k
        rw[List.getElem?_set]
        split
        · rename_i hik;subst hik;rw[if_pos hlt.1,ho];rfl
        · rfl
      rw[this];exact hA
    · have:0<ys.length:=List.length_pos_iff.2 hys
      refine grow a0 0 [] hv ?_ (by simp) (fun x hx=>by cases hx) (fun k y hk=>by simp at hk) (by simp;omega)
      cases a0 with
      |none=>exact run_firstCells_none w.drew ti.size 0 0 0
      |some a'=>exact run_firstCells_some w.drew ti.size 0 a' 0 0 [] (by simp) (by intro _ _ h';simp at h')
  · have hfl:=QE xs hxl
    by_cases hroom:xs.length+ys.length≤cap+1
    · -- in place
      have hml:xs.length*e.sz+news.length≤us.size:=by rw[hsrc.newsLen,hsz,hus.size,← Nat.add_mul];exact Nat.mul_le_mul_right _ hroom
      obtain⟨w1,us1,hr1,hk1,hz1,hb1,hs1,hu1⟩:=WB (P:=P) (off:=xs.length*e.sz) news 0 us w hb (by simpa using hml) (List.all_eq_true.2 hsrc.one)
      have hr:(Builtin.append_ #[t,tx] ty #[v,a.eval x]).run P w=.ok (.slice (some ⟨b,0,none⟩) (xs.length+ys.length) (cap+1)) w1:=by
        rw[← hsz]at hr1
        rcases hsrc.kind with ⟨e',hk⟩|hk<;>simp[hv,Builtin.append_,Qq _ hU,Qq _ hk,sizeOf,typeInfo,hi,hsrc.len,hroom,hsrc.cells,Wv,hr1]
      rw[Um (hsv.eq hA) rfl hr,Oper.upon_value]
      refine hK _ _ (h _ ⟨some ⟨b,0,none⟩,cap+1,hv,.inr rfl⟩ _ _ ⟨A,SatA.put ?_ (Ui hd) (.c _)⟩)
      have hmem:=List.mem_of_getElem? ho
      have hof:(Own.arr v e xs).fp=[b]:=by rw[hv];rfl
      have hfp:∀fr c,A fr c→c<w.heap.size→w1.heap[c]? =w.heap[c]? :=fun fr c hc hlt=>hk1.block c hlt fun hm'=>by
        exact(hA.hp.fp c (Ur hmem (by rw[hof];exact hm'))).2.2 fr hc
      refine hA.step (hk1.mono fun c hc=>Ur hmem (by rw[hof];exact hc)) (fun _ _ h=>h) (hA.hp.upd (o':=.arr (.slice (some ⟨b,0,none⟩) (xs.length+ys.length) (cap+1)) e (xs++ys)) ho (by rw[hof];rfl) (by rw[hof];exact hk1) hz1
        (.inr ⟨b,cap,us1,t',by simp,hb1,by simpa using hroom,⟨by rw[hs1,hus.size],fun k u hk=>by
          rw[hu1 k]at hk
          split at hk
          · exact hsrc.one u (List.mem_of_getElem? hk)
          · exact hus.one k u hk⟩,fun z hz'=>?_,?_⟩))
      · rcases List.mem_append.1 hz' with hz'|hz'
        · exact hxl z hz'
        · exact hyl z hz'
      · rw[List.flatten_append]
        intro k y hk
        rw[Nat.zero_add,hu1 k]
        by_cases hk1':k<xs.flatten.length
        · rw[List.getElem?_append_left hk1']at hk
          obtain⟨u,h1,h0,h2⟩:=hc k y hk
          rw[Nat.zero_add]at h1
          exact⟨u,by rw[if_neg (by omega)];exact h1,h0,h2.move (fun _ _ h _=>h) hfp⟩
        · rw[List.getElem?_append_right (by omega)]at hk
          have hk2:=(List.getElem?_eq_some_iff.1 hk).1
          obtain⟨u,h1,h0,h2⟩:=hnc _ y hk
          rw[Nat.zero_add,List.getElem?_toArray]at h1
          refine⟨u,?_,h0,h2.move (fun _ _ h _=>h) hfp⟩
          rw[if_pos (by omega),← h1,hfl,Nat.add_zero]
    · have hcu:∀k,k<xs.flatten.length→us[k]? =some (us.getD k undef):=fun k hk=>by
        obtain⟨u,h1,_,_⟩:=hc k _ (List.getElem?_eq_getElem hk)
        rw[Nat.zero_add]at h1
        simp[Array.getD_eq_getD_getElem?,h1]
      have hget:∀k u,((List.range (xs.length*e.sz)).map fun k=>us.getD k undef)[k]? =some u→k<xs.length*e.sz∧u=us.getD k undef:=fun k u hk=>by
        rw[List.getElem?_map]at hk
        by_cases hlt:k<xs.length*e.sz
        · rw[List.getElem?_range hlt]at hk;cases hk;exact⟨hlt,rfl⟩
        · rw[List.getElem?_eq_none (by simpa using hlt)]at hk;cases hk
      refine grow (some ⟨b,0,none⟩) (cap+1) ((List.range (xs.length*e.sz)).map fun k=>us.getD k undef) hv ?_ (by rw[hfl];simp) hxl (fun k y hk=>?_) (by omega)
      · refine run_firstCells_some w.drew ti.size xs.length ⟨b,0,none⟩ xs.length (cap+1) _ (by rw[hsz];simp) fun j u hj=>?_
        obtain⟨h1,rfl⟩:=hget j u hj
        have:w.drew.heap[b]? =some (.cells us t' (0,0)):=hb
        rw[Wv,Xy this,Nat.zero_add]
        exact hcu j (by omega)
      · obtain⟨u,h1,h0,h2⟩:=hc k y hk
        have hlt:k<xs.length*e.sz:=by rw[← hfl];exact(List.getElem?_eq_some_iff.1 hk).1
        rw[Nat.zero_add]at h1⊢
        exact⟨u,by simp[hlt,Array.getD_eq_getD_getElem?,h1],h0,h2⟩
theorem Rd.prefix{A:QS}{w:World}{ad:Option Addr}{cp:Nat}{fr:Bool}{e:U7}{xs ys:List (List AV)}(h:Rd w A (.slice ad (xs.length+ys.length) cp) (.sl fr false e (xs++ys))):Rd w A (.slice ad xs.length cp) (.sl fr false e xs):=by
  by_cases hx:xs=[]
  · subst hx;exact .emp _ _ _ _ _ (fun h=>by cases h)
  · generalize hz:xs++ys=zs at h
    generalize hv:Value.slice ad (xs.length+ys.length) cp=v at h
    cases h with
    |emp=>exact absurd (List.append_eq_nil_iff.1 hz).1 hx
    |sl _ _ _ _ b off cap cs t fz u hA hb hcap hclip hsz hreach hu hr=>
      subst hz
      injection hv with e1 e2 e3
      subst e1 e3
      have hfl:∀k y,xs.flatten[k]? =some y→(xs++ys).flatten[k]? =some y:=fun k y hk=>by
        rw[List.flatten_append,List.getElem?_append_left (List.getElem?_eq_some_iff.1 hk).1];exact hk
      simp only[List.length_append]at hcap hreach
      exact .sl _ _ _ _ b off _ cs t fz u hA hb (by omega) (fun h=>by cases h) (fun x hx=>hsz x (by simp[hx])) (Nat.le_trans (Nat.mul_le_mul_right _ (Nat.le_add_right _ _)) hreach) (fun k y hk=>hu k y (hfl k y hk)) (fun k y hk=>hr k y (hfl k y hk))
theorem Rd.full{A:QS}{w:World}{ad:Option Addr}{fr:Bool}{e:U7}{xs:List (List AV)}(h:Rd w A (.slice ad xs.length xs.length) (.sl fr false e xs)):Rd w A (.slice ad xs.length xs.length) (.sl fr true e xs):=by
  generalize hv:Value.slice ad xs.length xs.length=v at h
  cases h with
  |emp _ _ _ a cap hc=>cases hv;exact .emp _ _ _ _ _ (fun _=>rfl)
  |sl _ _ _ _ b off cap cs t fz u hA hb hcap hclip hsz hreach hu hr=>cases hv;exact .sl _ _ _ _ b off _ cs t fz u hA hb (Nat.le_refl _) (fun _=>rfl) hsz hreach hu hr
theorem SatA.fact{v:Value}{x:AV}(h:SatA E A ⟨n,env,own,F,D⟩ a w)(hr:Rd w A v x):SatA E A ⟨n,env,own,(v,x)::F,D⟩ a w:=
  ⟨h.size,h.defers,h.keep,h.hp,h.env,fun p hp=>by rcases List.mem_cons.1 hp with rfl|hp;exact hr;exact h.facts p hp⟩
theorem MP(i:Nat){v:Value}{e:U7}{xs ys:List (List AV)}{own':List Own}(hU:P.underlying t=some (.slice et))(hE:WU P et e=true)(hb0:Nat.blt 0 e.bytes=true)
    (hsv:∀own F,Ev E ⟨n,env,own,F,D⟩ s (.c v)) (ho:own[i]? =some (.arr v e xs)) (hx:∀own F A a w,SatA E A ⟨n,env,own,F,D⟩ a w→SrcA P w A tx (a.eval x) e ys) (hm:ys.length=1) (hreach:(xs.length+ys.length)*e.bytes≤Qr) (hd:Nat.blt d n=true)
    (ho':own.eraseIdx i=own') (hfp:∀b∈E.fp0,b∈UM own')
    (h:∀v',JL P E ops rest ⟨n,(d,.c v')::env,own',(v',.sl true false e (xs++ys))::(v,.sl true false e xs)::F,D⟩ Q):
    JL P E ops (⟨some d,.call ⟨.builtin .append,#[s,x],#[t,tx]⟩,ty,pos,af,none⟩::rest) ⟨n,env,own,F,D⟩ Q:=fun a w ⟨A,hA⟩=>by
  subst ho'
  have hr1:xs.length*e.bytes≤Qr:=Nat.le_trans (Nat.mul_le_mul_right _ (Nat.le_add_right _ _)) hreach
  have hxy:(xs++ys).length*e.bytes≤Qr:=by rw[List.length_append];exact hreach
  obtain⟨ad,cp,hv,hcp⟩:∃ad cp,v=.slice ad xs.length cp∧xs.length≤cp:=by
    rcases hA.arr i ho with ⟨a0,hv,hxs⟩|⟨b,cap,us,t',hv,hb,hle,_⟩
    · subst hxs;exact⟨a0,0,hv,Nat.le_refl _⟩
    · exact⟨_,_,hv,by omega⟩
  by_cases hfull:cp=xs.length
  · subst hfull
    obtain⟨A1,h1⟩:=hA.closeArr ho hr1 hfp
    have h2:Rd w A1 v (.sl true true e xs):=by
      have:=h1.facts _ (List.mem_cons_self)
      simp only[hv]at this⊢
      exact this.full
    have h3:=(h1.fact h2).reown (YA _)
    refine D6 (own.eraseIdx i).length (P:=P) (ops:=ops) (rest:=rest) (Q:=Q) (E:=E) hU hE hb0 (Ev.le (hsv _ _) (.fact List.mem_cons_self (.refl _))) (by simp) (fun A a w hh=>hx _ _ A a w hh) (by omega) hreach hd (fun v'=>?_) a w ⟨A1,h3⟩
    have hset:(own.eraseIdx i++[Own.grp []]).set (own.eraseIdx i).length (.arr v' e (xs++ys))=own.eraseIdx i++[.arr v' e (xs++ys)]:=by rw[List.set_append_right _ _ (Nat.le_refl _)];simp
    rw[hset]
    refine JL.closeArr (v:=v') (e:=e) (xs:=xs++ys) (own.eraseIdx i).length (by simp) hxy (own':=own.eraseIdx i) (by rw[List.eraseIdx_append_of_length_le (Nat.le_refl _)];simp) hfp ?_
    intro a w ⟨A2,h4⟩
    refine h v' a w ⟨A2,?_⟩
    exact⟨h4.size,h4.defers,h4.keep,h4.hp,h4.env,fun p hp=>h4.facts p (by rcases List.mem_cons.1 hp with rfl|hp;exact List.mem_cons_self;exact List.mem_cons_of_mem _ (List.mem_cons_of_mem _ hp))⟩
  · refine D5 i hU hE hb0 (hsv _ _) ho (fun A a w hh=>hx _ _ A a w hh) hreach hd (fun v' hinfo=>?_) a w ⟨A,hA⟩
    obtain⟨ad2,cp2,e1,e2⟩:=hinfo
    rw[hv]at e1
    injection e1 with e3 _ e4
    subst e3 e4
    have hv':v'=.slice ad (xs.length+ys.length) cp:=e2.resolve_left (by omega)
    have hlt:=(List.getElem?_eq_some_iff.1 ho).1
    have he:(own.set i (Own.arr v' e (xs++ys))).eraseIdx i=own.eraseIdx i:=List.eraseIdx_set_eq
    refine fun a w ⟨A2,h4⟩=>?_
    obtain⟨A3,h5⟩:=h4.closeArr (i:=i) (v:=v') (e:=e) (xs:=xs++ys) (by simp[hlt]) hxy (by rw[he];exact hfp)
    rw[he]at h5
    have h6:=h5.facts _ (List.mem_cons_self)
    simp only[hv']at h6
    have h7:Rd w A3 v (.sl true false e xs):=by rw[hv];exact h6.prefix
    refine h v' a w ⟨A3,?_⟩
    exact⟨h5.size,h5.defers,h5.keep,h5.hp,h5.env,fun p hp=>by
      rcases List.mem_cons.1 hp with rfl|hp
      · exact h5.facts _ List.mem_cons_self
      · rcases List.mem_cons.1 hp with rfl|hp
        · exact h7
        · exact h5.facts p (List.mem_cons_of_mem _ hp)⟩
end

end
section
/- ViewLists. -/
set_option maxRecDepth 10000
set_option maxHeartbeats 4000000
def MK(s:QN):QN:=s.take (min s.length 128)
theorem Tn(s:QN):(MK s).length≤128:=by unfold MK;rw[List.length_take];omega
theorem li_at{cs:List QN}{k:Nat}(h:k<cs.length):(TrT.css true (cs.map MD))[k]? =some ((MD cs[k]).cs true):=by rw[TrT.css_eq];simp[h]
theorem li_at2{cs:List QN}{s:QN}{k:Nat}(h:k<cs.length):(TrT.css true ((cs++[s]).map MD))[k]? =some ((MD cs[k]).cs true):=by rw[TrT.css_eq,List.map_append,List.map_append,List.getElem?_append_left (by simp[h])];simp[h]
theorem SP{cs:List QN}{s:QN}:(TrT.css true ((cs++[s]).map MD))[cs.length]? =some ((MD s).cs true):=by rw[TrT.css_eq,List.map_append,List.map_append,List.getElem?_append_right (by simp)];simp
theorem liT_wf{s:QN}(h:s.length≤128):(MD s).wf:=.mk (by decide) (by decide) (by decide) (by decide) (fun _ h=>by cases h) (by show 1*96≤Qr;decide) (fun x hx=>by rw[List.mem_singleton.1 hx];exact F1 h)
theorem Sk{t:TrT}(hw:t.wf):Fn Tryz.prog 21 [.agg (List.take 5 (List.drop 0 (AV.agg (List.take 5 (t.cs true))).cellsOf)),.agg (List.take 5 (t.cs true))] (.c (.bool (t.same t))):=by
  have h:List.take 5 (t.cs true)=t.cs true:=List.take_of_length_le (by rw[TrT.cs_length];exact Nat.le_refl _)
  simp only[AV.cellsOf,List.drop_zero,h]
  exact RP hw hw
theorem NE{l0:List QN}{s0:QN}(hn:l0.length*16≤Qr)(hs:s0.length≤Qr):Fn Tryz.prog 5 [.sl false false Wz (QP l0),.c (Q4 s0)] (.c (.bool true)):=by
  have hn1:l0.length≤9223372036854775805:=by unfold Qr at hn;omega
  obtain⟨l,hl⟩:∃l:List QN,l=l0.take (min l0.length 15):=⟨_,rfl⟩
  have hl15:l.length≤15:=by rw[hl,List.length_take];omega
  obtain⟨cs,hcs⟩:∃cs:List QN,cs=l.map MK:=⟨_,rfl⟩
  have hc15:cs.length≤15:=by rw[hcs,List.length_map];exact hl15
  have hc128:∀x∈cs,x.length≤128:=fun x hx=>by rw[hcs]at hx;obtain⟨y,-,rfl⟩:=List.mem_map.1 hx;exact Tn y
  obtain⟨s1,hs1⟩:∃s1,s1=MK s0:=⟨_,rfl⟩
  have hd128:∀x∈cs++[s1],x.length≤128:=fun x hx=>(List.mem_append.1 hx).elim (hc128 x) fun h=>by rw[List.mem_singleton.1 h,hs1];exact Tn s0
  have hd16:(cs++[s1]).length≤16:=by simp;omega
  refine AC.of_J Tryz.func5 rfl Tryz.ntmps5 rfl fun w0 A0=>?_
  refine Zs (Zq rfl (QW.assign .const) (Zn (J.seq (Zs (Zq rfl (QW.call gofn23 .nil (DP)) (Zq rfl (QW.not (.r rfl)) (Zn ?_)))))))
  refine J.cond (.r rfl) (fun c1=>?_) (fun c1=>?_)
  · skip
    exact absurd c1 (by simp)
    --closed
  skip
  refine Zk (Zs (Zm rfl (Zm rfl (Zq rfl (by first|exact Qh Ue (.r rfl) wl|exact Qh Ue (.r rfl) (TmT.css_length _ _)|exact Qh Ue (.r rfl) (SetT.css_length _ _)|exact Qh Ue (.r rfl) (TrT.css_length _ _)|exact Qh Ue (.r rfl) (AtT.css_length _)|exact Qh Ue (.r rfl) (Qp _)|exact Qw Ue (.r rfl)|exact QW.len_nil Ue (.r rfl)) ?_))))
  refine Zq rfl (QW.min2 (.r rfl) .const) (Zq rfl ((DW (h:=min l0.length 15) Ue UO rfl (.r rfl) (.r rfl) (by first|omega|(rw[Qp];omega)) (by rw[Qp];omega)).conv (show AV.sl _ _ _ _=AV.sl false false Wz (QP l) by rw[hl];simp[QP,List.map_take])) ?_)
  refine Za rfl (Zn (Zs (Zq rfl (QW.assign .const) (Zn (J.seq (Zs (Zq rfl (QW.assign .const) (Zn (J.block ?_)))))))))
  refine J.reown (Up Wz _) (Ua (ι:=Nat×Value) [0,1,4] (fun⟨i,v⟩=>[(6,.c (.int .i64 (i:Int))),(5,.c v)]) (fun⟨i,v⟩ oo=>List.set oo 0 (.arr v Wz (QP ((l.take i).map MK)))) (fun⟨i,v⟩=>i≤l.length) (fun⟨i,v⟩=>l.length-i) ⟨0,.slice none 0 0⟩ (Nat.zero_le _) (QQ (.cons rfl lr (.cons rfl lr (.cons rfl lr (.cons rfl lr (.cons rfl lr .nil))))) (Reown.refl _) (fun _ h=>by first|exact h|simp[h])) ?_)
  intro⟨i,v⟩ hi
  refine J.conv (by(try simp only[nl,Qj,QA,QC,Qy,QZ,AV.cellsOf,Qc,Qd,Nat.reduceAdd]);rfl) ?_
  refine J.seq (Zs (Zm rfl (Zm rfl (Zq rfl (by first|exact Qh Ue (.r rfl) wl|exact Qh Ue (.r rfl) (TmT.css_length _ _)|exact Qh Ue (.r rfl) (SetT.css_length _ _)|exact Qh Ue (.r rfl) (TrT.css_length _ _)|exact Qh Ue (.r rfl) (AtT.css_length _)|exact Qh Ue (.r rfl) (Qp _)|exact Qw Ue (.r rfl)|exact QW.len_nil Ue (.r rfl)) ?_))))
  refine Zq rfl (QW.lss (.r rfl) (.r rfl)) (Zn ?_)
  refine J.cond (.r rfl) (fun c2=>?_) (fun c2=>?_)
  · skip
    have hlt:i<l.length:=by simpa[Qp]using c2
    refine Zk (J.seq (J.block (FN [5] mixed (Zf 0 [] rfl (fun _=>QW.move (.r rfl)) (Zf 1 [] rfl (fun _=>QW.move (.r rfl)) (Zf 2 [] rfl (fun _=>QW.move (.r rfl)) (Zf 3 [28,29] rfl (fun _=>Qi Ue UO rfl (.r rfl) (.r rfl) (by first|rfl|omega|(simp;done)) (by exact WE hlt)) ?_)))))))
    refine Zf 4 [30] rfl (fun _=>Qv UO (.r rfl) rfl) (Zf 5 [] rfl (fun _=>QW.move (.r rfl)) (Zf 6 [] rfl (fun _=>QW.move (.r rfl)) (Zf 7 [32,33] rfl (fun _=>Qi Ue UO rfl (.r rfl) (.r rfl) (by first|rfl|omega|(simp;done)) (by exact WE hlt)) ?_)))
    refine Zf 8 [34] rfl (fun _=>Qv UO (.r rfl) rfl) (Zf 9 [35] rfl (fun _=>U3 Mx (.r rfl)) (Zf 10 [36] rfl (fun _=>QW.min2 (.r rfl) .const) (Zf 11 [31,37] rfl (fun _=>H6 (l:=l[i]) (i:=if 128<(l[i].length:Int)then 128 else(l[i].length:Int)) (m:=min l[i].length 128) Mx (.r rfl) (.r rfl) (by omega) (by omega)) (Zf 12 [38] rfl (fun _=>QW.buildSlice (idx:=[0]) (xs:=[[AV.c (Q4 (MK l[i]))]]) (zs:=[AV.c (Q4 (MK l[i]))]) Ue Pw z9 rfl (.cons (.r rfl) .nil) rfl rfl rfl rfl rfl rfl rfl rfl rfl) (JX.one 13 [true,true,true,true,true,true,true,true,true,true,true,true,true] rfl (by kernel_rfl) (by kernel_rfl) rfl rfl (by kernel_rfl) rfl fun bs13_ pe_ ex_=>?_)))))
    refine JL.conv (by(try simp only[Ug,Uo,Q8,Q0,Flt.val,Flt.bx,nx,nl,Qj,QA,QC,Qy,QZ,AV.cellsOf,Qc,Qd,Nat.reduceAdd]);rfl) ?_
    refine JL.append 0 Ue Pw rfl (.r rfl) rfl (U8 Ue (.r rfl)) (by rw[Qp,List.length_map,List.length_take];show(_+1)*16≤_;unfold Qr;omega) rfl fun v40=>?_
    refine JL.nil ?_
    refine thenQ.n ⟨[_],_,rfl,rfl,rfl,rfl,rfl,QM 1 rfl,⟨rfl,rfl⟩,trivial,?_⟩
    refine JX.conv (S':=[13,12,11,10,9,8,7,6,5,4,3,2,1,0]) rfl (by(try simp only[Q0]);rfl) (by(try simp only[Ug,Uo,Q8,Q0,Flt.val,Flt.bx,nx,nl,Qj,QA,QC,Qy,QZ,AV.cellsOf,Qc,Qd,Nat.reduceAdd]);rfl) ?_
    refine JX.last 14 rfl (by kernel_rfl) (by kernel_rfl) rfl rfl (by kernel_rfl) (by kernel_rfl) fun bs_=>?_
    refine JL.conv (by(try simp only[Ug,Uo,Q8,Q0,Flt.val,Flt.bx,nx,nl,Qj,QA,QC,Qy,QZ,AV.cellsOf,Qc,Qd,Nat.reduceAdd]);rfl) ?_
    refine Za rfl (Zn (blkQ.n (thenQ.n (Qg (Zm rfl (Zq rfl (QW.add (.r rfl) .const (by first|exact U6 (by first|rfl|omega|(simp;done)) (by omega)|exact Yy (by omega)|rfl)) ?_))))))
    refine Za rfl (Zn ?_)
    rw[show QP ((l.take i).map MK)++[[AV.c (Q4 (MK l[i]))]]=QP ((l.take (i+1)).map MK) by rw[List.take_succ_eq_append_getElem hlt,List.map_append,K7];rfl]
    exact⟨⟨i+1,v40⟩,hlt,by show l.length-(i+1)<l.length-i;omega,QQ (.cons rfl lr (.cons rfl lr (.cons rfl lr (.cons rfl lr (.cons rfl lr .nil))))) (Reown.refl _) (fun _ h=>by first|exact h|simp[h])⟩
  obtain rfl:i=l.length:=by(simp[Qp]at c2;omega)
  rw[List.take_length,← hcs]
  refine J.exit (Qz (Qz (QY (thenQ.n (Zs (Zm rfl (Zm rfl (Zq rfl (U3 Mx (.r rfl)) (Zq rfl (QW.min2 (.r rfl) .const) ?_)))))))))
  refine Zq rfl ((H6 (l:=s0) (m:=min s0.length 128) Mx (.r rfl) (.r rfl) (by omega) (by omega)).conv (show _=AV.c (Q4 s1) by rw[hs1];rfl)) ?_
  refine Za rfl (Zn (Zs (Zq rfl (QW.call Dr .nil (Ho)) (Zq rfl (QW.call N4 (.cons (.r rfl) .nil) (NN (t:=K6) GK)) (Zm rfl (Zq rfl (HH [.l] Dq (Lent.cons (Lent.arr (by rw[Qp];show _*16≤_;unfold Qr;omega)) Lent.nil) rfl (by first|rfl|simp[QZ]) (fun _=>(.cons (Ev.le (.r rfl) (.fact (.head _) (.refl _))) .nil)) (Gg (fr:=false) (c:=false) (l:=cs) (by omega)) (V.fresh (tV _))) ?_))))))
  refine Zq rfl (QW.call Dt (.cons (.r rfl) (.cons (.r rfl) (.cons .const .nil))) (Kv (l:=cs) (fr:=true) (fr2:=true) (f:=999) (by omega) hc128 (by omega) (by decide))) ?_
  refine Zm rfl (Zx rfl (Zx rfl (JL.alloc z46 rfl rfl fun b7=>?_)))
  first|refine Qa 0 QB (.r rfl) rfl (.r rfl) (by first|rfl|assumption) rfl rfl rfl ?_|refine Qa 0 QB (.r rfl) rfl (.r rfl) (by first|rfl|assumption) rfl (TrT.cs_length _ _) rfl ?_|refine Qa 0 QB (.r rfl) rfl (.r rfl) (by first|rfl|assumption) rfl rfl rfl ?_|refine Qa 0 QB (.r rfl) rfl (.r rfl) (by first|rfl|assumption) (TrT.cs_length _ _) rfl rfl ?_|refine Qa 0 QB (.r rfl) rfl (.r rfl) (by first|rfl|assumption) (TrT.cs_length _ _) (TrT.cs_length _ _) rfl ?_|refine Qa 0 QB (.r rfl) rfl (.r rfl) (by first|rfl|assumption) (TrT.cs_length _ _) rfl rfl ?_|refine Qa 0 QB (.r rfl) rfl (.r rfl) (by first|rfl|assumption) rfl rfl rfl ?_|refine Qa 0 QB (.r rfl) rfl (.r rfl) (by first|rfl|assumption) rfl (TrT.cs_length _ _) rfl ?_|refine Qa 0 QB (.r rfl) rfl (.r rfl) (by first|rfl|assumption) rfl rfl rfl ?_|refine JL.store_box 0 QB (.r rfl) rfl (.r rfl) (by first|rfl|assumption) rfl rfl rfl rfl ?_|refine JL.store_box 0 QB (.r rfl) rfl (.r rfl) (by first|rfl|assumption) (TrT.cs_length _ _) rfl rfl rfl ?_|refine JL.store_box 0 QB (.r rfl) rfl (.r rfl) (by first|rfl|assumption) rfl rfl rfl rfl ?_
  refine Za rfl (Zn (Zs (Zq rfl (QW.call Dr .nil (Ho)) (Zq rfl (QW.call N4 (.cons (.r rfl) .nil) (NN (t:=K6) GK)) (Zm rfl (Zm rfl (Zq rfl (QW.buildSlice (idx:=[0]) (xs:=[[AV.c (Q4 s1)]]) (zs:=[AV.c (Q4 s1)]) Ue Pw z9 rfl (.cons (.r rfl) .nil) rfl rfl rfl rfl rfl rfl rfl rfl rfl) (MP (e:=Wz) 1 Ue Pw rfl (fun _ _=>.tmp rfl) rfl (fun _ _=>U8 Ue (.r rfl)) rfl (by rw[Qp];show(_+1)*16≤_;unfold Qr;omega) rfl rfl (fun _ h=>by cases h) fun v60=>?_))))))))
  rw[show QP cs++[[AV.c (Q4 s1)]]=QP (cs++[s1])from(K7 cs [s1]).symm]
  refine Zq rfl (QW.call Dq (.cons (Ev.le (.r rfl) (.fact (.head _) (.refl _))) .nil) (Gg (fr:=true) (c:=false) (l:=cs++[s1]) hd16)) (Zq rfl (QW.call Dt (.cons (.r rfl) (.cons (.r rfl) (.cons .const .nil))) (Kv (l:=cs++[s1]) (fr:=true) (fr2:=true) (f:=999) hd16 hd128 (by omega) (by decide))) ?_)
  refine Zm rfl (Zx rfl (Zx rfl (JL.alloc z46 rfl rfl fun b9=>?_)))
  first|refine Qa 0 QB (.r rfl) rfl (.r rfl) (by first|rfl|assumption) rfl rfl rfl ?_|refine Qa 0 QB (.r rfl) rfl (.r rfl) (by first|rfl|assumption) rfl (TrT.cs_length _ _) rfl ?_|refine Qa 0 QB (.r rfl) rfl (.r rfl) (by first|rfl|assumption) rfl rfl rfl ?_|refine Qa 0 QB (.r rfl) rfl (.r rfl) (by first|rfl|assumption) (TrT.cs_length _ _) rfl rfl ?_|refine Qa 0 QB (.r rfl) rfl (.r rfl) (by first|rfl|assumption) (TrT.cs_length _ _) (TrT.cs_length _ _) rfl ?_|refine Qa 0 QB (.r rfl) rfl (.r rfl) (by first|rfl|assumption) (TrT.cs_length _ _) rfl rfl ?_|refine Qa 0 QB (.r rfl) rfl (.r rfl) (by first|rfl|assumption) rfl rfl rfl ?_|refine Qa 0 QB (.r rfl) rfl (.r rfl) (by first|rfl|assumption) rfl (TrT.cs_length _ _) rfl ?_|refine Qa 0 QB (.r rfl) rfl (.r rfl) (by first|rfl|assumption) rfl rfl rfl ?_|refine JL.store_box 0 QB (.r rfl) rfl (.r rfl) (by first|rfl|assumption) rfl rfl rfl rfl ?_|refine JL.store_box 0 QB (.r rfl) rfl (.r rfl) (by first|rfl|assumption) (TrT.cs_length _ _) rfl rfl rfl ?_|refine JL.store_box 0 QB (.r rfl) rfl (.r rfl) (by first|rfl|assumption) rfl rfl rfl rfl ?_
  refine Za rfl (Zn (J.seq (Zs (Zm rfl (Zq rfl (QW.call Ds (.cons (.r rfl) .nil) (LP _)) (Zm rfl (Zq rfl (QW.call Ds (.cons (.r rfl) .nil) (LP _)) (Zq rfl (QW.add (.r rfl) (.r rfl) (by first|exact U6 (by first|rfl|omega|(simp;done)) (by omega)|exact Yy (by omega)|rfl)) ?_))))))))
  refine Zq rfl (QW.neq (.r rfl) .const) (Zm rfl (Zg rfl (fun hg=>(Qf UJ (.r rfl) rfl)) (Zg rfl (fun hg=>(Qb 1 YN (.when rfl hg) rfl rfl)) (Zg rfl (fun hg=>(by first|exact Qh Q6 (.when rfl hg) wl|exact Qh Q6 (.when rfl hg) (TmT.css_length _ _)|exact Qh Q6 (.when rfl hg) (SetT.css_length _ _)|exact Qh Q6 (.when rfl hg) (TrT.css_length _ _)|exact Qh Q6 (.when rfl hg) (AtT.css_length _)|exact Qh Q6 (.when rfl hg) (Qp _)|exact Qw Q6 (.when rfl hg)|exact QW.len_nil Q6 (.when rfl hg))) ?_))))
  refine Zg rfl (fun hg=>(QW.move (.r rfl))) (Zg rfl (fun hg=>(Qh Ue (Ev.le (.when rfl hg) (.fact (.tail _ (.head _)) (.refl _))) (Qp _))) (Zg rfl (fun hg=>(QW.neq (.when rfl hg) (.when rfl hg))) (Zq rfl (QW.pick_or (.r rfl) (.r rfl)) (Zm rfl (Zg rfl (fun hg=>(Qf UJ (.r rfl) rfl)) (Zg rfl (fun hg=>(Qb 0 YN (.when rfl hg) rfl rfl)) (Zg rfl (fun hg=>(by first|exact Qh Q6 (.when rfl hg) wl|exact Qh Q6 (.when rfl hg) (TmT.css_length _ _)|exact Qh Q6 (.when rfl hg) (SetT.css_length _ _)|exact Qh Q6 (.when rfl hg) (TrT.css_length _ _)|exact Qh Q6 (.when rfl hg) (AtT.css_length _)|exact Qh Q6 (.when rfl hg) (Qp _)|exact Qw Q6 (.when rfl hg)|exact QW.len_nil Q6 (.when rfl hg))) ?_)))))))
  refine Zg rfl (fun hg=>(QW.move (.r rfl))) (Zg rfl (fun hg=>(Qh Ue (Ev.le (.when rfl hg) (.fact (.tail _ (.head _)) (.refl _))) (Qp _))) (Zg rfl (fun hg=>(QW.add (.when rfl hg) .const (by first|exact U6 (by first|rfl|omega|(simp;done)) (by omega)|exact Yy (by omega)|rfl))) ?_))
  refine Zg rfl (fun hg=>(QW.neq (.when rfl hg) (.when rfl hg))) (Zq rfl (QW.pick_or (.r rfl) (.r rfl)) (Zn ?_))
  refine J.cond (.r rfl) (fun c3=>?_) (fun c3=>?_)
  · skip
    refine absurd c3 ?_
    simp[TrT.css_length,Qp]
    --closed
  skip
  refine Zk (J.seq (Zs (Zq rfl (QW.assign .const) (Zn (J.block (Ua (ι:=Nat) [1,5,7,9] (fun k=>[(11,.c (.int .i64 (k:Int)))]) (fun _ oo=>oo) (fun k=>k≤cs.length) (fun k=>cs.length-k) 0 (Nat.zero_le _) (QQ (.cons rfl lr (.cons rfl lr (.cons rfl lr (.cons rfl lr (.cons rfl lr .nil))))) (Reown.refl _) (fun _ h=>by first|exact h|simp[h])) ?_))))))
  intro k hk
  refine J.conv (by(try simp only[nl,Qj,QA,QC,Qy,QZ,AV.cellsOf,Qc,Qd,Nat.reduceAdd]);rfl) ?_
  refine J.seq (Zs (Zm rfl (Zm rfl (Zq rfl (Qh Ue (Ev.le (.r rfl) (.fact (.tail _ (.head _)) (.refl _))) (Qp _)) (Zq rfl (QW.lss (.r rfl) (.r rfl)) (Zn ?_))))))
  refine J.cond (.r rfl) (fun c4=>?_) (fun c4=>?_)
  · skip
    have hkl:k<cs.length:=by simpa[Qp]using c4
    refine Zk (J.seq (J.block (Zs (Zd UJ rfl (Zl 1 YN rfl (Zm rfl (Zq rfl (Qi Q6 QB rfl (.r rfl) (.r rfl) (by first|rfl|omega|(simp;done)) (by exact li_at hkl)) ?_)))))))
    refine Zq rfl (by first|exact Qm QB (.r rfl) rfl rfl|exact Qm QB (.r rfl) (QF (TrT.cs_length _ _) rfl) (TrT.cs_length _ _)|exact Qm QB (.r rfl) (QF rfl rfl) rfl) ?_
    refine JL.alloc z46 rfl rfl fun b12=>?_
    first|refine Qa 0 QB (.r rfl) rfl (.r rfl) (by first|rfl|assumption) rfl rfl rfl ?_|refine Qa 0 QB (.r rfl) rfl (.r rfl) (by first|rfl|assumption) rfl (TrT.cs_length _ _) rfl ?_|refine Qa 0 QB (.r rfl) rfl (.r rfl) (by first|rfl|assumption) rfl rfl rfl ?_|refine Qa 0 QB (.r rfl) rfl (.r rfl) (by first|rfl|assumption) (TrT.cs_length _ _) rfl rfl ?_|refine Qa 0 QB (.r rfl) rfl (.r rfl) (by first|rfl|assumption) (TrT.cs_length _ _) (TrT.cs_length _ _) rfl ?_|refine Qa 0 QB (.r rfl) rfl (.r rfl) (by first|rfl|assumption) (TrT.cs_length _ _) rfl rfl ?_|refine Qa 0 QB (.r rfl) rfl (.r rfl) (by first|rfl|assumption) rfl rfl rfl ?_|refine Qa 0 QB (.r rfl) rfl (.r rfl) (by first|rfl|assumption) rfl (TrT.cs_length _ _) rfl ?_|refine Qa 0 QB (.r rfl) rfl (.r rfl) (by first|rfl|assumption) rfl rfl rfl ?_|refine JL.store_box 0 QB (.r rfl) rfl (.r rfl) (by first|rfl|assumption) rfl rfl rfl rfl ?_|refine JL.store_box 0 QB (.r rfl) rfl (.r rfl) (by first|rfl|assumption) (TrT.cs_length _ _) rfl rfl rfl ?_|refine JL.store_box 0 QB (.r rfl) rfl (.r rfl) (by first|rfl|assumption) rfl rfl rfl rfl ?_
    refine Zn (J.seq (QV mixed (Zf 0 [] rfl (fun _=>Qf KC (.r rfl) rfl) (Zo 1 0 [99] rfl (fun _ ho_=>Qb 0 UO (.r rfl) ho_ rfl) (Zf 2 [100] rfl (fun _=>Wp (.r rfl) .const) (Zf 3 [101] rfl (fun _=>QW.move (.r rfl)) (Zh 4 [102] rfl (fun _ hg=>Qf UJ (.r rfl) rfl) (Zp 5 0 [103,102] rfl (fun _ ho_ hg=>Qb 0 YN (.when rfl hg) ho_ rfl) (Zh 6 [104,102] rfl (fun _ hg=>by first|exact Qh Q6 (.when rfl hg) wl|exact Qh Q6 (.when rfl hg) (TmT.css_length _ _)|exact Qh Q6 (.when rfl hg) (SetT.css_length _ _)|exact Qh Q6 (.when rfl hg) (TrT.css_length _ _)|exact Qh Q6 (.when rfl hg) (AtT.css_length _)|exact Qh Q6 (.when rfl hg) (Qp _)|exact Qw Q6 (.when rfl hg)|exact QW.len_nil Q6 (.when rfl hg)) ?_)))))))))
    refine Zh 7 [105,102] rfl (fun _ hg=>QW.neq (.when rfl hg) .const) (Zf 8 [102,106] rfl (fun _=>QW.pick_or (.r rfl) (.r rfl)) (Zf 9 [107] rfl (fun _=>QW.move (.r rfl)) (Zh 10 [108] rfl (fun _ hg=>Qf UJ (.r rfl) rfl) (Zp 11 0 [109,108] rfl (fun _ ho_ hg=>Qb 0 YN (.when rfl hg) ho_ rfl) (Zh 12 [110,108] rfl (fun _ hg=>Qi Q6 QB rfl (.when rfl hg) .const (by first|rfl|omega|(simp;done)) (by rfl)) ?_)))))
    refine Zh 13 [111,108] rfl (fun _ hg=>QL Hy (.when rfl hg) rfl) (Zh 14 [112,108] rfl (fun _ hg=>Qv UO (.when rfl hg) rfl) (Zh 15 [108] rfl (fun _ hg=>QW.move (.r rfl)) (Zh 16 [108] rfl (fun _ hg=>QW.move (.r rfl)) (Zh 17 [114,115,108] rfl (fun _ hg=>Qi Ue UO rfl (Ev.le (.when rfl hg) (.fact (.tail _ (.head _)) (.refl _))) (.when rfl hg) rfl (by exact WE hkl)) ?_))))
    refine Zh 18 [116,108] rfl (fun _ hg=>Qv UO (.when rfl hg) rfl) (Zh 19 [113,117,108] rfl (fun _ hg=>Wp (.when rfl hg) (.when rfl hg)) (Zf 20 [108,118] rfl (fun _=>QW.pick_or (.r rfl) (.r rfl)) (Zf 21 [119] rfl (fun _=>QW.move (.r rfl)) (Zp 22 0 [120] rfl (fun _ ho_ hg=>by first|exact Qe 0 QB (.r rfl) ho_ rfl rfl|exact Qe 0 QB (.r rfl) ho_ (Qo (TrT.cs_length _ _) rfl) (TrT.cs_length _ _)|exact Qe 0 QB (.r rfl) ho_ (Qo rfl rfl) rfl) ?_))))
    refine Zh 23 [120] rfl (fun _ hg=>Qf UJ (.r rfl) rfl) (Zp 24 1 [122,120] rfl (fun _ ho_ hg=>Qb 1 YN (.when rfl hg) ho_ rfl) (Zh 25 [120] rfl (fun _ hg=>QW.move (.r rfl)) (Zh 26 [123,124,120] rfl (fun _ hg=>Qi Q6 QB rfl (.when rfl hg) (.when rfl hg) (by first|rfl|omega|(simp;done)) (by exact li_at2 hkl)) ?_)))
    refine Zh 27 [125,120] rfl (fun _ hg=>by first|exact Qm QB (.when rfl hg) rfl rfl|exact Qm QB (.when rfl hg) (QF (TrT.cs_length _ _) rfl) (TrT.cs_length _ _)|exact Qm QB (.when rfl hg) (QF rfl rfl) rfl) ?_
    refine Zh 28 [121,126,120] rfl (fun _ hg=>QW.call Pc (.cons (.when rfl hg) (.cons (.when rfl hg) .nil)) (Sk (liT_wf (hc128 _ (List.getElem_mem hkl))))) (Zh 29 [127,120] rfl (fun _ hg=>QW.not (.when rfl hg)) (Zf 30 [120,128] rfl (fun _=>QW.pick_or (.r rfl) (.r rfl)) (JX.fin (by kernel_rfl) (by kernel_rfl) fun bs_=>?_)))
    refine QX.conv (by(try simp only[Ug,Uo,Q8,Q0,Flt.val,Flt.bx,nx,nl,Qj,QA,QC,Qy,QZ,AV.cellsOf,Qc,Qd,Nat.reduceAdd]);rfl) ?_
    refine thenQ.n ?_
    refine J.cond (.r rfl) (fun c5=>?_) (fun c5=>?_)
    · skip
      refine absurd c5 ?_
      simp[TrT.same_refl]
      --closed
    skip
    refine J.skip (blkQ.n (thenQ.n (Qg (Zm rfl (Zq rfl (QW.add (.r rfl) .const (by first|exact U6 (by first|rfl|omega|(simp;done)) (by omega)|exact Yy (by omega)|rfl)) ?_)))))
    refine Za rfl (Zn ?_)
    exact⟨k+1,hkl,by omega,QQ (.cons rfl lr (.cons rfl lr (.cons rfl lr (.cons rfl lr (.cons rfl lr .nil))))) (Q3 1 _ rfl) (fun _ h=>by first|exact h|simp[h])⟩
  obtain rfl:k=cs.length:=by(simp[Qp]at c4;omega)
  refine J.exit (Qz (Qz (QY (thenQ.n (Zs (Zd UJ rfl (Zl 0 YN rfl (Zm rfl (Zq rfl (Qh Ue (Ev.le (.r rfl) (.fact (.tail _ (.head _)) (.refl _))) (Qp _)) ?_)))))))))
  refine Zq rfl (Qi Q6 QB rfl (.r rfl) (.r rfl) (by first|rfl|omega|(simp;done)) (by exact SP)) ?_
  refine Zq rfl (by first|exact Qm QB (.r rfl) rfl rfl|exact Qm QB (.r rfl) (QF (TrT.cs_length _ _) rfl) (TrT.cs_length _ _)|exact Qm QB (.r rfl) (QF rfl rfl) rfl) ?_
  refine JL.alloc z46 rfl rfl fun b13=>?_
  first|refine Qa 0 QB (.r rfl) rfl (.r rfl) (by first|rfl|assumption) rfl rfl rfl ?_|refine Qa 0 QB (.r rfl) rfl (.r rfl) (by first|rfl|assumption) rfl (TrT.cs_length _ _) rfl ?_|refine Qa 0 QB (.r rfl) rfl (.r rfl) (by first|rfl|assumption) rfl rfl rfl ?_|refine Qa 0 QB (.r rfl) rfl (.r rfl) (by first|rfl|assumption) (TrT.cs_length _ _) rfl rfl ?_|refine Qa 0 QB (.r rfl) rfl (.r rfl) (by first|rfl|assumption) (TrT.cs_length _ _) (TrT.cs_length _ _) rfl ?_|refine Qa 0 QB (.r rfl) rfl (.r rfl) (by first|rfl|assumption) (TrT.cs_length _ _) rfl rfl ?_|refine Qa 0 QB (.r rfl) rfl (.r rfl) (by first|rfl|assumption) rfl rfl rfl ?_|refine Qa 0 QB (.r rfl) rfl (.r rfl) (by first|rfl|assumption) rfl (TrT.cs_length _ _) rfl ?_|refine Qa 0 QB (.r rfl) rfl (.r rfl) (by first|rfl|assumption) rfl rfl rfl ?_|refine JL.store_box 0 QB (.r rfl) rfl (.r rfl) (by first|rfl|assumption) rfl rfl rfl rfl ?_|refine JL.store_box 0 QB (.r rfl) rfl (.r rfl) (by first|rfl|assumption) (TrT.cs_length _ _) rfl rfl rfl ?_|refine JL.store_box 0 QB (.r rfl) rfl (.r rfl) (by first|rfl|assumption) rfl rfl rfl rfl ?_
  refine Zn (Zs (Zd UJ rfl (Zl 0 YN rfl (Zq rfl (by first|exact Qh Q6 (.r rfl) wl|exact Qh Q6 (.r rfl) (TmT.css_length _ _)|exact Qh Q6 (.r rfl) (SetT.css_length _ _)|exact Qh Q6 (.r rfl) (TrT.css_length _ _)|exact Qh Q6 (.r rfl) (AtT.css_length _)|exact Qh Q6 (.r rfl) (Qp _)|exact Qw Q6 (.r rfl)|exact QW.len_nil Q6 (.r rfl)) ?_))))
  refine Zq rfl (QW.eql (.r rfl) .const) (Zm rfl (Zg rfl (fun hg=>(Qf UJ (.r rfl) rfl)) (Zg rfl (fun hg=>(Qb 0 YN (.when rfl hg) rfl rfl)) (Zg rfl (fun hg=>(Qi Q6 QB rfl (.when rfl hg) .const (by first|rfl|omega|(simp;done)) (by rfl))) ?_))))
  exact Zg rfl (fun hg=>(QL Hy (.when rfl hg) rfl)) (Zg rfl (fun hg=>(Qv UO (.when rfl hg) rfl)) (Zg rfl (fun hg=>(QW.move (.r rfl))) (Zg rfl (fun hg=>(WJ (.when rfl hg) (.when rfl hg))) (Zq rfl (QW.pick_and (.r rfl) (.r rfl)) (Za rfl (Zn (J.ret (Zr [.k,.k,.k] (RetEv.one rfl (REv.tmp rfl lr)) rfl ⟨U0 (by first|rfl|simp),rfl⟩))))))))

end
end Go.Proofs.YtammalmlbabpbaaGreat.J
