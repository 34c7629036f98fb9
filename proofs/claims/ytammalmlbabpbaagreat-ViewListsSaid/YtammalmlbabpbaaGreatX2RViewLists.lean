/- Texts of this proof, laid together. -/
import Derived.Test.YtammalmlbabpbaaGreatX1RViewLists
import Derived.WalkSpells
import Derived.Lib.LazyBuf
import Derived.Test.YtammalmlbabpbaaGreatProg
import Derived.KernelRfl
import Derived.Lib.AppendZerosOnto
import Derived.Laws.Externs
set_option linter.unusedVariables false
set_option linter.unusedSimpArgs false
namespace Go.Proofs.YtammalmlbabpbaaGreat.J
open Go Go.RowKit
section
/- Regions that draw their order with calls among their operations, in the form in which the walks use them. -/
section
variable {P:Program} {E:Wy} {Q:Exit→St→Prop} {n:Nat} {env:List (Nat×AV)} {own:List Own} {R:XS→List Own→AV→List Own→Prop} {M:Nat} {F:List (Value×AV)} {D:List Deferred} {ops:Array Oper}
def RN(sl:List Nat):List YU→List (Nat×AV)
  |[]=>[]
  |(s,.inl x)::don=>match sl.any (Nat.beq s)with|true=>(s,x)::RN sl don|false=>RN sl don
  |(_,.inr _)::don=>RN sl don
def DL(o:Oper)(sl:List Nat):List YU→Nat→Bool
  |[],_=>true
  |(s,.inl _)::don,i=>match sl.any (Nat.beq s)with|true=>depsOk o [i-1]&&DL o sl don (i-1)|false=>DL o sl don (i-1)
  |(_,.inr _)::don,i=>DL o sl don (i-1)
theorem LJ{o:Oper}{sl:List Nat}{env:List (Nat×AV)}:∀{don:List YU} {i:Nat},i=don.length→DL o sl don i=true→Rv o don.reverse env (RN sl don++env)
  |[],i,_,_=>fun s x h=>.inr (by simpa[RN]using h)
  |(s0,.inr q)::don,i,hi,h=>fun s x hl=>by
    have hi':i-1=don.length:=by simp at hi;omega
    rcases LJ (don:=don) (i:=i-1) hi' h s x hl with ⟨j,h1,h2⟩|h
    · exact .inl ⟨j,h1,by rw[List.reverse_cons,List.getElem?_append_left (List.getElem?_eq_some_iff.1 h2).1];exact h2⟩
    · exact .inr h
  |(s0,.inl x0)::don,i,hi,h=>fun s x hl=>by
    have hi':i-1=don.length:=by simp at hi;omega
    have hrec:DL o sl don (i-1)=true→lk (RN sl don++env) s=some x→(∃j,depsOk o [j]=true∧((s0,Sum.inl x0)::don).reverse[j]? =some (s,Sum.inl x))∨lk env s=some x:=fun hc hl=>by
      rcases LJ (don:=don) (i:=i-1) hi' hc s x hl with ⟨j,h1,h2⟩|h
      · exact .inl ⟨j,h1,by rw[List.reverse_cons,List.getElem?_append_left (List.getElem?_eq_some_iff.1 h2).1];exact h2⟩
      · exact .inr h
    unfold RN at hl
    unfold DL at h
    split at hl
    · rename_i hb
      rw[hb]at h
      simp only[Bool.and_eq_true]at h
      rcases WX hl with ⟨rfl,rfl⟩|⟨_,hl⟩
      · exact .inl ⟨i-1,h.1,by rw[hi',List.reverse_cons,List.getElem?_append_right (by simp)];simp⟩
      · exact hrec h.2 hl
    · rename_i hb
      rw[hb]at h
      exact hrec h hl
def RO(sl:List Nat)(os:XS):List YU→List (Nat×AV)
  |[]=>[]
  |(s,z)::don=>match sl.any (Nat.beq s)with|true=>(s,QA os z)::RO sl os don|false=>RO sl os don
def DM(o:Oper)(sl:List Nat):List YU→Nat→Bool
  |[],_=>true
  |(s,_)::don,i=>match sl.any (Nat.beq s)with|true=>depsOk o [i-1]&&DM o sl don (i-1)|false=>DM o sl don (i-1)
theorem LK{o:Oper}{sl:List Nat}{env:List (Nat×AV)}{os:XS}:∀{don:List YU} {i:Nat},i=don.length→DM o sl don i=true→Rw o don.reverse env (RO sl os don++env) os
  |[],i,_,_=>fun s x h=>.inr (by simpa[RO]using h)
  |(s0,z0)::don,i,hi,h=>fun s x hl=>by
    have hi':i-1=don.length:=by simp at hi;omega
    have hrec:DM o sl don (i-1)=true→lk (RO sl os don++env) s=some x→(∃j z,depsOk o [j]=true∧((s0,z0)::don).reverse[j]? =some (s,z)∧x=QA os z)∨lk env s=some x:=fun hc hl=>by
      rcases LK (don:=don) (i:=i-1) hi' hc s x hl with ⟨j,z,h1,h2,h3⟩|h
      · exact .inl ⟨j,z,h1,by rw[List.reverse_cons,List.getElem?_append_left (List.getElem?_eq_some_iff.1 h2).1];exact h2,h3⟩
      · exact .inr h
    unfold RO at hl
    unfold DM at h
    split at hl
    · rename_i hb
      rw[hb]at h
      simp only[Bool.and_eq_true]at h
      rcases WX hl with ⟨rfl,rfl⟩|⟨_,hl⟩
      · exact .inl ⟨i-1,z0,h.1,by rw[hi',List.reverse_cons,List.getElem?_append_right (by simp)];simp,rfl⟩
      · exact hrec h.2 hl
    · rename_i hb
      rw[hb]at h
      exact hrec h hl
def OutK(P:Program)(E:Wy)(Q:Exit→St→Prop)(ops:Array Oper)(n:Nat)(env:List (Nat×AV))(own:List Own)(R:XS→List Own→AV→List Own→Prop)(M:Nat)(F:List (Value×AV))(D:List Deferred)(i j p:Nat)(os:List Oper)(don:List YU)(K:List YU→Prop):Prop:=
  i=don.length→∃all lv,AnyR P E Q ops n env own R M F D i j p os don.reverse all lv∧K all.reverse
variable {i j p:Nat} {K:List YU→Prop}
theorem OutK.nil{don:List YU}(h:K don):OutK P E Q ops n env own R M F D i M p [] don K:=fun _=>⟨don.reverse,_,.nil i p don.reverse,by rw[List.reverse_reverse];exact h⟩
theorem OutK.quiet{o:Oper}{os:List Oper}{don:List YU}{d:Nat}{x:AV}(sl:List Nat)(hd:o.dst=some d)(hn:Nat.blt d n=true)(hc:DL o sl don i=true)
    (hs:∀os',FP own R os'→os'.length≤M→Step P E ops ⟨n,RN sl don++env,Qy own os',F,D⟩ o x) (h:OutK P E Q ops n env own R M F D (i+1) j p os ((d,.inl x)::don) K):OutK P E Q ops n env own R M F D i j p (o::os) don K:=fun hi=>by
  obtain⟨all,lv,h1,h2⟩:=h (by simp[hi])
  rw[List.reverse_cons]at h1
  exact⟨all,_,.quiet hd hn (LJ hi hc) hs h1,h2⟩
theorem OutK.loud{o:Oper}{os:List Oper}{don:List YU}{d:Nat}(sl:List Nat)(hd:o.dst=some d)(hn:Nat.blt d n=true)(hg:o.guard=none)(hc:DM o sl don i=true)(hp:(Nat.beq j 0||depsOk o [p])=true)
    (hs:∀os',FP own R os'→os'.length=j→LStepR P E Q ⟨n,RO sl os' don++env,Qy own os',F,D⟩ (R os') o) (h:OutK P E Q ops n env own R M F D (i+1) (j+1) i os ((d,.inr (j,id))::don) K):OutK P E Q ops n env own R M F D i j p (o::os) don K:=fun hi=>by
  obtain⟨all,lv,h1,h2⟩:=h (by simp[hi])
  rw[List.reverse_cons]at h1
  exact⟨all,_,.loud (.inr ⟨hd,Ui hn⟩) hg (fun os' _=>LK (os:=os') hi hc) hp hs h1,h2⟩
theorem OutK.store{o:Oper}{os:List Oper}{don:List YU}(sl:List Nat)(hd:o.dst=none)(hu:∀os ow x o',R os ow x o'→os.length=j→x=.c undef)(hg:o.guard=none)(hc:DM o sl don i=true)(hp:(Nat.beq j 0||depsOk o [p])=true)
    (hs:∀os',FP own R os'→os'.length=j→LStepR P E Q ⟨n,RO sl os' don++env,Qy own os',F,D⟩ (R os') o) (h:OutK P E Q ops n env own R M F D (i+1) (j+1) i os ((n+i,.inr (j,id))::don) K):OutK P E Q ops n env own R M F D i j p (o::os) don K:=fun hi=>by
  obtain⟨all,lv,h1,h2⟩:=h (by simp[hi])
  rw[List.reverse_cons]at h1
  exact⟨all,_,.loud (.inl ⟨hd,rfl,hu⟩) hg (fun os' _=>LK (os:=os') hi hc) hp hs h1,h2⟩
theorem WW{id:Nat}{l:List Oper}(k M:Nat)(R:XS→List Own→AV→List Own→Prop)(hm:P.follows .mixedOrders=true)(hnd:XF (WM (l.take k))=true)(hbk:Xi 0 l=true)(ht:Kr k l=true)(hk:Nat.ble k l.length=true)
    (h:OutK P E Q l.toArray n (U1 (WM (l.take k)) env) own R M F D 0 0 0 (l.take k) [] fun steps=>∀os',FP own R os'→os'.length=M→JL P E l.toArray (l.drop k) ⟨n,Qj os' steps++U1 (WM (l.take k)) env,Qy own os',F,D⟩ Q):
    J P E (.region id l.toArray true) ⟨n,env,own,F,D⟩ Q:=by
  obtain⟨steps,lv,h1,h2⟩:=h rfl
  have hlen:(l.take k).length=k:=by have:=Nat.le_of_ble_eq_true hk;simp;omega
  obtain⟨_,hl1,_,_,_,_,_,hst⟩:=h1.get rfl
  simp only[List.reverse_nil,List.length_nil,Nat.zero_add]at hst hl1
  have hslot:∀(a b:Nat) (x y:AV ⊕ (Nat×(AV→AV))) (s:Nat),steps[a]? =some (s,x)→steps[b]? =some (s,y)→a=b:=by
    intro a b x y s ha hb
    have ha':a<(l.take k).length:=by have:=(List.getElem?_eq_some_iff.1 ha).1;omega
    have hb':b<(l.take k).length:=by have:=(List.getElem?_eq_some_iff.1 hb).1;omega
    have hA:∀a x,a<(l.take k).length→steps[a]? =some (s,x)→(∃o,(l.take k)[a]? =some o∧o.dst=some s∧s<n)∨s=n+a:=fun a x ha' ha=>by
      rcases hst a _ (List.getElem?_eq_getElem ha')with ⟨_,d,x',_,h3,h4,h5,_⟩|⟨_,_,s',_,h3,h4,_⟩
      · rw[h3]at ha;cases ha
        exact .inl ⟨_,List.getElem?_eq_getElem ha',h4,h5⟩
      · rw[h3]at ha;cases ha
        rcases h4 with ⟨_,h4,_⟩|⟨h4,h5⟩
        · exact .inr h4
        · exact .inl ⟨_,List.getElem?_eq_getElem ha',h4,h5⟩
    rcases hA a x ha' ha with ⟨o,g1,g2,g3⟩|g1<;>rcases hA b y hb' hb with ⟨o',k1,k2,k3⟩|k1
    · exact Y3 hnd g1 k1 g2 k2
    · omega
    · omega
    · omega
  refine Rs hm (List.take_append_drop k l).symm hnd hbk (by rw[hlen];exact ht) h1 fun os' hv hl a w ⟨A,hA⟩=>h2 os' hv hl a w ⟨A,hA.size,hA.defers,hA.keep,hA.hp,fun s x hl=>hA.env s x ?_,hA.facts⟩
  rw[Ut]at hl⊢
  have hmem:∀(ll:List YU) (s:Nat) (x:AV),(s,x)∈Qj os' ll↔∃z,(s,z)∈ll∧QA os' z=x:=fun ll s x=>by
    simp only[Qj,List.mem_map,Prod.mk.injEq,Prod.exists]
    constructor
    · rintro⟨s',z,h,rfl,h'⟩;exact⟨z,h,h'⟩
    · rintro⟨z,h,h'⟩;exact⟨s,z,h,rfl,h'⟩
  rcases hl with hl|⟨hl1',hl2⟩
  · left
    obtain⟨z,hz1,hz2⟩:=(hmem _ _ _).1 (X2 _ _ _ hl)
    have h3:(s,z)∈steps:=by simpa using hz1
    cases h4:lk (Qj os' steps) s with
    |none=>exact absurd ((hmem _ _ _).2 ⟨z,h3,hz2⟩) (GJ _ _ h4 x)
    |some y=>
      obtain⟨z',h5,h6⟩:=(hmem _ _ _).1 (X2 _ _ _ h4)
      obtain⟨a,ha⟩:=List.getElem?_of_mem h3
      obtain⟨b,hb⟩:=List.getElem?_of_mem h5
      have:=hslot a b z z' s ha hb
      subst this
      rw[ha]at hb;cases hb
      rw[← h6,hz2]
  · right
    refine⟨?_,hl2⟩
    cases h4:lk (Qj os' steps) s with
    |none=>rfl
    |some y=>
      obtain⟨z',h5,h6⟩:=(hmem _ _ _).1 (X2 _ _ _ h4)
      exact absurd ((hmem _ _ _).2 ⟨z',by simpa using h5,h6⟩) (GJ _ _ hl1' y)
variable {ty:TypeId} {pos:String} {af:Array Edge}
theorem LStepR.callG(ms:List Cd){d:Nat}{f:FuncId}{fo:Operand}{fi ca:List Value}{l:List Operand}{tys:Array TypeId}{xs zs:List AV}{R:Wl→List Own→Prop}{G:List (Value×AV)}(hf:QJ P f=true)
    (hfo:Ev E ⟨n,env,own,F,D⟩ fo (.c (.func (.func f) fi.toArray ca.toArray))) (hG:Lent G (Wg ms own)) (hargs:∀E',EvL E' ⟨n,env,QI ms own++Yf ms own,G++F,D⟩ l xs) (hzs:fi.map AV.c++xs++ca.map AV.c=zs) (hAC:AC P f (QI ms own) zs R)
    (hfr:Wg ms own=[]∨∀r o,R r o→HI r∧∀x∈o,XA (·=true) x)
    (hpan:∀v own',R (.pan v) own'→Q (.panic [{v,recovered:=false}]) ⟨n,env,QZ ms own' own,F,D⟩):
    LStepR P E Q ⟨n,env,own,F,D⟩ (fun ow x o'=>∃o2,R (.ret x) o2∧o'=QZ ms o2 ow) ⟨some d,.call ⟨.value fo,l.toArray,tys⟩,ty,pos,af,none⟩:=fun A a w hA K hK=>by
  refine Hd (by intro c h;cases h) ?_
  unfold Oper.wp
  rw[Ku hf (hfo.eq hA),Oper.upon_enter]
  subst hzs
  refine SatA.callG ms hG hfr hA hargs hAC fun r own' A' w' hR hfm hsat e hr=>?_
  cases r with
  |ret x=>
    obtain⟨v,rfl,hv⟩:=hr
    exact hK v x _ w' A' ⟨own',hR,rfl⟩ hfm hsat hv
  |pan v=>
    obtain rfl:=hr
    exact⟨_,hpan v own' hR,A',hsat⟩
theorem LStepR.callF(ms:List Cd){d:Nat}{f:FuncId}{l:List Operand}{tys:Array TypeId}{xs:List AV}{R:Wl→List Own→Prop}{G:List (Value×AV)}(hf:QJ P f=true)
    (hG:Lent G (Wg ms own)) (hargs:∀E',EvL E' ⟨n,env,QI ms own++Yf ms own,G++F,D⟩ l xs) (hAC:AC P f (QI ms own) xs R)
    (hfr:Wg ms own=[]∨∀r o,R r o→HI r∧∀x∈o,XA (·=true) x)
    (hpan:∀v own',R (.pan v) own'→Q (.panic [{v,recovered:=false}]) ⟨n,env,QZ ms own' own,F,D⟩):
    LStepR P E Q ⟨n,env,own,F,D⟩ (fun ow x o'=>∃o2,R (.ret x) o2∧o'=QZ ms o2 ow) ⟨some d,.call ⟨.value (.func f),l.toArray,tys⟩,ty,pos,af,none⟩:=
  LStepR.callG (fi:=[]) (ca:=[]) ms hf .func hG hargs (by simp) hAC hfr hpan
end

end
section
/- Appends as operations of regions that draw their order; comparisons with nil; literals without items. -/
section
variable {P:Program} {E:Wy} {Q:Exit→St→Prop} {n:Nat} {env:List (Nat×AV)} {own:List Own} {F:List (Value×AV)} {D:List Deferred} {ops:Array Oper} {rest:List Oper}
variable {A:QS} {a:Act} {w w':World} {t tx et ty s0:TypeId} {pos:String} {af:Array Edge} {d:Nat} {s x y:Operand}
theorem TS{fr clip:Bool}{e:U7}{xs:List (List AV)}{yt:TypeId}(hU:P.underlying t=some (.slice et))(hx:Ev E ⟨n,env,own,F,D⟩ x (.sl fr clip e xs))(hy:Ev E ⟨n,env,own,F,D⟩ y (.c (.slice none 0 0)))(hd:Nat.blt d n=true)
    (h:∀b:Bool,(b=true→xs=[])→JL P E ops rest ⟨n,(d,.c (.bool b))::env,own,F,D⟩ Q):
    JL P E ops (⟨some d,.binOp .eql t x y yt,ty,pos,af,none⟩::rest) ⟨n,env,own,F,D⟩ Q:=fun a w ⟨A,hA⟩=>by
  refine wpListIn_plain rfl fun K hK=>?_
  refine Hd (by intro c h;cases h) ?_
  unfold Oper.wp
  have hr:=hx A a w hA
  obtain⟨ad,cap,hv,_,_,hc⟩:=hr.of_sl
  have hg:(eqGuard .eql t x y (.slice ad xs.length cap) (.slice none 0 0)).run P w=.ok () w:=by simp[eqGuard]
  have hrun:(execOp a.eval ⟨some d,.binOp .eql t x y yt,ty,pos,af,none⟩).run P w=.ok (.value (.bool ad.isNone)) w:=by
    simp only[execOp,hv,hy.eq hA,Sem.run_bind,hg,Result.andThen_ok,Lib.run_eql_slice_nil w t et ad xs.length cap 0 0 hU,Sem.run_pure]
  rw[hrun,Oper.upon_value]
  refine hK _ _ (h ad.isNone (fun hb=>?_) _ _ ⟨A,hA.put (Ui hd) (.c _)⟩)
  rcases hc with hc|⟨b,off,cs,t,fz,h1,_⟩
  · exact hc
  · rw[h1]at hb;cases hb
theorem KL{e:U7}{idx:Array (Nat×Operand)}(hU:P.underlying t=some (.slice et))(hE:WU P et e=true)(hi:idx= #[])(hd:Nat.blt d n=true)
    (h:∀v,JL P E ops rest ⟨n,(d,.c v)::env,.arr v e []::own,F,D⟩ Q):
    JL P E ops (⟨some d,.buildSlice t 0 idx,ty,pos,af,none⟩::rest) ⟨n,env,own,F,D⟩ Q:=fun a w ⟨A,hA⟩=>by
  refine wpListIn_plain rfl fun K hK=>?_
  refine Hd (by intro c h;cases h) ?_
  unfold Oper.wp
  subst hi
  obtain⟨ti,tz,hi1,hsz,hby,hz2,hzs,hz1⟩:=Y5 hE
  have hrun:(execOp a.eval ⟨some d,.buildSlice t 0 #[],ty,pos,af,none⟩).run P w=.ok (.value (.slice (some ⟨w.heap.size,0,none⟩) 0 0)) (QH w (.cells #[] et)):=by
    simp[execOp,Instr.buildSlice,Qq _ hU,sizeOf,Yg hi1,Instr.fill,newRow,QH]
    congr 2
    apply Array.ext';simp
  rw[hrun,Oper.upon_value]
  refine hK _ _ (h _ _ _ ⟨A,SatA.put ?_ (Ui hd) (.c _)⟩)
  refine hA.step (.push _ _ _) (fun _ _ h=>h) ⟨hA.hp.mono,hA.hp.sup,hA.hp.sub,fun fr b hb=>by have:=hA.hp.lt fr b hb;rw[WA];omega,fun b hb=>?_,?_,fun o ho=>?_⟩
  · have hb':b∈UM own:=by simpa[QT,Own.fp,KH]using hb
    obtain⟨h1,h2,h3⟩:=hA.hp.fp b hb'
    exact⟨by rw[WA];omega,h2,h3⟩
  · have:=hA.hp.nodup
    simpa[QT,Own.fp,KH]using this
  · rcases List.mem_cons.1 ho with rfl|ho
    · exact .inl ⟨_,rfl,rfl⟩
    · exact(hA.hp.own o ho).move (fun _ _ h _=>h) (fun fr b hb hlt=>(Keep.push [] w _).block b hlt (by simp)) fun b hb=>(Keep.push [] w _).block b (hA.hp.fp b (Ur ho hb)).1 (by simp)
theorem G8(e:U7)(own:List Own):Reown own (.arr (.slice none 0 0) e []::own):=⟨fun x=>by simp[QT,Own.fp,KH],fun w A g=>by
  simp only[List.forall_mem_cons]
  exact⟨.inl ⟨_,rfl,rfl⟩,g⟩⟩
theorem Up(e:U7)(own:List Own):Reown own (own++[.arr (.slice none 0 0) e []]):=(G8 e own).trans (.perm (List.perm_append_singleton _ _).symm)
theorem U8{e:U7}{ys:List (List AV)}{fr clip:Bool}{e':TypeId}{st:St}(hU:P.underlying tx=some (.slice e'))(h:Ev E st x (.sl fr clip e ys)):∀A a w,SatA E A st a w→SrcA P w A tx (a.eval x) e ys:=
  fun A a w hs=>.sl hU (h A a w hs)
theorem CP{b off:Nat}{cs:Array Value}{tt:TypeId}{fz:Nat×Nat}(hb:w.heap[b]? =some (.cells cs tt fz)){l:List UInt8}(hc:Cells w A cs off (l.map fun b=>.c (.int .u8 (b.toNat:Int))))(cap:Nat):
    (Conv.bytesToString (.slice (some ⟨b,off,none⟩) l.length cap)).run P w=.ok (Q4 l) w:=by
  have hu:∀k,k<l.length→cs[off+k]? =some (.int .u8 ((l.getD k 0).toNat:Int)):=fun k hk=>by
    obtain⟨u,h1,_,h2⟩:=hc k (.c (.int .u8 ((l.getD k 0).toNat:Int))) (by simp[hk])
    rw[h1,h2.eq]
  have hload:=K4 (P:=P) hb l.length off 0 #[] (fun k=>.int .u8 ((l.getD k 0).toNat:Int)) (fun k hk=>by simpa using hu k hk)
  have harr:(Array.range l.length).map (fun k=>Value.int .u8 ((l.getD k 0).toNat:Int))=(l.map fun b=>Value.int .u8 (b.toNat:Int)).toArray:=by
    apply Array.ext'
    simp only[Array.toList_map,Array.toList_range]
    apply List.ext_getElem?
    intro k
    rw[List.getElem?_map,List.getElem?_map]
    by_cases hk:k<l.length
    · rw[List.getElem?_range hk,List.getElem?_eq_getElem hk];simp[hk]
    · rw[List.getElem?_eq_none (by simpa using hk),List.getElem?_eq_none (by simpa using hk)];rfl
  simp only[Array.empty_append]at hload
  rw[harr]at hload
  have hloop:∀(f:Value→ByteArray→Sem (ForInStep ByteArray)),(∀(n:Int) r,f (.int .u8 n) r=pure (ForInStep.yield (r.push (UInt8.ofNat n.toNat))))→∀(l:List UInt8) (r:ByteArray),
      (forIn (m:=Sem) (l.map fun b=>Value.int .u8 (b.toNat:Int)).toArray r f).run P w=.ok ⟨r.data++l.toArray⟩ w:=by
    intro f hf l
    induction l with
    |nil=>intro r;simp
    |cons b l ih=>
      intro r
      have:=ih (r.push b)
      simp only[List.map_cons]
      simp only[List.forIn_toArray]at this⊢
      simp only[List.forIn_cons,hf,Sem.run_bind,Sem.run_pure,Result.andThen_ok]
      have hb:UInt8.ofNat ((b.toNat:Int)).toNat=b:=by simp
      rw[hb,this]
      simp[ByteArray.push]
  simp only[Conv.bytesToString,Sem.run_bind,loadCells,hload,Result.andThen_ok]
  rw[hloop _ (fun n r=>rfl) l ByteArray.empty]
  simp[Q4,Result.andThen_ok]
end

end
section
/- Contracts that return, contracts that may panic, in the form in which the walks use them; stores over a whole variable. -/
def YV(Rx:AV→List Own→Prop):Wl→List Own→Prop:=fun r o=>∃x,r=.ret x∧Rx x o
def PanR(ok:Prop)(e:Value)(Rx:AV→List Own→Prop):Wl→List Own→Prop:=fun r o=>(ok∧∃x,r=.ret x∧Rx x o)∨(¬ok∧r=.pan e∧o=[])
theorem PanR.ret{ok:Prop}{e:Value}{Rx:AV→List Own→Prop}{x:AV}{o:List Own}(hk:ok)(h:Rx x o):PanR ok e Rx (.ret x) o:=.inl ⟨hk,x,rfl,h⟩
theorem PanR.pan{ok:Prop}{e:Value}{Rx:AV→List Own→Prop}(hk:¬ok):PanR ok e Rx (.pan e) []:=.inr ⟨hk,rfl,rfl⟩
def Mt(Rx:AV→List Own→Prop):Prop:=∀x o,Rx x o→NA x∧∀y∈o,XA (·=true) y
section
variable {P:Program} {E:Wy} {Q:Exit→St→Prop} {n:Nat} {env:List (Nat×AV)} {own:List Own} {F:List (Value×AV)} {D:List Deferred} {ops:Array Oper} {rest:List Oper}
variable {A:QS} {a:Act} {w w':World} {t ty:TypeId} {pos:String} {af:Array Edge} {d:Nat} {x y:Operand} {g:Bool} {m B:Nat}
theorem TT(ms:List Cd){f:FuncId}{fo:Operand}{fi ca:List Value}{l:List Operand}{tys:Array TypeId}{xs zs:List AV}{Rx:AV→List Own→Prop}{G:List (Value×AV)}(hf:QJ P f=true)(hd:Nat.blt d n=true)
    (hfo:Ev E ⟨n,env,own,F,D⟩ fo (.c (.func (.func f) fi.toArray ca.toArray))) (hG:Lent G (Wg ms own)) (hargs:∀E',EvL E' ⟨n,env,QI ms own++Yf ms own,G++F,D⟩ l xs) (hzs:fi.map AV.c++xs++ca.map AV.c=zs) (hAC:AC P f (QI ms own) zs (YV Rx))
    (hfr:Wg ms own=[]∨Mt Rx)
    (hret:∀x own',Rx x own'→JL P E ops rest ⟨n,(d,x)::env,QZ ms own' own,F,D⟩ Q):
    JL P E ops (⟨some d,.call ⟨.value fo,l.toArray,tys⟩,ty,pos,af,none⟩::rest) ⟨n,env,own,F,D⟩ Q:=
  JL.callG ms hf hd hfo hG hargs hzs hAC (hfr.imp id fun h r o ⟨x,h1,h2⟩=>by subst h1;exact h x o h2) (fun x own' ⟨x',h1,h2⟩=>by cases h1;exact hret x own' h2) (fun v own' ⟨x',h1,_⟩=>by cases h1)
theorem JL.callRF(ms:List Cd){f:FuncId}{l:List Operand}{tys:Array TypeId}{xs:List AV}{Rx:AV→List Own→Prop}{G:List (Value×AV)}(hf:QJ P f=true)(hd:Nat.blt d n=true)
    (hG:Lent G (Wg ms own)) (hargs:∀E',EvL E' ⟨n,env,QI ms own++Yf ms own,G++F,D⟩ l xs) (hAC:AC P f (QI ms own) xs (YV Rx))
    (hfr:Wg ms own=[]∨Mt Rx)
    (hret:∀x own',Rx x own'→JL P E ops rest ⟨n,(d,x)::env,QZ ms own' own,F,D⟩ Q):
    JL P E ops (⟨some d,.call ⟨.value (.func f),l.toArray,tys⟩,ty,pos,af,none⟩::rest) ⟨n,env,own,F,D⟩ Q:=
  TT (fi:=[]) (ca:=[]) ms hf hd .func hG hargs (by simp) hAC hfr hret
theorem Qn(ms:List Cd){f:FuncId}{l:List Operand}{tys:Array TypeId}{xs:List AV}{ok:Prop}{e:Value}{Rx:AV→List Own→Prop}{G:List (Value×AV)}(hf:QJ P f=true)(hd:Nat.blt d n=true)
    (hG:Lent G (Wg ms own)) (hargs:∀E',EvL E' ⟨n,env,QI ms own++Yf ms own,G++F,D⟩ l xs) (hAC:AC P f (QI ms own) xs (PanR ok e Rx))
    (hfr:Wg ms own=[]∨Mt Rx)
    (hret:ok→∀x own',Rx x own'→JL P E ops rest ⟨n,(d,x)::env,QZ ms own' own,F,D⟩ Q)
    (hpan:¬ok→Q (.panic [{v:=e,recovered:=false}]) ⟨n,env,QZ ms [] own,F,D⟩):
    JL P E ops (⟨some d,.call ⟨.value (.func f),l.toArray,tys⟩,ty,pos,af,none⟩::rest) ⟨n,env,own,F,D⟩ Q:=
  JL.callF ms hf hd hG hargs hAC (hfr.imp id fun h r o hR=>by
      rcases hR with ⟨_,x,h1,h2⟩|⟨_,h1,h2⟩
      · subst h1;exact h x o h2
      · subst h1 h2;exact⟨trivial,fun y hy=>by cases hy⟩)
    (fun x own' hR=>by
      rcases hR with ⟨hk,x',h1,h2⟩|⟨_,h1,_⟩
      · cases h1;exact hret hk x own' h2
      · cases h1)
    (fun v own' hR=>by
      rcases hR with ⟨_,x',h1,_⟩|⟨hk,h1,h2⟩
      · cases h1
      · cases h1;subst h2;exact hpan hk)
theorem JL.conv{st st':St}{l:List Oper}(h:st=st')(k:JL P E ops l st' Q):JL P E ops l st Q:=h▸k
theorem J.conv{st st':St}{c:Code}(h:st=st')(k:J P E c st' Q):J P E c st Q:=h▸k
theorem Qc{z:AV}{ys:List AV}{x:AV}:Q1 (x::ys) 0 [z]=z::ys:=by simp[Q1]
theorem Qd{ys zs:List AV}{x:AV}{k:Nat}:Q1 (x::ys) (k+1) zs=x::Q1 ys k zs:=by simp[Q1,Nat.succ_add]
theorem LStepR.callRF(ms:List Cd){f:FuncId}{l:List Operand}{tys:Array TypeId}{xs:List AV}{Rx:AV→List Own→Prop}{G:List (Value×AV)}(hf:QJ P f=true)
    (hG:Lent G (Wg ms own)) (hargs:∀E',EvL E' ⟨n,env,QI ms own++Yf ms own,G++F,D⟩ l xs) (hAC:AC P f (QI ms own) xs (YV Rx))
    (hfr:Wg ms own=[]∨Mt Rx):
    LStepR P E Q ⟨n,env,own,F,D⟩ (fun ow x o'=>∃o2,Rx x o2∧o'=QZ ms o2 ow) ⟨some d,.call ⟨.value (.func f),l.toArray,tys⟩,ty,pos,af,none⟩:=fun A a w hA K hK=>
  LStepR.callF (d:=d) ms hf hG hargs hAC (hfr.imp id fun h r o ⟨x,h1,h2⟩=>by subst h1;exact h x o h2) (fun v own' ⟨x',h1,_⟩=>by cases h1) A a w hA K
    fun v x own' w' A' ⟨o2,⟨x',h1,h2⟩,h3⟩=>hK v x own' w' A' ⟨o2,by cases h1;exact h2,h3⟩
theorem Qa(i:Nat){b:Nat}{ys:List AV}{z:AV}(hT:Un P t=some (g,m,B))(hx:Ev E ⟨n,env,own,F,D⟩ x (.c (.pointer (some ⟨b,0,none⟩))))
    (ho:own[i]? =some (.box b ys)) (hy:Ev E ⟨n,env,own,F,D⟩ y z) (hz:z.plain=true) (hm:z.cellsOf.length=m) (hl:ys.length=m)
    {own':List Own} (hown:own.set i (.box b z.cellsOf)=own')
    (h:JL P E ops rest ⟨n,env,own',F,D⟩ Q):
    JL P E ops (⟨none,.store t x y,ty,pos,af,none⟩::rest) ⟨n,env,own,F,D⟩ Q:=
  JL.store_box i hT hx ho hy hz hm (by rw[Nat.zero_add,hl];exact Nat.ble_eq_true_of_le (Nat.le_refl m)) (by
    unfold Q1
    rw[Nat.zero_add,hm,← hl]
    simp) hown h
theorem Nw{st:St}{own':List Own}{o:Oper}{R:List Own→AV→List Own→Prop}(hd:o.dst=none)(h:LStep P E st own' o)(hR:R st.own (.c undef) own'):LStepR P E Q st R o:=fun A a w hA K hK=>
  h A a w hA K (Wh E Q) fun w' A' hf hs=>by
    have:=hK undef (.c undef) own' w' A' hR hf hs (.c _)
    rw[hd]at this
    exact this
theorem U0{a b:Bool}(h:a=true↔b=true):Wl.ret (.c (.bool a))=Wl.ret (.c (.bool b)):=by rw[Bool.eq_iff_iff.2 h]
theorem DC.mono{P:Program}{f:FuncId}{own:List Own}{xs:List AV}{u:FrameMode}{R R':Wl→FrameMode→List Own→Prop}(h:DC P f own xs u R)(hR:∀r u' o,R r u' o→R' r u' o):DC P f own xs u R':=
  fun w A0 vs h1 h2=>(h w A0 vs h1 h2).mono fun _ _ _ ⟨r,o,A,hr,rest⟩=>⟨r,o,A,hR _ _ _ hr,rest⟩
theorem YD{K:St→FrameMode→Prop}{QD:Exit→St→FrameMode→Prop}{s:St}{u:FrameMode}(h:K s u):thenD K QD .normal s u:=h
theorem Le.intE{F:List (Value×AV)}{k:IntKind}{a b:Int}(h:a=b):Le F (.c (.int k a)) (.c (.int k b)):=h▸ .refl _
theorem Qh{st:St}{dd:Option Tmp}{gd:Option (Nat×Bool)}{fr clip:Bool}{e:U7}{xs:List (List AV)}{et:TypeId}{k:Nat}{P:Program}{E:Wy}{x:Operand}{t ty:TypeId}{pos:String}{af:Array Edge}(hU:P.underlying t=some (.slice et))(h:Ev E st x (.sl fr clip e xs))(hk:xs.length=k):
    QW P E st ⟨dd,.call ⟨.builtin .len,#[x],#[t]⟩,ty,pos,af,gd⟩ (.c (.int .i64 (k:Int))):=(Qw hU h).conv (by rw[hk])
theorem CH{ys:List AV}{k:Nat}(h:ys.length=k):(ys.drop 0).take k=ys:=by subst h;simp
theorem Qo{ys zs:List AV}{off k:Nat}(hl:zs.length=k)(h:ys.drop off=zs):(ys.drop off).take k=zs:=by rw[h,← hl];simp
theorem QF{ys zs:List AV}{k:Nat}(hl:zs.length=k)(h:ys=zs):ys.take k=zs:=by subst h hl;simp
end

end
section
/- Values as plain data: their cells, what the page says of them. -/
abbrev QN:=List UInt8
inductive V where
  |mk (kind:Int) (bits:Nat) (text:QN) (keys:List QN) (items:List V)
def V.kind:V→Int|.mk k _ _ _ _=>k
def V.bits:V→Nat|.mk _ b _ _ _=>b
def V.text:V→QN|.mk _ _ t _ _=>t
def V.keys:V→List QN|.mk _ _ _ l _=>l
def V.items:V→List V|.mk _ _ _ _ l=>l
def V.nil:V:=.mk 0 0 [] [] []
def Wz:U7:=⟨1,16⟩
def eV:U7:=⟨5,80⟩
def QP(ks:List QN):List (List AV):=ks.map fun s=>[.c (Q4 s)]
mutual
/-- The cells of a value. -/
def V.cs(fr:Bool):V→List AV
  |.mk k b t ks is=>[.c (.int .i64 k),.c (.int .u64 (b:Int)),.c (Q4 t),.sl fr false Wz (QP ks),.sl fr false eV (V.css fr is)]
def V.css(fr:Bool):List V→List (List AV)
  |[]=>[]
  |v::r=>v.cs fr::V.css fr r
end
theorem V.css_eq(fr:Bool):∀is,V.css fr is=is.map (V.cs fr)
  |[]=>rfl
  |v::r=>by simp[V.css,V.css_eq fr r]
theorem V.css_length(fr:Bool)(is:List V):(V.css fr is).length=is.length:=by simp[V.css_eq]
theorem V.css_get(fr:Bool){is:List V}{i:Nat}{v:V}(h:is[i]? =some v):(V.css fr is)[i]? =some (v.cs fr):=by simp[V.css_eq,h]
theorem V.css_getE(fr:Bool){is:List V}{i:Nat}(h:i<is.length):(V.css fr is)[i]? =some ((is[i]).cs fr):=V.css_get fr (List.getElem?_eq_getElem h)
theorem V.css_append(fr:Bool)(a b:List V):V.css fr (a++b)=V.css fr a++V.css fr b:=by simp[V.css_eq]
theorem V.cs_length(fr:Bool)(v:V):(v.cs fr).length=5:=by cases v;rfl
theorem V.css_sz(fr:Bool)(is:List V):∀x∈V.css fr is,x.length=eV.sz:=by
  intro x hx
  rw[V.css_eq]at hx
  obtain⟨v,_,rfl⟩:=List.mem_map.1 hx
  exact V.cs_length fr v
theorem Qp(ks:List QN):(QP ks).length=ks.length:=by simp[QP]
theorem Dj{ks:List QN}{i:Nat}{s:QN}(h:ks[i]? =some s):(QP ks)[i]? =some [.c (Q4 s)]:=by simp[QP,h]
theorem WE{ks:List QN}{i:Nat}(h:i<ks.length):(QP ks)[i]? =some [.c (Q4 ks[i])]:=Dj (List.getElem?_eq_getElem h)
theorem Hs(ks:List QN):∀x∈QP ks,x.length=Wz.sz:=by
  intro x hx
  obtain⟨v,_,rfl⟩:=List.mem_map.1 hx
  rfl
theorem K7(a b:List QN):QP (a++b)=QP a++QP b:=by simp[QP]
theorem HX(ks:List QN):(QP ks).flatten=(ks.map Q4).map AV.c:=by rw[QP,KE,List.map_map];rfl
def Vc(fr:Bool)(v:V)(ys:List AV):Prop:=ys=v.cs fr
theorem Vc.self{fr:Bool}{v:V}:Vc fr v (v.cs fr):=rfl
theorem Vc.mk{fr:Bool}{k:Int}{b:Nat}{t:QN}{ks:List QN}{is:List V}:Vc fr (.mk k b t ks is) [.c (.int .i64 k),.c (.int .u64 (b:Int)),.c (Q4 t),.sl fr false Wz (QP ks),.sl fr false eV (V.css fr is)]:=rfl
theorem EG{p:Bool→Prop}(ks:List QN):FlL p (QP ks).flatten:=by rw[HX];exact FlL.c _
mutual
theorem Co(fr:Bool):∀v:V,FlL (·=fr) (v.cs fr)
  |.mk k b t ks is=>.cons (.c _) (.cons (.c _) (.cons (.c _) (.cons (.sl rfl (EG ks)) (.cons (.sl rfl (Mi fr is)) .nil))))
theorem Mi(fr:Bool):∀l:List V,FlL (·=fr) (V.css fr l).flatten
  |[]=>.nil
  |v::r=>by
    simp only[V.css,List.flatten_cons]
    exact FlL.append (Co fr v) (Mi fr r)
end
theorem V.fresh(v:V):NA (.agg (v.cs true)):=.agg (Co true v)
theorem LeL.append{F:List (Value×AV)}{a b c d:List AV}(h:LeL F a b)(k:LeL F c d):LeL F (a++c) (b++d):=by
  induction h with
  |nil=>exact k
  |cons h _ ih=>exact .cons h ih
theorem Le.slL{F:List (Value×AV)}{fr fr' clip:Bool}{e:U7}{xs ys:List (List AV)}(hf:fr'=true→fr=true)(hl:xs.length=ys.length)(hs:∀y∈ys,y.length=e.sz)(h:LeL F xs.flatten ys.flatten):Le F (.sl fr clip e xs) (.sl fr' false e ys):=
  .sl hf (fun h=>by cases h) hl hs h.get.2 h.get.1
theorem EF{F:List (Value×AV)}(fr fr':Bool)(hf:fr'=true→fr=true)(ks:List QN):Le F (.sl fr false Wz (QP ks)) (.sl fr' false Wz (QP ks)):=.slL hf rfl (Hs ks) (.refl _)
mutual
theorem Rl{F:List (Value×AV)}(fr fr':Bool)(hf:fr'=true→fr=true):∀v:V,LeL F (v.cs fr) (v.cs fr')
  |.mk k b t ks is=>.cons (.refl _) (.cons (.refl _) (.cons (.refl _) (.cons (EF fr fr' hf ks) (.cons (.slL hf (by rw[V.css_length,V.css_length]) (V.css_sz fr' is) (Mh fr fr' hf is)) .nil))))
theorem Mh{F:List (Value×AV)}(fr fr':Bool)(hf:fr'=true→fr=true):∀l:List V,LeL F (V.css fr l).flatten (V.css fr' l).flatten
  |[]=>.nil
  |v::r=>by
    simp only[V.css,List.flatten_cons]
    exact LeL.append (Rl fr fr' hf v) (Mh fr fr' hf r)
end
theorem BY{F:List (Value×AV)}(fr fr':Bool)(hf:fr'=true→fr=true)(is:List V):Le F (.sl fr false eV (V.css fr is)) (.sl fr' false eV (V.css fr' is)):=
  .slL hf (by rw[V.css_length,V.css_length]) (V.css_sz fr' is) (Mh fr fr' hf is)
mutual
def V.sz:V→Nat
  |.mk _ _ _ _ is=>1+V.szs is
def V.szs:List V→Nat
  |[]=>0
  |x::r=>x.sz+V.szs r
end
theorem V.sz_pos(v:V):1≤v.sz:=by cases v;unfold V.sz;omega
theorem V.szs_mem:∀{is:List V} {x:V},x∈is→x.sz≤V.szs is
  |y::r,x,h=>by
    unfold V.szs
    rcases List.mem_cons.1 h with rfl|h
    · omega
    · have:=V.szs_mem h;omega
theorem V.sz_get{k:Int}{b:Nat}{t:QN}{ks:List QN}{is:List V}{j n:Nat}(h:(V.mk k b t ks is).sz≤n+1)(hj:j<is.length):is[j].sz≤n:=by
  have:=V.szs_mem (List.getElem_mem hj)
  unfold V.sz at h;omega
inductive V.wf:V→Prop
  |mk {k:Int} {b:Nat} {t:QN} {ks:List QN} {is:List V} (h1: -9223372036854775808≤k∧k≤9223372036854775807) (h2:b<2^64) (h3:t.length≤Qr) (h4:ks.length*16≤Qr) (h5:is.length*80≤Qr)
      (h6:∀s∈ks,s.length≤Qr) (h7:∀x∈is,V.wf x):V.wf (.mk k b t ks is)
theorem V.wf.inv{k:Int}{b:Nat}{t:QN}{ks:List QN}{is:List V}(h:V.wf (.mk k b t ks is)):(-9223372036854775808≤k∧k≤9223372036854775807)∧b<2^64∧t.length≤Qr∧ks.length*16≤Qr∧is.length*80≤Qr∧(∀s∈ks,s.length≤Qr)∧∀x∈is,V.wf x:=by
  cases h with|mk h1 h2 h3 h4 h5 h6 h7=>exact⟨h1,h2,h3,h4,h5,h6,h7⟩
theorem V.wf_nil:V.nil.wf:=.mk (by decide) (by decide) (by decide) (by decide) (by decide) (fun _ h=>by cases h) (fun _ h=>by cases h)
/-! ### the page -/
def M6(s:QN):Bool:=decide (1≤s.length)&&decide (s.length≤16)
def HY(l:List QN)(j:Nat):Bool:=M6 (l.getD j [])&&(j==0||Op.bytesLess (l.getD (j-1) []) (l.getD j []))
def Hr(l:List QN):Bool:=(List.range l.length).all (HY l)
theorem Mc{p:Nat→Bool}{k:Nat}(h:(List.range k).all p=true)(hk:p k=true):(List.range (k+1)).all p=true:=by
  simp[List.range_succ]at h⊢
  exact⟨h,hk⟩
theorem Lb{p:Nat→Bool}{k n:Nat}(hk:k<n)(h:p k=false):(List.range n).all p=false:=by
  rw[List.all_eq_false]
  exact⟨k,by simpa using hk,by simp[h]⟩
def Uc:V→Bool
  |.mk k b t ks is=>
    if k=0 then b==0&&t==[]&&ks.length==0&&is.length==0
    else if k=1 then decide (b≤1)&&t==[]&&ks.length==0&&is.length==0
    else if k=2 then UT b==b&&t==[]&&ks.length==0&&is.length==0
    else if k=3 then b==0&&decide (t.length≤128)&&ks.length==0&&is.length==0
    else if k=4 then b==0&&t==[]&&ks.length==0&&decide (is.length≤32)
    else if k=5 then b==0&&t==[]&&decide (is.length≤32)&&ks.length==is.length&&Hr ks
    else false
mutual
/-- The first error of a walk, and the parts so far. -/
def V.chk:V→Int→Int→Int×Int
  |.mk k b t ks is,lev,n=>if 8<lev then(10,n)else if 512≤n then(3,n)else if Uc (.mk k b t ks is)=false then(9,n)else V.chks is lev (n+1)
def V.chks:List V→Int→Int→Int×Int
  |[],_,n=>(0,n)
  |x::r,lev,n=>if(x.chk (lev+1) n).1≠0 then x.chk (lev+1) n else V.chks r lev (x.chk (lev+1) n).2
end
mutual
def V.depth:V→Int
  |.mk _ _ _ _ is=>1+V.depths is
def V.depths:List V→Int
  |[]=>0
  |x::r=>max x.depth (V.depths r)
end
def V.err(v:V):Int:=(v.chk 1 0).1
def V.cnt(v:V):Int:=(v.chk 1 0).2
mutual
def V.same:V→V→Bool
  |.mk k b t ks is,.mk k' b' t' ks' is'=>k==k'&&b==b'&&t==t'&&ks==ks'&&V.sames is is'
def V.sames:List V→List V→Bool
  |[],[]=>true
  |x::r,y::s=>x.same y&&V.sames r s
  |_,_=>false
end
mutual
theorem V.same_refl:∀e:V,e.same e=true
  |.mk k b t ks is=>by simp[V.same,V.sames_refl is]
theorem V.sames_refl:∀l:List V,V.sames l l=true
  |[]=>rfl
  |x::r=>by simp[V.sames,V.same_refl x,V.sames_refl r]
end
mutual
theorem Nr:∀{a b:V},a.same b=true→a=b
  |.mk k b t ks is,.mk k' b' t' ks' is',h=>by
    simp only[V.same,Bool.and_eq_true,beq_iff_eq]at h
    obtain⟨⟨⟨⟨rfl,rfl⟩,rfl⟩,rfl⟩,h⟩:=h
    rw[Mf h]
theorem Mf:∀{a b:List V},V.sames a b=true→a=b
  |[],[],_=>rfl
  |x::r,y::s,h=>by
    simp only[V.sames,Bool.and_eq_true]at h
    rw[Nr h.1,Mf h.2]
  |[],_::_,h=>by simp[V.sames]at h
  |_::_,[],h=>by simp[V.sames]at h
end
instance:DecidableEq V:=fun a b=>if h:a.same b=true then isTrue (Nr h)else isFalse fun e=>h (e▸V.same_refl a)
mutual
theorem V.chk_bounds:∀(v:V) (lev n:Int),n≤(v.chk lev n).2∧(n≤512→(v.chk lev n).2≤512)
  |.mk k b t ks is,lev,n=>by
    unfold V.chk
    split
    · exact⟨Int.le_refl _,id⟩
    · split
      · exact⟨Int.le_refl _,id⟩
      · split
        · exact⟨Int.le_refl _,id⟩
        · have:=V.chks_bounds is lev (n+1)
          exact⟨by omega,fun h=>this.2 (by omega)⟩
theorem V.chks_bounds:∀(l:List V) (lev n:Int),n≤(V.chks l lev n).2∧(n≤512→(V.chks l lev n).2≤512)
  |[],lev,n=>⟨Int.le_refl _,id⟩
  |x::r,lev,n=>by
    unfold V.chks
    have h1:=V.chk_bounds x (lev+1) n
    split
    · exact h1
    · have h3:=V.chks_bounds r lev (x.chk (lev+1) n).2
      exact⟨by omega,fun h=>h3.2 (h1.2 h)⟩
end
theorem V.depths_nonneg:∀l:List V,0≤V.depths l
  |[]=>Int.le_refl _
  |x::r=>by unfold V.depths;have:=V.depths_nonneg r;omega
mutual
theorem V.chk_depth:∀(v:V) (lev n:Int),(v.chk lev n).1=0→lev+v.depth≤9∧1≤v.depth
  |.mk k b t ks is,lev,n,h=>by
    unfold V.chk at h
    split at h
    · simp at h
    · split at h
      · simp at h
      · split at h
        · simp at h
        · have:=V.chks_depth is lev (n+1) h
          have h0:=V.depths_nonneg is
          unfold V.depth
          omega
theorem V.chks_depth:∀(l:List V) (lev n:Int),(V.chks l lev n).1=0→V.depths l=0∨lev+V.depths l≤8
  |[],lev,n,h=>.inl rfl
  |x::r,lev,n,h=>by
    unfold V.chks at h
    split at h
    · rename_i h';exact absurd h h'
    · rename_i h'
      have h1:=V.chk_depth x (lev+1) n (by simpa using h')
      have h2:=V.chks_depth r lev _ h
      right
      unfold V.depths
      omega
end

end
section
/- Values whose memory a call owns. -/
theorem Kw{w:World}{A:QS}{l:List Own}:(Own.grp l).ok w A↔∀o∈l,o.ok w A:=by simp[Own.ok,Xp]
theorem Gu{l:List Own}:(Own.grp l).fp=UM l:=by simp[Own.fp,Gt]
theorem YA(own:List Own):Reown own (own++[.grp []]):=⟨fun x=>by simp[Q2,QT,Gu,UW],fun w A g o ho=>by
  rcases List.mem_append.1 ho with ho|ho
  · exact g o ho
  · simp only[List.mem_singleton]at ho;subst ho;simp[Kw]⟩
theorem FI(o a b:Own)(l:List Own):Reown (o::a::b::l) (.grp [o,.grp [a,b]]::l):=⟨fun x=>by simp only[QT,UW,Gu,List.count_append,List.count_nil];omega,fun w A h=>by
  simp only[List.forall_mem_cons,Kw,List.not_mem_nil,false_implies,implies_true,and_true]at h⊢
  exact⟨⟨h.1,h.2.1,h.2.2.1⟩,h.2.2.2⟩⟩
theorem W5(a b:Own)(l:List Own):Reown (a::b::l) (.grp [a,b]::l):=⟨fun x=>by simp only[QT,UW,Gu,List.count_append,List.count_nil];omega,fun w A h=>by
  simp only[List.forall_mem_cons,Kw,List.not_mem_nil,false_implies,implies_true,and_true]at h⊢
  exact⟨⟨h.1,h.2.1⟩,h.2.2⟩⟩
section
variable {P:Program} {E:Wy} {Q:Exit→St→Prop} {n:Nat} {env:List (Nat×AV)} {own:List Own} {F:List (Value×AV)} {D:List Deferred} {ops:Array Oper} {l:List Oper} {c:Code}
theorem J.isSlice(i:Nat){v:Value}{e:U7}{xs:List (List AV)}(hi:own[i]? =some (.arr v e xs))(h:v.oneCell'=true→J P E c ⟨n,env,own,F,D⟩ Q):J P E c ⟨n,env,own,F,D⟩ Q:=fun a w ⟨A,hA⟩=>by
  refine h ?_ a w ⟨A,hA⟩
  rcases hA.arr i hi with ⟨_,hv,_⟩|⟨_,_,_,_,hv,_⟩<;>(rw[hv];rfl)
theorem JL.isSlice(i:Nat){v:Value}{e:U7}{xs:List (List AV)}(hi:own[i]? =some (.arr v e xs))(h:v.oneCell'=true→JL P E ops l ⟨n,env,own,F,D⟩ Q):JL P E ops l ⟨n,env,own,F,D⟩ Q:=fun a w ⟨A,hA⟩=>by
  refine h ?_ a w ⟨A,hA⟩
  rcases hA.arr i hi with ⟨_,hv,_⟩|⟨_,_,_,_,hv,_⟩<;>(rw[hv];rfl)
end
structure VTr(v:V)(kv iv:Value)(ok oi:Own):Prop where
  k1:kv.oneCell'=true
  i1:iv.oneCell'=true
  ks:Tr (.sl true false Wz (QP v.keys)) kv ok
  is:Tr (.sl true false eV (V.css true v.items)) iv oi
def V.raw(v:V)(kv iv:Value):List AV:=[.c (.int .i64 v.kind),.c (.int .u64 (v.bits:Int)),.c (Q4 v.text),.c kv,.c iv]
def V.vals(v:V)(kv iv:Value):List Value:=[.int .i64 v.kind,.int .u64 (v.bits:Int),Q4 v.text,kv,iv]
theorem V.raw_eq(v:V)(kv iv:Value):v.raw kv iv=(v.vals kv iv).map AV.c:=rfl
theorem OwnEq.drops(o:Own):OwnEq (.grp [.grp [],o]) o:=(W8 [] [o]).trans (OwnEq.one o)
theorem VTr.trL{v:V}{kv iv:Value}{ok oi:Own}(h:VTr v kv iv ok oi):TrL (v.cs true) (v.vals kv iv) (.grp [ok,oi]):=by
  obtain⟨k,b,t,ks,is⟩:=v
  have hn:TrL [] [] (.grp []):=.nil (.refl _)
  refine .cons (.c (.refl _)) (.cons (.c (.refl _)) (.cons (.c (.refl _)) (.cons h.ks (.cons h.is hn (o'':=oi) ?_) (.refl _)) (.drops _)) (.drops _)) (.drops _)
  exact(OwnEq.grp_perm (List.Perm.swap _ _ _)).trans (.drops _)
theorem VTr.ones{v:V}{kv iv:Value}{ok oi:Own}(h:VTr v kv iv ok oi):(v.vals kv iv).all (·.oneCell')=true:=by
  simp[V.vals,h.k1,h.i1]
  exact⟨rfl,rfl,rfl⟩
theorem R8:∀ks:List QN,TrL (QP ks).flatten (ks.map Q4) (.grp [])
  |[]=>.nil (.refl _)
  |s::ks=>by
    have:=R8 ks
    simp only[QP,List.map_cons,List.flatten_cons,List.singleton_append]at this⊢
    exact .cons (.c (.refl _)) this (.drops _)
theorem NS{v:Value}{ks:List QN}(h:ks.length*16≤Qr):Tr (.sl true false Wz (QP ks)) v (.arr v Wz (QP ks)):=
  .sl (us:=ks.map Q4) (HX ks) rfl (Hs ks) (Hs ks) (by simp;intro s hs;rfl) (by rw[Qp];exact h) (R8 ks) ((OwnEq.grp_perm (List.Perm.swap _ _ _)).trans ((OwnEq.drops _)))
theorem GO{v:Value}{is:List V}{cells:List (List AV)}{us:List Value}{o:Own}(h1:cells.flatten=us.map AV.c)(h2:cells.length=is.length)(h3:∀x∈cells,x.length=5)(h5:us.all (·.oneCell')=true)(h6:is.length*80≤Qr)
    (h:TrL (V.css true is).flatten us o):Tr (.sl true false eV (V.css true is)) v (.grp [.arr v eV cells,o]):=
  .sl h1 (by rw[h2,V.css_length]) (V.css_sz true is) h3 h5 (by rw[V.css_length];exact h6) h (.refl _)
def Cq(v:V):AV→List Own→Prop:=fun x o=>∃kv iv ok oi,x=.agg (v.raw kv iv)∧o=[ok,oi]∧VTr v kv iv ok oi
structure KidsTr(is:List V)(cells:List (List AV))(us:List Value)(o:Own):Prop where
  h1:cells.flatten=us.map AV.c
  h2:cells.length=is.length
  h3:∀x∈cells,x.length=5
  h5:us.all (·.oneCell')=true
  h:TrL (V.css true is).flatten us o
theorem KidsTr.nil:KidsTr [] [] [] (.grp []):=⟨rfl,rfl,(fun _ h=>by cases h),rfl,.nil (.refl _)⟩
theorem KidsTr.snoc{is:List V}{cells:List (List AV)}{us:List Value}{o ok oi:Own}{v:V}{kv iv:Value}(h:KidsTr is cells us o)(hv:VTr v kv iv ok oi):KidsTr (is++[v]) (cells++[v.raw kv iv]) (us++v.vals kv iv) (.grp [o,.grp [ok,oi]]):=by
  refine⟨by simp[h.h1,V.raw_eq],by simp[h.h2],fun x hx=>?_,by rw[List.all_append,h.h5,hv.ones];rfl,?_⟩
  · rcases List.mem_append.1 hx with hx|hx
    · exact h.h3 x hx
    · simp only[List.mem_singleton]at hx;subst hx;rfl
  · rw[V.css_append,List.flatten_append]
    refine h.h.append ?_ (.refl _)
    simpa[V.css]using hv.trL
theorem KidsTr.tr{is:List V}{cells:List (List AV)}{us:List Value}{o:Own}(h:KidsTr is cells us o){v:Value}(h6:is.length*80≤Qr):Tr (.sl true false eV (V.css true is)) v (.grp [.arr v eV cells,o]):=
  GO h.h1 h.h2 h.h3 h.h5 h6 h.h
theorem BV(ks:List QN):PV (.sl false false Wz (QP ks)):=.sl rfl (EG ks)
theorem Fb(is:List V):PV (.sl false false eV (V.css false is)):=.sl rfl (Mi false is)
theorem VTr.lentK{v:V}{kv iv:Value}{ok oi:Own}(h:VTr v kv iv ok oi):Lent [(kv,.sl false false Wz (QP v.keys))] [ok]:=h.ks.lent (EF true false (fun h=>by cases h) _) (BV _)
theorem VTr.lentI{v:V}{kv iv:Value}{ok oi:Own}(h:VTr v kv iv ok oi):Lent [(iv,.sl false false eV (V.css false v.items))] [oi]:=h.is.lent (BY true false (fun h=>by cases h) _) (Fb _)
theorem V.raw_le{F:List (Value×AV)}{v:V}{kv iv:Value}{fr:Bool}(hk:(kv,.sl fr false Wz (QP v.keys))∈F)(hi:(iv,.sl fr false eV (V.css fr v.items))∈F):Le F (.agg (v.raw kv iv)) (.agg (v.cs fr)):=by
  obtain⟨k,b,t,ks,is⟩:=v
  exact .aggL (.cons (.refl _) (.cons (.refl _) (.cons (.refl _) (.cons (.fact hk (.refl _)) (.cons (.fact hi (.refl _)) .nil)))))
theorem Fn.close{P:Program}{f:FuncId}{xs:List AV}{z:AV}{Rx:AV→List Own→Prop}(h:AC P f [] xs (YV Rx))
    (hc:∀x o,Rx x o→∃G,(∀(w:World) (A:QS),(∀y∈o,y.ok w A)→(∀b∈UM o,∀fr,A fr b)→∀p∈G,Rd w A p.1 p.2)∧Le G x z):Fn P f xs z:=fun w A0 vs h1 h2=>by
  refine(h w A0 vs h1 h2).mono ?_
  rintro e w' ⟨r,own',A,⟨x,rfl,hR⟩,hk,hp,v,rfl,hv⟩
  obtain⟨G,hG,hle⟩:=hc x own' hR
  let A':QS:=fun fr b=>A fr b∨b∈UM own'
  have hup:∀fr b,A fr b→A' fr b:=fun fr b hb=>.inl hb
  have hm:∀b,A' true b→A' false b:=fun b hb=>hb.imp (hp.mono b) id
  have hrd:Rd w' A' v z:=(hv.move (fun fr b hb _=>hup fr b hb) fun _ _ _ _=>rfl:Rd w' A' v x).le (F:=G) hm
    (hG w' A' (fun y hy=>(hp.own y hy).move (fun fr b hb _=>hup fr b hb) (fun _ _ _ _=>rfl) fun _ _=>rfl) fun b hb fr=>.inr hb) hle
  refine⟨.ret z,[],A',⟨rfl,rfl⟩,hk,⟨hm,fun fr b hb=>hup fr b (hp.sup fr b hb),fun fr b hb=>?_,fun fr b hb=>hb.elim (hp.lt fr b) fun hb=>(hp.fp b hb).1,fun b hb=>by simp[UM]at hb,by simp[UM],fun o ho=>by cases ho⟩,v,rfl,hrd⟩
  rcases hb with hb|hb
  · exact hp.sub fr b hb
  · rcases(hp.fp b hb).2.1 with h|h
    · simp[UM]at h
    · exact .inr h
theorem VTr.closG{v:V}{kv iv:Value}{ok oi:Own}(h:VTr v kv iv ok oi)(w:World)(A:QS)(hok:∀y∈[ok,oi],y.ok w A)(hb:∀b∈UM [ok,oi],∀fr,A fr b):
    ∀p∈[(kv,AV.sl true false Wz (QP v.keys)),(iv,AV.sl true false eV (V.css true v.items))],Rd w A p.1 p.2:=fun p hp=>by
  simp only[List.mem_cons,List.not_mem_nil,or_false]at hp
  simp only[QT,UW,List.append_nil,List.mem_append]at hb
  rcases hp with rfl|rfl
  · exact h.ks.rd (hok _ (by simp)) fun b hb'=>hb b (.inl hb') true
  · exact h.is.rd (hok _ (by simp)) fun b hb'=>hb b (.inr hb') true
theorem Fn.ofCopy{P:Program}{f:FuncId}{xs:List AV}{v:V}(h:AC P f [] xs (YV (Cq v))):Fn P f xs (.agg (v.cs true)):=
  Fn.close h fun x o ⟨kv,iv,ok,oi,hx,ho,hV⟩=>by
    subst hx ho
    exact⟨_,hV.closG,V.raw_le (by simp) (by simp)⟩

end
section
/- Expressions as the values of V0, V1: cells, weakenings, sizes. -/
theorem EX.css_getE(fr:Bool){l:List EX}{i:Nat}(h:i<l.length):(EX.css fr l)[i]? =some ((l[i]).cs fr):=EX.css_get fr (List.getElem?_eq_getElem h)
theorem EX.css_append(fr:Bool)(a b:List EX):EX.css fr (a++b)=EX.css fr a++EX.css fr b:=by simp[EX.css_eq]
theorem EX.cs_length(fr:Bool)(v:EX):(v.cs fr).length=4:=by cases v;rfl
theorem EX.css_sz(fr:Bool)(l:List EX):∀x∈EX.css fr l,x.length=RB.sz:=by
  intro x hx
  rw[EX.css_eq]at hx
  obtain⟨v,_,rfl⟩:=List.mem_map.1 hx
  exact EX.cs_length fr v
def Xc(fr:Bool)(v:EX)(ys:List AV):Prop:=ys=v.cs fr
theorem Xc.self{fr:Bool}{v:EX}:Xc fr v (v.cs fr):=rfl
theorem Xc.mk{fr:Bool}{o:Int}{b:Nat}{t:QN}{l:List EX}:Xc fr (.mk o b t l) [.c (.int .i64 o),.c (.int .u64 (b:Int)),.c (Q4 t),.sl fr false RB (EX.css fr l)]:=rfl
def EX.nil:EX:=.mk 0 0 [] []
mutual
def EX.sz:EX→Nat
  |.mk _ _ _ l=>1+EX.szs l
def EX.szs:List EX→Nat
  |[]=>0
  |x::r=>x.sz+EX.szs r
end
theorem EX.sz_pos(v:EX):1≤v.sz:=by cases v;unfold EX.sz;omega
theorem EX.szs_mem:∀{l:List EX} {x:EX},x∈l→x.sz≤EX.szs l
  |y::r,x,h=>by
    unfold EX.szs
    rcases List.mem_cons.1 h with rfl|h
    · omega
    · have:=EX.szs_mem h;omega
theorem EX.sz_get{o:Int}{b:Nat}{t:QN}{l:List EX}{j n:Nat}(h:(EX.mk o b t l).sz≤n+1)(hj:j<l.length):l[j].sz≤n:=by
  have:=EX.szs_mem (List.getElem_mem hj)
  unfold EX.sz at h;omega
theorem EX.wf.inv{o:Int}{b:Nat}{t:QN}{l:List EX}(h:EX.wf (.mk o b t l)):(-9223372036854775808≤o∧o≤9223372036854775807)∧b<2^64∧t.length≤Qr∧l.length*56≤Qr∧∀x∈l,EX.wf x:=by
  cases h with|mk h1 h2 h3 h4 h5=>exact⟨h1,h2,h3,h4,h5⟩
theorem EX.wf_nil:EX.nil.wf:=.mk (by decide) (by decide) (by decide) (by decide) (fun _ h=>by cases h)

end
section
/- Facts of the program's tables: sizes, places of fields, zero values, functions with a body; each by computation. -/
theorem us2:(Tryz.prog.underlying 2).isSome=true:=by kernel_rfl
theorem iu2:Tryz.prog.underlying 2=some (.int .i64):=by kernel_rfl
theorem UA:Un Tryz.prog 3=some (false,1,8):=by kernel_rfl
theorem us3:(Tryz.prog.underlying 3).isSome=true:=by kernel_rfl
theorem iu3:Tryz.prog.underlying 3=some (.int .i64):=by kernel_rfl
abbrev et3:U7:=⟨1,8⟩
theorem Fs:WU Tryz.prog 3 et3=true:=by kernel_rfl
theorem z3:QO Tryz.prog 3=some [.int .i64 0]:=by kernel_rfl
theorem P1:Un Tryz.prog 4=some (false,1,1):=by kernel_rfl
theorem z4:QO Tryz.prog 4=some [.bool false]:=by kernel_rfl
theorem ty5:Un Tryz.prog 5=some (false,1,1):=by kernel_rfl
theorem iu5:Tryz.prog.underlying 5=some (.int .u8):=by kernel_rfl
theorem UO:Un Tryz.prog 9=some (false,1,16):=by kernel_rfl
theorem Mx:Tryz.prog.underlying 9=some .string:=by kernel_rfl
abbrev et9:U7:=⟨1,16⟩
theorem Pw:WU Tryz.prog 9 et9=true:=by kernel_rfl
theorem z9:QO Tryz.prog 9=some [Q4 []]:=by kernel_rfl
theorem WQ:Un Tryz.prog 22=some (false,1,8):=by kernel_rfl
theorem us22:(Tryz.prog.underlying 22).isSome=true:=by kernel_rfl
theorem iu22:Tryz.prog.underlying 22=some (.int .u64):=by kernel_rfl
theorem ty23:Un Tryz.prog 23=some (false,1,24):=by kernel_rfl
theorem sl23:Tryz.prog.underlying 23=some (.slice 25):=by kernel_rfl
theorem Hg:Un Tryz.prog 25=some (true,4,56):=by kernel_rfl
theorem pl25:US Tryz.prog 25=some [(0,1),(1,1),(2,1),(3,1)]:=by kernel_rfl
theorem fo25_0:Qu Tryz.prog 25 0=some 0:=by kernel_rfl
theorem fo25_1:Qu Tryz.prog 25 1=some 1:=by kernel_rfl
theorem fo25_2:Qu Tryz.prog 25 2=some 2:=by kernel_rfl
theorem Pi:Qu Tryz.prog 25 3=some 3:=by kernel_rfl
abbrev et25:U7:=⟨4,56⟩
theorem el25:WU Tryz.prog 25 et25=true:=by kernel_rfl
theorem z25:QO Tryz.prog 25=some [.int .i64 0,.int .u64 0,Q4 [],.slice none 0 0]:=by kernel_rfl
theorem ty26:Un Tryz.prog 26=some (false,1,24):=by kernel_rfl
theorem NI:Tryz.prog.underlying 26=some (.slice 112):=by kernel_rfl
theorem ty27:Un Tryz.prog 27=some (false,1,24):=by kernel_rfl
theorem LG:Tryz.prog.underlying 27=some (.slice 29):=by kernel_rfl
theorem XX:Un Tryz.prog 29=some (true,12,184):=by kernel_rfl
theorem So:US Tryz.prog 29=some [(0,1),(1,1),(2,4),(6,4),(10,1),(11,1)]:=by kernel_rfl
theorem fo29_0:Qu Tryz.prog 29 0=some 0:=by kernel_rfl
theorem fo29_1:Qu Tryz.prog 29 1=some 1:=by kernel_rfl
theorem fo29_2:Qu Tryz.prog 29 2=some 2:=by kernel_rfl
theorem fo29_3:Qu Tryz.prog 29 3=some 6:=by kernel_rfl
theorem Dw:Qu Tryz.prog 29 4=some 10:=by kernel_rfl
theorem Ph:Qu Tryz.prog 29 5=some 11:=by kernel_rfl
abbrev et29:U7:=⟨12,184⟩
theorem el29:WU Tryz.prog 29 et29=true:=by kernel_rfl
theorem P2:QO Tryz.prog 29=some [.int .i64 0,Q4 [],.int .i64 0,.int .u64 0,Q4 [],.slice none 0 0,.int .i64 0,.int .u64 0,Q4 [],.slice none 0 0,.slice none 0 0,.slice none 0 0]:=by kernel_rfl
theorem Ge:Un Tryz.prog 30=some (false,1,24):=by kernel_rfl
theorem Ue:Tryz.prog.underlying 30=some (.slice 9):=by kernel_rfl
theorem WP:Un Tryz.prog 31=some (false,1,24):=by kernel_rfl
theorem QU:Tryz.prog.underlying 31=some (.slice 33):=by kernel_rfl
theorem Ql:Un Tryz.prog 33=some (true,5,80):=by kernel_rfl
theorem Kj:US Tryz.prog 33=some [(0,1),(1,1),(2,1),(3,1),(4,1)]:=by kernel_rfl
theorem UZ:Qu Tryz.prog 33 0=some 0:=by kernel_rfl
theorem UE:Qu Tryz.prog 33 1=some 1:=by kernel_rfl
theorem Xf:Qu Tryz.prog 33 2=some 2:=by kernel_rfl
theorem YQ:Qu Tryz.prog 33 3=some 3:=by kernel_rfl
theorem Uv:Qu Tryz.prog 33 4=some 4:=by kernel_rfl
abbrev et33:U7:=⟨5,80⟩
theorem GX:WU Tryz.prog 33 et33=true:=by kernel_rfl
theorem Yd:QO Tryz.prog 33=some [.int .i64 0,.int .u64 0,Q4 [],.slice none 0 0,.slice none 0 0]:=by kernel_rfl
theorem Ki:Un Tryz.prog 34=some (false,1,24):=by kernel_rfl
theorem Yc:Tryz.prog.underlying 34=some (.slice 36):=by kernel_rfl
theorem Ub:Un Tryz.prog 36=some (true,4,56):=by kernel_rfl
theorem pl36:US Tryz.prog 36=some [(0,1),(1,1),(2,1),(3,1)]:=by kernel_rfl
theorem Yk:Qu Tryz.prog 36 0=some 0:=by kernel_rfl
theorem HA:Qu Tryz.prog 36 1=some 1:=by kernel_rfl
theorem Hz:Qu Tryz.prog 36 2=some 2:=by kernel_rfl
theorem Wu:Qu Tryz.prog 36 3=some 3:=by kernel_rfl
abbrev et36:U7:=⟨4,56⟩
theorem el36:WU Tryz.prog 36 et36=true:=by kernel_rfl
theorem P0:QO Tryz.prog 36=some [.int .i64 0,.int .u64 0,Q4 [],.slice none 0 0]:=by kernel_rfl
theorem TY:Un Tryz.prog 37=some (false,1,24):=by kernel_rfl
theorem Ye:Tryz.prog.underlying 37=some (.slice 114):=by kernel_rfl
theorem RF:Un Tryz.prog 38=some (false,1,24):=by kernel_rfl
theorem Y8:Tryz.prog.underlying 38=some (.slice 40):=by kernel_rfl
theorem UR:Un Tryz.prog 40=some (true,12,184):=by kernel_rfl
theorem pl40:US Tryz.prog 40=some [(0,1),(1,1),(2,4),(6,4),(10,1),(11,1)]:=by kernel_rfl
theorem N6:Qu Tryz.prog 40 0=some 0:=by kernel_rfl
theorem Dv:Qu Tryz.prog 40 1=some 1:=by kernel_rfl
theorem Du:Qu Tryz.prog 40 2=some 2:=by kernel_rfl
theorem N5:Qu Tryz.prog 40 3=some 6:=by kernel_rfl
theorem Gw:Qu Tryz.prog 40 4=some 10:=by kernel_rfl
theorem KD:Qu Tryz.prog 40 5=some 11:=by kernel_rfl
abbrev et40:U7:=⟨12,184⟩
theorem el40:WU Tryz.prog 40 et40=true:=by kernel_rfl
theorem z40:QO Tryz.prog 40=some [.int .i64 0,Q4 [],.int .i64 0,.int .u64 0,Q4 [],.slice none 0 0,.int .i64 0,.int .u64 0,Q4 [],.slice none 0 0,.slice none 0 0,.slice none 0 0]:=by kernel_rfl
theorem CB:Un Tryz.prog 43=some (false,1,24):=by kernel_rfl
theorem WS:Tryz.prog.underlying 43=some (.slice 191):=by kernel_rfl
theorem YN:Un Tryz.prog 44=some (false,1,24):=by kernel_rfl
theorem Q6:Tryz.prog.underlying 44=some (.slice 46):=by kernel_rfl
theorem QB:Un Tryz.prog 46=some (true,5,96):=by kernel_rfl
theorem CT:US Tryz.prog 46=some [(0,1),(1,1),(2,1),(3,1),(4,1)]:=by kernel_rfl
theorem KC:Qu Tryz.prog 46 0=some 0:=by kernel_rfl
theorem Gv:Qu Tryz.prog 46 1=some 1:=by kernel_rfl
theorem Hy:Qu Tryz.prog 46 2=some 2:=by kernel_rfl
theorem Hx:Qu Tryz.prog 46 3=some 3:=by kernel_rfl
theorem UJ:Qu Tryz.prog 46 4=some 4:=by kernel_rfl
abbrev et46:U7:=⟨5,96⟩
theorem Qa0:WU Tryz.prog 46 et46=true:=by kernel_rfl
theorem z46:QO Tryz.prog 46=some [Q4 [],Q4 [],Q4 [],.slice none 0 0,.slice none 0 0]:=by kernel_rfl
theorem We:Un Tryz.prog 47=some (false,1,8):=by kernel_rfl
theorem z47:QO Tryz.prog 47=some [.int .i64 0]:=by kernel_rfl
theorem Ks:Tryz.prog.underlying 97=some (.slice 3):=by kernel_rfl
theorem ty112:Un Tryz.prog 112=some (true,5,72):=by kernel_rfl
theorem QaU:Qu Tryz.prog 112 0=some 0:=by kernel_rfl
theorem QaT:Qu Tryz.prog 112 1=some 1:=by kernel_rfl
theorem U9:Un Tryz.prog 114=some (true,5,72):=by kernel_rfl
theorem pl114:US Tryz.prog 114=some [(0,1),(1,4)]:=by kernel_rfl
theorem Lq:Qu Tryz.prog 114 0=some 0:=by kernel_rfl
theorem Ca:Qu Tryz.prog 114 1=some 1:=by kernel_rfl
abbrev et114:U7:=⟨5,72⟩
theorem el114:WU Tryz.prog 114 et114=true:=by kernel_rfl
theorem FS:QO Tryz.prog 114=some [Q4 [],.int .i64 0,.int .u64 0,Q4 [],.slice none 0 0]:=by kernel_rfl
theorem ty120:Un Tryz.prog 120=some (true,15,240):=by kernel_rfl
theorem pl120:US Tryz.prog 120=some [(0,5),(5,5),(10,5)]:=by kernel_rfl
theorem QaS:Qu Tryz.prog 120 0=some 0:=by kernel_rfl
theorem QaR:Qu Tryz.prog 120 1=some 5:=by kernel_rfl
theorem Xw:Qu Tryz.prog 120 2=some 10:=by kernel_rfl
theorem z120:QO Tryz.prog 120=some [.int .i64 0,.int .u64 0,Q4 [],.slice none 0 0,.slice none 0 0,.int .i64 0,.int .u64 0,Q4 [],.slice none 0 0,.slice none 0 0,.int .i64 0,.int .u64 0,Q4 [],.slice none 0 0,.slice none 0 0]:=by kernel_rfl
theorem pl122:US Tryz.prog 122=some [(0,15),(15,1)]:=by kernel_rfl
theorem Lp:Qu Tryz.prog 122 0=some 0:=by kernel_rfl
theorem E9:Qu Tryz.prog 122 1=some 15:=by kernel_rfl
theorem z122:QO Tryz.prog 122=some [.int .i64 0,.int .u64 0,Q4 [],.slice none 0 0,.slice none 0 0,.int .i64 0,.int .u64 0,Q4 [],.slice none 0 0,.slice none 0 0,.int .i64 0,.int .u64 0,Q4 [],.slice none 0 0,.slice none 0 0,.int .i64 0]:=by kernel_rfl
theorem z132:QO Tryz.prog 132=some [Q4 [],Q4 []]:=by kernel_rfl
theorem us144:(Tryz.prog.underlying 144).isSome=true:=by kernel_rfl
theorem fl144:Tryz.prog.underlying 144=some (.float .f64):=by kernel_rfl
theorem Ko:Un Tryz.prog 191=some (true,2,32):=by kernel_rfl
theorem pl191:US Tryz.prog 191=some [(0,1),(1,1)]:=by kernel_rfl
theorem Rb:Qu Tryz.prog 191 0=some 0:=by kernel_rfl
theorem QaQ:Qu Tryz.prog 191 1=some 1:=by kernel_rfl
abbrev et191:U7:=⟨2,32⟩
theorem el191:WU Tryz.prog 191 et191=true:=by kernel_rfl
theorem z191:QO Tryz.prog 191=some [Q4 [],Q4 []]:=by kernel_rfl
theorem z204:QO Tryz.prog 204=some [.int .u8 0,.int .u8 0,.int .u8 0,.int .u8 0,.int .u8 0,.int .u8 0,.int .u8 0,.int .u8 0,.int .u8 0,.int .u8 0,.int .u8 0,.int .u8 0,.int .u8 0,.int .u8 0,.int .u8 0,.int .u8 0,.int .u8 0,.int .u8 0,.int .u8 0,.int .u8 0]:=by kernel_rfl
theorem LH:Tryz.prog.underlying 205=some (.slice 5):=by kernel_rfl
theorem Lo:Qu Tryz.prog 212 0=some 0:=by kernel_rfl
theorem Ra:Qu Tryz.prog 212 1=some 1:=by kernel_rfl
theorem KU:Qu Tryz.prog 212 2=some 2:=by kernel_rfl
theorem z212:QO Tryz.prog 212=some [.int .i64 0,.int .i64 0,.int .i64 0]:=by kernel_rfl
theorem Ln:Qu Tryz.prog 242 0=some 0:=by kernel_rfl
theorem N9:Qu Tryz.prog 242 1=some 1:=by kernel_rfl
theorem z242:QO Tryz.prog 242=some [.int .i64 0,.int .i64 0]:=by kernel_rfl
theorem us247:(Tryz.prog.underlying 247).isSome=true:=by kernel_rfl
theorem iu247:Tryz.prog.underlying 247=some (.int .u64):=by kernel_rfl
theorem Ex:Tryz.prog.underlying 261=some (.map 9 4):=by kernel_rfl
theorem Lm:Qu Tryz.prog 302 0=some 0:=by kernel_rfl
theorem N8:Qu Tryz.prog 302 1=some 1:=by kernel_rfl
theorem z302:QO Tryz.prog 302=some [.int .i64 0,.int .i64 0]:=by kernel_rfl
theorem MT:Un Tryz.prog 309=some (false,1,8):=by kernel_rfl
theorem pl311:US Tryz.prog 311=some [(0,15),(15,1)]:=by kernel_rfl
theorem X9:Qu Tryz.prog 311 0=some 0:=by kernel_rfl
theorem Ll:Qu Tryz.prog 311 1=some 15:=by kernel_rfl
theorem z311:QO Tryz.prog 311=some [.int .i64 0,.int .u64 0,Q4 [],.slice none 0 0,.slice none 0 0,.int .i64 0,.int .u64 0,Q4 [],.slice none 0 0,.slice none 0 0,.int .i64 0,.int .u64 0,Q4 [],.slice none 0 0,.slice none 0 0,.int .i64 0]:=by kernel_rfl
theorem UC:Un Tryz.prog 341=some (true,4,32):=by kernel_rfl
theorem YE:US Tryz.prog 341=some [(0,1),(1,1),(2,1),(3,1)]:=by kernel_rfl
theorem QaP:Qu Tryz.prog 341 0=some 0:=by kernel_rfl
theorem QaO:Qu Tryz.prog 341 1=some 1:=by kernel_rfl
theorem QaN:Qu Tryz.prog 341 2=some 2:=by kernel_rfl
theorem QaM:Qu Tryz.prog 341 3=some 3:=by kernel_rfl
theorem XU:QO Tryz.prog 341=some [.int .i64 0,.int .i64 0,.int .i64 0,.int .i64 0]:=by kernel_rfl
theorem K2:Un Tryz.prog 351=some (true,3,32):=by kernel_rfl
theorem El:US Tryz.prog 351=some [(0,1),(1,1),(2,1)]:=by kernel_rfl
theorem Lk:Qu Tryz.prog 351 0=some 0:=by kernel_rfl
theorem N7:Qu Tryz.prog 351 1=some 1:=by kernel_rfl
theorem GT:Qu Tryz.prog 351 2=some 2:=by kernel_rfl
abbrev et351:U7:=⟨3,32⟩
theorem Px:WU Tryz.prog 351 et351=true:=by kernel_rfl
theorem ND:QO Tryz.prog 351=some [.bool false,Q4 [],.int .i64 0]:=by kernel_rfl
theorem HP:Tryz.prog.underlying 352=some (.slice 351):=by kernel_rfl
theorem z363:QO Tryz.prog 363=some [.int .i64 0,.int .u64 0,Q4 [],.slice none 0 0,.slice none 0 0,.int .i64 0,.int .u64 0,Q4 [],.slice none 0 0,.slice none 0 0]:=by kernel_rfl
theorem mixed:Tryz.prog.follows .mixedOrders=true:=by kernel_rfl
theorem N4:QJ Tryz.prog 12=true:=by kernel_rfl
theorem Dt:QJ Tryz.prog 14=true:=by kernel_rfl
theorem gofn16:QJ Tryz.prog 16=true:=by kernel_rfl
theorem Ds:QJ Tryz.prog 18=true:=by kernel_rfl
theorem gofn19:QJ Tryz.prog 19=true:=by kernel_rfl
theorem Pc:QJ Tryz.prog 21=true:=by kernel_rfl
theorem gofn23:QJ Tryz.prog 23=true:=by kernel_rfl
theorem gofn24:QJ Tryz.prog 24=true:=by kernel_rfl
theorem Dr:QJ Tryz.prog 25=true:=by kernel_rfl
theorem Dq:QJ Tryz.prog 26=true:=by kernel_rfl
theorem gofn27:QJ Tryz.prog 27=true:=by kernel_rfl
theorem NW:QJ Tryz.prog 41=true:=by kernel_rfl
theorem X5:QJ Tryz.prog 42=true:=by kernel_rfl
theorem Dp:QJ Tryz.prog 43=true:=by kernel_rfl
theorem NV:QJ Tryz.prog 44=true:=by kernel_rfl
theorem Pb:QJ Tryz.prog 45=true:=by kernel_rfl
theorem Gs:QJ Tryz.prog 46=true:=by kernel_rfl
theorem Pa:QJ Tryz.prog 50=true:=by kernel_rfl
theorem B9:QJ Tryz.prog 52=true:=by kernel_rfl
theorem B8:QJ Tryz.prog 53=true:=by kernel_rfl
theorem gofn55:QJ Tryz.prog 55=true:=by kernel_rfl
theorem gofn57:QJ Tryz.prog 57=true:=by kernel_rfl
theorem Ls(b:Nat)(w:World):(callFunc 58 #[.float .f64 b]).run Tryz.prog w=.ok (.value (.int .u64 b)) w:=by kernel_rfl
theorem LX:QJ Tryz.prog 61=true:=by kernel_rfl
theorem gofn81:QJ Tryz.prog 81=true:=by kernel_rfl
theorem Do:QJ Tryz.prog 82=true:=by kernel_rfl
theorem Hv:QJ Tryz.prog 83=true:=by kernel_rfl
theorem gofn84:QJ Tryz.prog 84=true:=by kernel_rfl
theorem B7:QJ Tryz.prog 86=true:=by kernel_rfl
theorem Dn:QJ Tryz.prog 87=true:=by kernel_rfl
theorem B6:QJ Tryz.prog 93=true:=by kernel_rfl
theorem gofn96:QJ Tryz.prog 96=true:=by kernel_rfl
theorem Dm:QJ Tryz.prog 97=true:=by kernel_rfl
theorem E4:QJ Tryz.prog 100=true:=by kernel_rfl
theorem QaJ:QJ Tryz.prog 102=true:=by kernel_rfl
theorem QaI:QJ Tryz.prog 103=true:=by kernel_rfl
theorem E3:QJ Tryz.prog 124=true:=by kernel_rfl
theorem E2:QJ Tryz.prog 125=true:=by kernel_rfl
theorem E1:QJ Tryz.prog 126=true:=by kernel_rfl
theorem Lj:QJ Tryz.prog 129=true:=by kernel_rfl
theorem QaH:QJ Tryz.prog 130=true:=by kernel_rfl
theorem Xx(b:Nat)(w:World):(callFunc 137 #[.int .u64 (b:Int)]).run Tryz.prog w=.ok (.value (.float .f64 b)) w:=by kernel_rfl
theorem QaG:QJ Tryz.prog 138=true:=by kernel_rfl
theorem QaF:QJ Tryz.prog 139=true:=by kernel_rfl
theorem N3:QJ Tryz.prog 140=true:=by kernel_rfl
theorem E0:QJ Tryz.prog 145=true:=by kernel_rfl
theorem Li:QJ Tryz.prog 146=true:=by kernel_rfl
theorem QaE:QJ Tryz.prog 147=true:=by kernel_rfl
theorem QaD:QJ Tryz.prog 151=true:=by kernel_rfl
theorem QaC:QJ Tryz.prog 168=true:=by kernel_rfl
theorem QaB:QJ Tryz.prog 169=true:=by kernel_rfl
theorem QaA:QJ Tryz.prog 180=true:=by kernel_rfl
theorem Qaz:QJ Tryz.prog 185=true:=by kernel_rfl
theorem Qay:QJ Tryz.prog 186=true:=by kernel_rfl
theorem EZ:QJ Tryz.prog 190=true:=by kernel_rfl
theorem Qax:QJ Tryz.prog 191=true:=by kernel_rfl
theorem Qaw:QJ Tryz.prog 192=true:=by kernel_rfl
theorem EY:QJ Tryz.prog 193=true:=by kernel_rfl
theorem EW:QJ Tryz.prog 194=true:=by kernel_rfl
theorem EV:QJ Tryz.prog 195=true:=by kernel_rfl
theorem Qav:QJ Tryz.prog 198=true:=by kernel_rfl
theorem Qau:QJ Tryz.prog 206=true:=by kernel_rfl
theorem N2:QJ Tryz.prog 207=true:=by kernel_rfl
theorem EU:QJ Tryz.prog 208=true:=by kernel_rfl
theorem ET:QJ Tryz.prog 209=true:=by kernel_rfl
theorem X8:QJ Tryz.prog 210=true:=by kernel_rfl
theorem Qat:QJ Tryz.prog 219=true:=by kernel_rfl
theorem Qas:QJ Tryz.prog 220=true:=by kernel_rfl
theorem N1:QJ Tryz.prog 221=true:=by kernel_rfl
theorem Qar:QJ Tryz.prog 222=true:=by kernel_rfl
theorem Qaq:QJ Tryz.prog 224=true:=by kernel_rfl
theorem Qap:QJ Tryz.prog 225=true:=by kernel_rfl
theorem N0:QJ Tryz.prog 229=true:=by kernel_rfl
theorem ES:QJ Tryz.prog 230=true:=by kernel_rfl
theorem WL:QJ Tryz.prog 231=true:=by kernel_rfl
theorem YY:QJ Tryz.prog 232=true:=by kernel_rfl
theorem X7:QJ Tryz.prog 233=true:=by kernel_rfl
theorem X6:QJ Tryz.prog 234=true:=by kernel_rfl
theorem NZ:QJ Tryz.prog 235=true:=by kernel_rfl
theorem Qao:QJ Tryz.prog 236=true:=by kernel_rfl
theorem Qan:QJ Tryz.prog 246=true:=by kernel_rfl
theorem EQ:QJ Tryz.prog 247=true:=by kernel_rfl
theorem Qam:QJ Tryz.prog 250=true:=by kernel_rfl
theorem EP:QJ Tryz.prog 252=true:=by kernel_rfl
theorem NY:QJ Tryz.prog 253=true:=by kernel_rfl
theorem Qal:QJ Tryz.prog 254=true:=by kernel_rfl
theorem Qak:QJ Tryz.prog 255=true:=by kernel_rfl
theorem Qaj:QJ Tryz.prog 256=true:=by kernel_rfl
theorem NX:QJ Tryz.prog 257=true:=by kernel_rfl
theorem WZ:QJ Tryz.prog 258=true:=by kernel_rfl
theorem Lh:QJ Tryz.prog 259=true:=by kernel_rfl
theorem Qai:QJ Tryz.prog 260=true:=by kernel_rfl
theorem Qah:QJ Tryz.prog 261=true:=by kernel_rfl
theorem EO:QJ Tryz.prog 262=true:=by kernel_rfl
theorem Qag:QJ Tryz.prog 263=true:=by kernel_rfl
theorem EN:QJ Tryz.prog 269=true:=by kernel_rfl
theorem Qaf:QJ Tryz.prog 270=true:=by kernel_rfl
theorem Qae:QJ Tryz.prog 271=true:=by kernel_rfl
theorem Qad:QJ Tryz.prog 272=true:=by kernel_rfl
theorem Qac:QJ Tryz.prog 273=true:=by kernel_rfl
theorem Qab:QJ Tryz.prog 274=true:=by kernel_rfl
theorem Qaa:QJ Tryz.prog 275=true:=by kernel_rfl
theorem EM:QJ Tryz.prog 276=true:=by kernel_rfl
theorem EL:QJ Tryz.prog 277=true:=by kernel_rfl
theorem S9:QJ Tryz.prog 283=true:=by kernel_rfl
theorem S8:QJ Tryz.prog 284=true:=by kernel_rfl
theorem S7:QJ Tryz.prog 285=true:=by kernel_rfl
theorem Lg:QJ Tryz.prog 286=true:=by kernel_rfl
theorem S6:QJ Tryz.prog 287=true:=by kernel_rfl
theorem S5:QJ Tryz.prog 288=true:=by kernel_rfl
theorem S4:QJ Tryz.prog 289=true:=by kernel_rfl
theorem S3:QJ Tryz.prog 290=true:=by kernel_rfl
theorem S2:QJ Tryz.prog 293=true:=by kernel_rfl
theorem EK:QJ Tryz.prog 294=true:=by kernel_rfl
theorem S1:QJ Tryz.prog 295=true:=by kernel_rfl
theorem S0:QJ Tryz.prog 296=true:=by kernel_rfl
theorem SZ:QJ Tryz.prog 297=true:=by kernel_rfl
theorem SY:QJ Tryz.prog 298=true:=by kernel_rfl
theorem SX:QJ Tryz.prog 299=true:=by kernel_rfl
theorem SW:QJ Tryz.prog 304=true:=by kernel_rfl
theorem EJ:QJ Tryz.prog 305=true:=by kernel_rfl
theorem EI:QJ Tryz.prog 312=true:=by kernel_rfl
theorem EH:QJ Tryz.prog 313=true:=by kernel_rfl

end
section
/- Appends onto slices that are read alone and have no spare places: what comes of them is fresh. Lists of trees. -/
section
variable {P:Program} {E:Wy} {st:St} {Q:Exit→St→Prop} {n:Nat} {env:List (Nat×AV)} {own:List Own} {F:List (Value×AV)} {D:List Deferred} {ops:Array Oper} {rest:List Oper}
variable {A:QS} {a:Act} {w w':World} {t tx et ty:TypeId} {pos:String} {af:Array Edge} {d:Nat} {dd:Option Tmp} {gd:Option (Nat×Bool)} {s x y:Operand}
theorem SatA.drawn(h:SatA E A st a w):SatA E A st a (Q9 w):=by
  obtain⟨n,env,own,F,D⟩:=st
  exact h.draw
end
theorem Reown.ofEq{a b:List Own}(h:a=b):Reown a b:=h▸ .refl _

end
section
/- Regions that draw their order, with allocations that hang on nothing among their operations. -/
abbrev Al:=List (Nat×Nat×List AV)
def AllocOp(P:Program)(o:Oper)(d:Nat)(z:List AV):Prop:=
  ∃t ty pos af vs,o=⟨some d,.alloc t,ty,pos,af,none⟩∧QO P t=some vs∧vs.all (·.oneCell')=true∧z=vs.map AV.c
theorem AllocOp.dst{P:Program}{o:Oper}{d:Nat}{z:List AV}(h:AllocOp P o d z):o.dst=some d:=by
  obtain⟨t,ty,pos,af,vs,rfl,_⟩:=h;rfl
theorem AllocOp.guard{P:Program}{o:Oper}{d:Nat}{z:List AV}(h:AllocOp P o d z):o.guard=none:=by
  obtain⟨t,ty,pos,af,vs,rfl,_⟩:=h;rfl
theorem AllocOp.mk{P:Program}{t:TypeId}{ty:TypeId}{pos:String}{af:Array Edge}{d:Nat}{vs:List Value}(hz:QO P t=some vs)(h1:vs.all (·.oneCell')=true):AllocOp P ⟨some d,.alloc t,ty,pos,af,none⟩ d (vs.map AV.c):=⟨t,ty,pos,af,vs,rfl,hz,h1,rfl⟩
theorem AllocOp.run{P:Program}{E:Wy}{o:Oper}{d:Nat}{z:List AV}(h:AllocOp P o d z){n:Nat}{env:List (Nat×AV)}{own ex:List Own}{F:List (Value×AV)}{D:List Deferred}{A:QS}{a:Act}{w:World}{Qx:Exit→Act→World→Prop}
    (hA:SatA E A ⟨n,env,own++ex,F,D⟩ a w) (K:Act→World→Prop)
    (hK:∀b w',Frm w A w' A→SatA E A ⟨n,env,.box b z::(own++ex),F,D⟩ a w'→K (a.put o.dst (.pointer (some ⟨b,0,none⟩))) w'):o.wpIn (XG E.rd) 0 P a w K Qx:=by
  obtain⟨t,ty,pos,af,vs,rfl,hz,h1,rfl⟩:=h
  refine Hd (by intro c h;cases h) ?_
  unfold Oper.wp
  obtain⟨i,zv,h2,h3,h4⟩:∃i zv,P.info? t=some i∧i.zero=some zv∧zv.cells.toList=vs:=by
    unfold QO at hz
    cases hi:P.info? t with
    |none=>rw[hi]at hz;cases hz
    |some i=>
      rw[hi]at hz
      cases hzz:i.zero with
      |none=>simp[hzz]at hz
      |some zv=>exact⟨i,zv,rfl,hzz,by simpa[hzz]using hz⟩
  have hr:(execOp a.eval ⟨some d,.alloc t,ty,pos,af,none⟩).run P w=.ok (.value (.pointer (some ⟨w.heap.size,0,none⟩))) (QH w (.cells vs.toArray t)):=by
    subst h4
    simp[execOp,Instr.alloc,zeroValue,Yg h2,h3,newVar,newRow,QH]
  rw[hr,Oper.upon_value]
  have hs:=hA.step (.push _ _ _) (fun _ _ h=>h) (hA.hp.push_box (us:=vs.toArray) (t:=t) hA.keep.size (by simp) (.const h1))
  refine hK w.heap.size _ (fun v x hx=>hx.move (fun _ _ h _=>h) (fun fr b hb _=>(Keep.push [] _ _).block b (hA.hp.lt fr b hb) (by simp))) hs
section
variable {P:Program} {E:Wy} {Q:Exit→St→Prop} {n:Nat} {env:List (Nat×AV)} {own:List Own} {R:XS→List Own→AV→List Own→Prop} {M:Nat} {F:List (Value×AV)} {D:List Deferred} {ops:Array Oper}
end
section
variable {P:Program} {E:Wy} {Q:Exit→St→Prop} {n:Nat} {env:List (Nat×AV)} {own:List Own} {R:XS→List Own→AV→List Own→Prop} {M:Nat} {F:List (Value×AV)} {D:List Deferred} {ops:Array Oper}
variable {i j p:Nat} {da:Al} {K:List YU→Al→Prop}
theorem XM:∀(ms:List Cd) (ps own ex:List Own),ms.length≤own.length→(QZ ms ps (own++ex)).Perm (QZ ms ps own++ex)
  |[],ps,own,ex,_=>by
    simp only[QZ,List.append_assoc]
    exact List.Perm.append_left _ List.perm_append_comm
  |_::_,_,[],_,h=>by simp at h
  |.p::ms,p::ps,_::own,ex,h=>by simpa[QZ]using XM ms ps own ex (by simpa using h)
  |.p::ms,[],_::own,ex,h=>by simpa[QZ]using XM ms [] own ex (by simpa using h)
  |.k::ms,ps,o::own,ex,h=>by simpa[QZ]using XM ms ps own ex (by simpa using h)
  |.l::ms,ps,o::own,ex,h=>by simpa[QZ]using XM ms ps own ex (by simpa using h)
end

end
section
/- Parts of own arrays: an own array laid open as a block; slices of it as constants; copies, appends in place, clearing, room that is made. -/
abbrev sv(b off l c:Nat):Value:=.slice (some ⟨b,off,none⟩) l c
section
variable {P:Program} {E:Wy} {st:St} {Q:Exit→St→Prop} {n B:Nat} {env:List (Nat×AV)} {own:List Own} {F:List (Value×AV)} {D:List Deferred} {ops:Array Oper} {rest:List Oper} {c:Code}
variable {A:QS} {a:Act} {w w':World} {t tx et ty:TypeId} {pos:String} {af:Array Edge} {d:Nat} {dd:Option Tmp} {gd:Option (Nat×Bool)} {x y s lo hi mx:Operand} {g:Bool} {m:Nat} {k k' k'':IntKind} {i j j':Int}
/-! ### open and shut -/
theorem SatA.swap{i:Nat}{o o':Own}(h:SatA E A ⟨n,env,own,F,D⟩ a w)(hi:own[i]? =some o)(hf:o'.fp=o.fp)(ho:o'.ok w A):SatA E A ⟨n,env,own.set i o',F,D⟩ a w:=
  ⟨h.size,h.defers,h.keep,h.hp.upd hi hf (.refl _ _) rfl ho,h.env,h.facts⟩
theorem SatA.lay{i:Nat}{v:Value}{e:U7}{xs:List (List AV)}(h:SatA E A ⟨n,env,own,F,D⟩ a w)(hi:own[i]? =some (.arr v e xs)):
    (∃a0,v=.slice a0 0 0∧xs=[])∨∃b cap sp,v=sv b 0 xs.length (cap+1)∧xs.length≤cap+1∧(∀x∈xs,x.length=e.sz)∧xs.flatten.length+List.length sp=(cap+1)*e.sz∧
      SatA E A ⟨n,env,own.set i (.box b (xs.flatten++sp.map AV.c)),F,D⟩ a w:=by
  rcases h.arr i hi with h0|⟨b,cap,us,t,hv,h1,h2,h3,h4,h5⟩
  · exact .inl h0
  have hfl:=QE xs h4
  have hle:xs.flatten.length≤us.size:=by rw[hfl,h3.size];exact Nat.mul_le_mul_right _ h2
  have h3s:=h3.size
  have hul:us.toList.length=us.size:=by simp
  refine .inr ⟨b,cap,us.toList.drop xs.flatten.length,hv,h2,h4,by rw[List.length_drop];omega,h.swap hi (by rw[hv];rfl) ?_⟩
  refine⟨us,t,h1,by rw[List.length_append,List.length_map,List.length_drop];omega,fun k y hk=>?_⟩
  rw[Nat.zero_add]
  by_cases hlt:k<xs.flatten.length
  · rw[List.getElem?_append_left hlt]at hk
    have:=h5 k y hk
    rwa [Nat.zero_add]at this
  · rw[List.getElem?_append_right (by omega),List.getElem?_map,List.getElem?_drop]at hk
    rw[show xs.flatten.length+(k-xs.flatten.length)=k by omega]at hk
    cases hu:us[k]? with
    |none=>rw[Array.getElem?_toList,hu]at hk;cases hk
    |some u=>
      rw[Array.getElem?_toList,hu]at hk
      simp only[Option.map_some,Option.some.injEq]at hk
      subst hk
      exact⟨u,rfl,h3.one k u hu,.c u⟩
theorem J.lay(i:Nat){v:Value}{e:U7}{xs:List (List AV)}(hi:own[i]? =some (.arr v e xs))(h0:∀a0,v=.slice a0 0 0→xs=[]→J P E c ⟨n,env,own,F,D⟩ Q)
    (h1:∀b cap sp,v=sv b 0 xs.length (cap+1)→xs.length≤cap+1→(∀x∈xs,x.length=e.sz)→xs.flatten.length+List.length sp=(cap+1)*e.sz→J P E c ⟨n,env,own.set i (.box b (xs.flatten++sp.map AV.c)),F,D⟩ Q):J P E c ⟨n,env,own,F,D⟩ Q:=fun a w ⟨A,hA⟩=>by
  rcases hA.lay hi with ⟨a0,hv,hx⟩|⟨b,cap,sp,hv,g1,g2,g3,g4⟩
  · exact h0 a0 hv hx a w ⟨A,hA⟩
  · exact h1 b cap sp hv g1 g2 g3 a w ⟨A,g4⟩
theorem SatA.fold{i:Nat}{b cap:Nat}{ys:List AV}{v:Value}{e:U7}{xs:List (List AV)}(h:SatA E A ⟨n,env,own,F,D⟩ a w)(hi:own[i]? =some (.box b ys))(hv:v=sv b 0 xs.length (cap+1))(hle:xs.length≤cap+1)
    (hs:∀x∈xs,x.length=e.sz) (hl:ys.length=(cap+1)*e.sz) (hp:ys.take xs.flatten.length=xs.flatten):SatA E A ⟨n,env,own.set i (.arr v e xs),F,D⟩ a w:=by
  obtain⟨us,t,h1,h2,h3⟩:=(h.hp.own _ (List.mem_of_getElem? hi):(Own.box b ys).ok w A)
  refine h.swap hi (by rw[hv];rfl) (.inr ⟨b,cap,us,t,hv,h1,hle,⟨by rw[h2,hl],fun k u hu=>?_⟩,hs,fun k y hk=>?_⟩)
  · have hk:k<ys.length:=by rw[← h2];exact(Array.getElem?_eq_some_iff.1 hu).1
    obtain⟨u',g1,g2,_⟩:=h3 k _ (List.getElem?_eq_getElem hk)
    rw[Nat.zero_add,hu]at g1
    cases g1;exact g2
  · refine h3 k y ?_
    have hk1:=(List.getElem?_eq_some_iff.1 hk).1
    rw[← hp]at hk
    rw[List.getElem?_take]at hk
    rwa [if_pos hk1]at hk
theorem J.fold(i:Nat){b cap:Nat}{ys:List AV}{v:Value}{e:U7}(xs:List (List AV))(hi:own[i]? =some (.box b ys))(hv:v=sv b 0 xs.length (cap+1))(hle:xs.length≤cap+1)
    (hs:∀x∈xs,x.length=e.sz) (hl:ys.length=(cap+1)*e.sz) (hp:ys.take xs.flatten.length=xs.flatten) {own':List Own} (ho:own.set i (.arr v e xs)=own') (h:J P E c ⟨n,env,own',F,D⟩ Q):J P E c ⟨n,env,own,F,D⟩ Q:=fun a w ⟨A,hA⟩=>by
  subst ho
  exact h a w ⟨A,hA.fold hi hv hle hs hl hp⟩
/-! ### slices of a block, as constants -/
theorem Cm{b off cap:Nat}{l:Nat}{off':Nat}(ho:(if cap=l then off else off+l*m)=off')(l' c':Nat):(Value.slice (if cap=l then some ⟨b,off,none⟩else(some ⟨b,off,none⟩:Option Addr).map (·.add (l*m))) l' c')=sv b off' l' c':=by
  subst ho
  split
  · rfl
  · rw[Option.map_some,Wv]
theorem Wx{b off len cap l off':Nat}(hU:P.underlying t=some (.slice et))(hT:Un P et=some (g,m,B))(hx:Ev E st x (.c (sv b off len cap)))(hlo:Ev E st lo (.c (.int k i)))(hi:i=(l:Int))(hl:l≤len)(hc:len≤cap)(ho:(if cap=l then off else off+l*m)=off'):
    QW P E st ⟨dd,.slice t x (some lo) none none,ty,pos,af,gd⟩ (.c (sv b off' (len-l) (cap-l))):=.pure fun A a w hs=>by
  refine⟨sv b off' (len-l) (cap-l),?_,.c _⟩
  have:=XJ (P:=P) (w:=w) (ad:=some ⟨b,off,none⟩) (k:=k) (k':=.i64) hU hT (some l) none (len:=len) (cap:=cap) (by simpa using hl) (by simpa using hc)
  simp only[bnd,Option.getD_some,Option.getD_none]at this
  rw[Cm ho]at this
  simp only[execOp,hx.eq hs,Option.map_some,Option.map_none,Mu hlo hi hs,Sem.run_bind,this,Result.andThen_ok,Sem.run_pure]
theorem Lx{b off len cap h:Nat}(hU:P.underlying t=some (.slice et))(hT:Un P et=some (g,m,B))(hx:Ev E st x (.c (sv b off len cap)))(hhi:Ev E st hi (.c (.int k j)))(hj:j=(h:Int))(hc:h≤cap):
    QW P E st ⟨dd,.slice t x none (some hi) none,ty,pos,af,gd⟩ (.c (sv b off h cap)):=.pure fun A a w hs=>by
  refine⟨sv b off h cap,?_,.c _⟩
  have:=XJ (P:=P) (w:=w) (ad:=some ⟨b,off,none⟩) (k:=.i64) (k':=k) hU hT none (some h) (len:=len) (cap:=cap) (by simp) (by simpa using hc)
  simp only[bnd,Option.getD_some,Option.getD_none,Nat.sub_zero]at this
  rw[Cm (l:=0) (off':=off) (by split<;>simp)]at this
  simp only[execOp,hx.eq hs,Option.map_some,Option.map_none,Mu hhi hj hs,Sem.run_bind,this,Result.andThen_ok,Sem.run_pure]
theorem TO{ad:Option Addr}{l cap:Nat}(hU:P.underlying t=some (.slice et))(h:Ev E st x (.c (.slice ad l cap))):QW P E st ⟨dd,.call ⟨.builtin .cap,#[x],#[t]⟩,ty,pos,af,gd⟩ (.c (.int .i64 (cap:Int))):=.pure fun A a w hs=>
  ⟨_,by simp[execOp,resolve,invoke,builtin,Builtin.cap_,Qq _ hU,h.eq hs,goInt],.c _⟩
/-! ### what is copied -/
def SrcN(P:Program)(w:World)(A:QS)(sz m l:Nat)(v:Value)(zs:List AV):Prop:=
  ∃ad cp cs,v=.slice ad l cp∧(Builtin.firstCells sz m v).run P w=.ok (List.toArray cs) w∧Cells w A cs.toArray 0 zs∧cs.length=zs.length∧zs.length=m*sz
theorem Xh{us:Array Value}{zs:List AV}{b off o2 mm:Nat}{tt:TypeId}{fz:Nat×Nat}(h:Cells w A us off zs)(hb:w.heap[b]? =some (.cells us tt fz))(hle:o2+mm≤zs.length):
    ∃cs:List Value,cs.length=mm∧(∀j u,cs[j]? =some u→w.cell? ((⟨b,off+o2,none⟩:Addr).add j)=some u)∧Cells w A cs.toArray 0 ((zs.drop o2).take mm):=by
  have hg:∀q,q<mm→∃u,us[off+(o2+q)]? =some u∧u.oneCell'=true∧∀y,zs[o2+q]? =some y→Rd w A u y:=fun q hq=>by
    obtain⟨u,h1,h0,h2⟩:=h (o2+q) _ (List.getElem?_eq_getElem (by omega))
    exact⟨u,h1,h0,fun y hy=>by rw[List.getElem?_eq_getElem (by omega)]at hy;cases hy;exact h2⟩
  have hu:∀q,q<mm→us[off+(o2+q)]? =some (us.getD (off+(o2+q)) undef):=fun q hq=>by
    obtain⟨u,h1,_⟩:=hg q hq
    simp[Array.getD_eq_getD_getElem?,h1]
  refine⟨(List.range mm).map fun q=>us.getD (off+(o2+q)) undef,by simp,fun q u hq=>?_,fun q y hq=>?_⟩
  · rw[List.getElem?_map]at hq
    by_cases hlt:q<mm
    · rw[List.getElem?_range hlt]at hq;cases hq
      rw[Wv,Xy hb,Nat.add_assoc];exact hu q hlt
    · rw[List.getElem?_eq_none (by simpa using hlt)]at hq;cases hq
  · rw[List.getElem?_take]at hq
    split at hq
    · rename_i hlt
      rw[List.getElem?_drop]at hq
      obtain⟨u,h1,h0,h2⟩:=hg q hlt
      have:us.getD (off+(o2+q)) undef=u:=by simp[Array.getD_eq_getD_getElem?,h1]
      exact⟨u,by simp[hlt,h1],h0,h2 y hq⟩
    · cases hq
theorem SrcN.box{sz mm l cp b2 o2 i2:Nat}{zs:List AV}{st:St}(h:Ev E st x (.c (sv b2 o2 l cp)))(ho:st.own[i2]? =some (.box b2 zs))(hm:mm≤l)(hle:o2+mm*sz≤zs.length):∀A a w,SatA E A st a w→SrcN P w A sz mm l (a.eval x) ((zs.drop o2).take (mm*sz)):=fun A a w hs=>by
  obtain⟨us,tt,h1,h2,h3⟩:=(hs.hp.own _ (List.mem_of_getElem? ho):(Own.box b2 zs).ok w A)
  obtain⟨cs,g1,g2,g3⟩:=Xh (off:=0) h3 h1 hle
  rw[Nat.zero_add]at g2
  refine⟨_,_,cs,h.eq hs,?_,g3,by rw[g1];simp;omega,by simp;omega⟩
  rw[h.eq hs]
  exact run_firstCells_some w sz mm ⟨b2,o2,none⟩ l cp cs g1 g2
theorem SrcN.sl{sz mm:Nat}{fr clip:Bool}{e:U7}{xs:List (List AV)}{st:St}(h:Ev E st x (.sl fr clip e xs))(hsz:e.sz=sz)(hm:mm≤xs.length):∀A a w,SatA E A st a w→SrcN P w A sz mm xs.length (a.eval x) (xs.flatten.take (mm*sz)):=fun A a w hs=>by
  obtain⟨ad,cap,hv,_,_,hc⟩:=(h A a w hs).of_sl
  rcases hc with rfl|⟨b,off,cs,t',fz,rfl,hAb,hb,hxl,_,hc⟩
  · obtain rfl:mm=0:=by simpa using hm
    refine⟨_,_,[],hv,?_,fun k y hk=>by simp at hk,by simp,by simp⟩
    rw[hv]
    cases ad with
    |none=>exact run_firstCells_none w sz 0 _ _
    |some a'=>exact run_firstCells_some w sz 0 a' _ _ [] (by simp) (by intro _ _ h';simp at h')
  · have hfl:=QE xs hxl
    subst hsz
    have hle:0+mm*e.sz≤xs.flatten.length:=by rw[hfl,Nat.zero_add];exact Nat.mul_le_mul_right _ hm
    obtain⟨vs,g1,g2,g3⟩:=Xh (o2:=0) hc hb hle
    rw[List.drop_zero]at g3
    refine⟨_,_,vs,hv,?_,g3,by rw[g1,List.length_take];omega,by rw[List.length_take];omega⟩
    rw[hv]
    exact run_firstCells_some w e.sz mm ⟨b,off,none⟩ _ _ vs g1 (by simpa using g2)
theorem SrcN.one{sz:Nat}{fr clip:Bool}{e:U7}{ys:List AV}{st:St}(h:Ev E st x (.sl fr clip e [ys]))(hsz:e.sz=sz)(hy:ys.length=sz):∀A a w,SatA E A st a w→SrcN P w A sz 1 1 (a.eval x) ys:=fun A a w hs=>by
  have:=SrcN.sl (P:=P) (mm:=1) h hsz (Nat.le_refl 1) A a w hs
  have h2:([ys]:List (List AV)).flatten.take (1*sz)=ys:=by
    rw[Nat.one_mul,show([ys]:List (List AV)).flatten=ys by simp]
    exact List.take_of_length_le (Nat.le_of_eq hy)
  rwa [h2]at this
theorem KY{sz mm l cp b2 o2 i2 q:Nat}{zs:List AV}{st:St}(h:Ev E st x (.c (sv b2 o2 l cp)))(ho:st.own[i2]? =some (.box b2 zs))(hq:mm*sz=q)(hm:mm≤l)(hle:o2+q≤zs.length):∀A a w,SatA E A st a w→SrcN P w A sz mm l (a.eval x) ((zs.drop o2).take q):=by
  subst hq
  exact SrcN.box h ho hm hle
theorem SatA.lays{i b off:Nat}{ys zs:List AV}{cs:List Value}(hA:SatA E A ⟨n,env,own,F,D⟩ a w)(ho:own[i]? =some (.box b ys))(hc:Cells w A cs.toArray 0 zs)(hl:cs.length=zs.length)(hle:off+zs.length≤ys.length):
    ∃w1,(storeCells ⟨b,off,none⟩ cs 0).run P w=.ok () w1∧SatA E A ⟨n,env,own.set i (.box b (Q1 ys off zs)),F,D⟩ a w1:=by
  have hmem:=List.mem_of_getElem? ho
  obtain⟨us,tt,h1,h2,h3⟩:=(hA.hp.own _ hmem:(Own.box b ys).ok w A)
  obtain⟨w1,us1,hr1,hk1,hz1,hb1,hs1,hu1⟩:=WB (P:=P) (off:=off) cs 0 us w h1 (by omega) (List.all_eq_true.2 (hc.ones hl))
  refine⟨w1,hr1,?_⟩
  have hfp:∀fr q,A fr q→q<w.heap.size→w1.heap[q]? =w.heap[q]? :=fun fr q hq hlt=>hk1.block q hlt fun hm'=>by
    simp only[List.mem_singleton]at hm'
    subst hm'
    exact(hA.hp.fp q (Ur hmem (by simp[Own.fp]))).2.2 fr hq
  refine hA.step (hk1.mono fun q hq=>Ur hmem (by simpa[Own.fp]using hq)) (fun _ _ h=>h) (hA.hp.upd (o':=.box b (Q1 ys off zs)) ho (by simp[Own.fp]) (by simpa[Own.fp]using hk1) hz1 ⟨us1,tt,hb1,by rw[hs1,h2,QG hle],?_⟩)
  exact(h3.spliced hc hl hle (by simpa using hu1)).keep hfp
theorem YL(i:Nat){b o1 l1 c1 l2 mm sz:Nat}{ys zs:List AV}(hU:P.underlying t=some (.slice et))(hT:Un P et=some (g,sz,B))(hs:Ev E ⟨n,env,own,F,D⟩ s (.c (sv b o1 l1 c1)))(ho:own[i]? =some (.box b ys))
    (hx:∀A a w,SatA E A ⟨n,env,own,F,D⟩ a w→SrcN P w A sz mm l2 (a.eval x) zs) (hm:Nat.min l2 l1=mm) (hle:o1+zs.length≤ys.length) (hd:Nat.blt d n=true)
    (h:JL P E ops rest ⟨n,(d,.c (.int .i64 (mm:Int)))::env,own.set i (.box b (Q1 ys o1 zs)),F,D⟩ Q):
    JL P E ops (⟨some d,.call ⟨.builtin .copy,#[s,x],#[t,tx]⟩,ty,pos,af,none⟩::rest) ⟨n,env,own,F,D⟩ Q:=fun a w ⟨A,hA⟩=>by
  refine wpListIn_plain rfl fun K hK=>?_
  refine Hd (by intro c h;cases h) ?_
  unfold Oper.wp
  obtain⟨ad,cp,cs,hv,hf,hc,hl,_⟩:=hx A a w hA
  obtain⟨w1,hr1,hS⟩:=hA.lays (P:=P) ho hc hl hle
  have hr:(Builtin.copy_ #[t,tx] ty #[sv b o1 l1 c1,a.eval x]).run P w=.ok (.int .i64 (mm:Int)) w1:=by
    rw[hv]at hf⊢
    simp[Builtin.copy_,Qq _ hU,Builtin.lenOf,hm,Us hT,hf,hr1,goInt]
  have he:(execOp a.eval ⟨some d,.call ⟨.builtin .copy,#[s,x],#[t,tx]⟩,ty,pos,af,none⟩).run P w=.ok (.value (.int .i64 (mm:Int))) w1:=by
    simp[execOp,resolve,invoke,builtin,hs.eq hA,hr,Result.andThen]
  rw[he,Oper.upon_value]
  exact hK _ _ (h _ _ ⟨A,hS.put (Ui hd) (.c _)⟩)
theorem Ms(i:Nat){b o1 l1 c1 q:Nat}{e:U7}{ys:List AV}{kn kq:IntKind}(hU:P.underlying t=some (.slice et))(hN:P.underlying tx=some (.int kn))(hE:WU P et e=true)(h0:Nat.blt 0 e.sz=true)(hs:Ev E ⟨n,env,own,F,D⟩ s (.c (sv b o1 l1 c1)))(ho:own[i]? =some (.box b ys))
    (hx:Ev E ⟨n,env,own,F,D⟩ x (.c (.int kq (q:Int)))) (hq:0<q) (hg:c1<l1+q) (hle:o1+l1*e.sz≤ys.length) (hreach:(l1+q)*e.bytes≤Qr) (hr63:l1+q≤Qr) (hd:Nat.blt d n=true)
    (h:∀b' cap tl,l1+q≤cap+1→((ys.drop o1).take (l1*e.sz)).length=l1*e.sz→l1*e.sz+List.length tl=(cap+1)*e.sz→JL P E ops rest ⟨n,(d,.c (sv b' 0 (l1+q) (cap+1)))::env,.box b' ((ys.drop o1).take (l1*e.sz)++tl)::own,F,D⟩ Q):
    JL P E ops (⟨some d,.call ⟨.builtin .append,#[s,x],#[t,tx]⟩,ty,pos,af,none⟩::rest) ⟨n,env,own,F,D⟩ Q:=fun a w ⟨A,hA⟩=>by
  refine wpListIn_plain rfl fun K hK=>?_
  refine Hd (by intro c h;cases h) ?_
  unfold Oper.wp
  obtain⟨ti,tz,hi,hsz,hby,hz,hzs,hz1⟩:=Y5 hE
  have hA':=hA.draw
  obtain⟨us,tt,g1,g2,g3⟩:=(hA'.hp.own _ (List.mem_of_getElem? ho):(Own.box b ys).ok _ A)
  obtain⟨cs,k1,k2,k3⟩:=Xh (off:=0) g3 g1 hle
  rw[Nat.zero_add]at k2
  have hold:(Builtin.firstCells ti.size l1 (sv b o1 l1 c1)).run P w.drew=.ok cs.toArray w.drew:=run_firstCells_some w.drew ti.size l1 ⟨b,o1,none⟩ l1 c1 cs (by rw[hsz];exact k1) k2
  have hp:=Ui h0
  unfold Qr at hr63 hreach
  have hqb:q*ti.bytes≤(l1+q)*e.bytes:=by rw[hby];exact Nat.mul_le_mul_right _ (by omega)
  have hr:=Go.Lib.run_append_grow_zeros (P:=P) w t tx ty et ti tz kq kn hU hN hi hz (some ⟨b,o1,none⟩) l1 c1 cs hold q hq (by omega) hg (by omega) (by omega) (growslice_fits hg (by rw[hby];omega))
  have hge:=grownCap_ge w (l1+q) c1 et
  rw[Um (hs.eq hA) rfl (by rw[hx.eq hA];exact hr),Oper.upon_value,G4]
  obtain⟨cap,hcap⟩:∃cap,grownCap w (l1+q) c1 et=cap+1:=⟨grownCap w (l1+q) c1 et-1,by omega⟩
  generalize hrow:(cs.toArray++Builtin.zeroCells tz.cells q++Builtin.zeroCells tz.cells (grownCap w (l1+q) c1 et-(l1+q)):Array Value)=row at*
  have hz0:∀u∈Builtin.zeroCells tz.cells q++Builtin.zeroCells tz.cells (grownCap w (l1+q) c1 et-(l1+q)),u.oneCell'=true:=fun u hu=>by
    rcases Array.mem_append.1 hu with hu|hu<;>exact K1 hz1 u hu
  let tl:List AV:=(Builtin.zeroCells tz.cells q++Builtin.zeroCells tz.cells (grownCap w (l1+q) c1 et-(l1+q))).toList.map AV.c
  have hhl:((ys.drop o1).take (l1*e.sz)).length=l1*e.sz:=by rw[List.length_take,List.length_drop];omega
  have htl:tl.length=(q+(cap+1-(l1+q)))*e.sz:=by simp[tl,size_zeroCells,hzs,hcap,Nat.add_mul]
  have hrl:row=cs.toArray++(Builtin.zeroCells tz.cells q++Builtin.zeroCells tz.cells (grownCap w (l1+q) c1 et-(l1+q))):=by rw[← hrow,Array.append_assoc]
  have hrc:Cells (Q9 w) A row 0 ((ys.drop o1).take (l1*e.sz)++tl):=fun r y hk=>by
    rw[Nat.zero_add]
    by_cases hlt:r<((ys.drop o1).take (l1*e.sz)).length
    · rw[List.getElem?_append_left hlt]at hk
      obtain⟨u,m1,m2,m3⟩:=k3 r y hk
      rw[Nat.zero_add]at m1
      refine⟨u,?_,m2,m3⟩
      rw[hrl,Array.getElem?_append_left (by simp;omega)]
      exact m1
    · rw[List.getElem?_append_right (by omega)]at hk
      simp only[tl,List.getElem?_map,Option.map_eq_some_iff]at hk
      obtain⟨u,m1,rfl⟩:=hk
      rw[hhl]at m1
      refine⟨u,?_,hz0 u (by simpa using List.mem_of_getElem? m1),.c u⟩
      rw[hrl,Array.getElem?_append_right (by simp;omega)]
      simp only[List.size_toArray,k1]
      rw[← Array.getElem?_toList]
      exact m1
  have hrs:row.size=((ys.drop o1).take (l1*e.sz)++tl).length:=by
    rw[hrl,List.length_append,hhl,Array.size_append]
    simp[tl,k1]
  have hN2:=h w.heap.size cap tl (by omega) hhl (by rw[htl,← Nat.add_mul];congr 1;omega)
  rw[hcap]
  refine hK _ _ (hN2 _ _ ⟨A,SatA.put ?_ (Ui hd) (.c _)⟩)
  exact hA'.step (.push _ _ _) (fun _ _ h=>h) (hA'.hp.push_box (us:=row) (t:=et) hA'.keep.size hrs hrc)
theorem CQ{tS tR:TypeId}{va b off l cb lA cA oA:Nat}{csA us:Array Value}{tA tB:TypeId}{fz:Nat×Nat}(hU:P.underlying tS=some (.slice et))(hT:Un P et=some (g,m,B))(ha:w.heap[va]? =some (.cells csA tA fz))(hb:w.heap[b]? =some (.cells us tB (0,0)))(hne:va≠b)(hkA:csA.size≠0)(hkB:us.size≠0):
    (Extern.SlicesOverlaps.overlaps #[tS,tS] #[tR] #[sv va oA lA cA,sv b off l cb]).run P w=.ok (.bool false) w:=by
  have hsa:w.shape? va=some (tA,csA.size):=by simp[World.shape?,ha]
  have hsb:w.shape? b=some (tB,us.size):=by simp[World.shape?,hb]
  have hfb:∀q,w.frozen? ⟨b,q,none⟩=false:=fun q=>by simp[World.frozen?,hb]
  have hnb:(va !=b)=true:=by simpa using hne
  have hnb':(va==b)=false:=by simpa using hne
  obtain⟨nA,hnA⟩:∃nA,csA.size=nA+1:=⟨csA.size-1,by omega⟩
  rw[hnA]at hsa
  obtain⟨nB,hnB⟩:∃nB,us.size=nB+1:=⟨us.size-1,by omega⟩
  rw[hnB]at hsb
  change Sem.run P (α:=Value) (do
    let some t:=(#[tS,tS]:Array TypeId)[0]? |stuck "slices.overlaps: no parameter types"
    let .slice elem ← underlying t|stuck "slices.overlaps: slice type expected"
    let size ← sizeOf elem
    match (some ⟨va,oA,none⟩:Option Addr),(some ⟨b,off,none⟩:Option Addr)with
    |some a,some b=>
      if lA=0∨l=0∨size=0 then pure (Value.bool false)
      else if a.block !=b.block&&(← frozen a)&&(← frozen b)then unsupported .addressObserved
      else do
        if a.block !=b.block then do
          noView a;noView b
          if ← mayBeOne a b then return Value.bool ((← choose (.extern "sameAddr.stringBytes" 2))==1)
        pure (Value.bool (a.block==b.block&&a.off<b.off+l*size&&b.off<a.off+lA*size))
    |_,_=>pure (Value.bool false)) w=_
  by_cases h0:lA=0∨l=0∨m=0
  · simp[Qq _ hU,Us hT,h0]
  · cases hf1:w.frozen? ⟨va,oA,none⟩<;>cases hf2:w.frozen? ⟨va,nA+1,none⟩<;>
      simp[Qq _ hU,Us hT,h0,hnb,hnb',frozen,noView,viewAt,mayBeOne,stringish,shape,Sem.run,hsa,hsb,hf1,hf2,hfb]
theorem TP(i:Nat){f:FuncId}{tS tR:TypeId}{tys:Array TypeId}{b off l cb:Nat}{ys:List AV}{fr clip:Bool}{e:U7}{xs:List (List AV)}(hU:P.underlying tS=some (.slice et))(hT:Un P et=some (g,m,B))
    (hf:∀u v w,(callFunc f #[u,v]).run P w=((Extern.SlicesOverlaps.overlaps #[tS,tS] #[tR] #[u,v]).run P w).andThen fun v w'=>.ok (.value v) w')
    (hx:Ev E ⟨n,env,own,F,D⟩ x (.sl fr clip e xs)) (hy:Ev E ⟨n,env,own,F,D⟩ y (.c (sv b off l cb))) (ho:own[i]? =some (.box b ys)) (hn:xs.flatten≠[]) (hn2:ys≠[]):
    QW P E ⟨n,env,own,F,D⟩ ⟨dd,.call ⟨.value (.func f),#[x,y],tys⟩,ty,pos,af,gd⟩ (.c (.bool false)):=.pure fun A a w hs=>by
  refine⟨.bool false,?_,.c _⟩
  obtain⟨ad,cap,hv,_,_,hc⟩:=(hx A a w hs).of_sl
  obtain⟨us,tt,h1,h2,h3⟩:=(hs.hp.own _ (List.mem_of_getElem? ho):(Own.box b ys).ok w A)
  rcases hc with rfl|⟨va,oA,csA,tA,fz,rfl,hAb,hb,hxl,_,hc⟩
  · exact absurd rfl hn
  have hne:va≠b:=fun he=>by
    subst he
    exact(hs.hp.fp va (Ur (List.mem_of_getElem? ho) (by simp[Own.fp]))).2.2 fr hAb
  have hkA:csA.size≠0:=fun h0=>by
    obtain⟨y0,hy0⟩:∃y0,xs.flatten[0]? =some y0:=by
      cases hxf:xs.flatten with
      |nil=>exact absurd hxf hn
      |cons a0 r=>exact⟨a0,rfl⟩
    obtain⟨u,m1,_⟩:=hc 0 y0 hy0
    have:=(Array.getElem?_eq_some_iff.1 m1).1
    omega
  have hkB:us.size≠0:=by rw[h2];exact fun h0=>hn2 (List.length_eq_zero_iff.1 h0)
  have hr:=CQ (P:=P) (tR:=tR) (oA:=oA) (lA:=xs.length) (cA:=cap) (off:=off) (l:=l) (cb:=cb) hU hT hb h1 hne hkA hkB
  have:=hf (sv va oA xs.length cap) (sv b off l cb) w
  rw[hr]at this
  simp only[execOp,resolve,Act.eval,Deferred.ofValue,Sem.run_bind,Sem.run_pure,Result.andThen_ok,invoke]
  simpa[hv,hy.eq hs,Result.andThen]using this
theorem Ny(i:Nat){v:Value}{e:U7}{xs:List (List AV)}{l:Nat}{j:Int}(hU:P.underlying t=some (.slice et))(hT:Un P et=some (g,m,B))(hx:Ev E ⟨n,env,own,F,D⟩ x (.c v))(ho:own[i]? =some (.arr v e xs))(hlo:Ev E ⟨n,env,own,F,D⟩ lo (.c (.int k j)))(hj:j=(l:Int))(hl:l≤xs.length)(hd:Nat.blt d n=true)
    (h:∀u,JL P E ops rest ⟨n,(d,.c u)::env,own,F,D⟩ Q):JL P E ops (⟨some d,.slice t x (some lo) none none,ty,pos,af,none⟩::rest) ⟨n,env,own,F,D⟩ Q:=fun a w ⟨A,hA⟩=>by
  refine wpListIn_plain rfl fun K hK=>?_
  refine Hd (by intro c h;cases h) ?_
  unfold Oper.wp
  have hv:∃ad cap,v=.slice ad xs.length cap∧xs.length≤cap:=by
    rcases hA.arr i ho with ⟨a0,hv,hx0⟩|⟨b,cap,us,t',hv,_,hle,_⟩
    · subst hx0;exact⟨a0,0,hv,Nat.le_refl _⟩
    · exact⟨_,_,hv,hle⟩
  obtain⟨ad,cap,rfl,hle⟩:=hv
  have:=XJ (P:=P) (w:=w) (ad:=ad) (k:=k) (k':=.i64) hU hT (some l) none (len:=xs.length) (cap:=cap) (by simpa using hl) (by simpa using hle)
  simp only[bnd,Option.getD_some,Option.getD_none]at this
  have he:(execOp a.eval ⟨some d,.slice t x (some lo) none none,ty,pos,af,none⟩).run P w=.ok (.value (.slice (if cap=l then ad else ad.map (·.add (l*m))) (xs.length-l) (cap-l))) w:=by
    simp only[execOp,hx.eq hA,Option.map_some,Option.map_none,Mu hlo hj hA,Sem.run_bind,this,Result.andThen_ok,Sem.run_pure]
  rw[he,Oper.upon_value]
  exact hK _ _ (h _ _ _ ⟨A,hA.put (Ui hd) (.c _)⟩)
end
/-! ### plain: an element laid in, or taken out -/
theorem HM{α:Type}{base X ys:List α}{a m:Nat}(h:a≤X.length)(hm:ys.length=m)(L:List α)(hL:X.length+m≤L.length)
    (hg:∀k,k<X.length+m→L[k]? =if k<a then X[k]? else if k<a+m then ys[k-a]? else X[k-m]?):L.take (X.length+m)=X.take a++ys++X.drop a:=by
  apply List.ext_getElem?
  intro k
  rw[List.getElem?_take]
  by_cases hk:k<X.length+m
  · rw[if_pos hk,hg k hk]
    by_cases h1:k<a
    · rw[if_pos h1,List.append_assoc,List.getElem?_append_left (by simp;omega),List.getElem?_take,if_pos h1]
    · rw[if_neg h1]
      by_cases h2:k<a+m
      · rw[if_pos h2,List.getElem?_append_left (by simp;omega),List.getElem?_append_right (by simp;omega),List.length_take,Nat.min_eq_left h]
      · rw[if_neg h2,List.getElem?_append_right (by simp;omega),List.getElem?_drop]
        congr 1
        simp
        omega
  · rw[if_neg hk,List.getElem?_eq_none]
    simp;omega
theorem M8{α:Type}{X sp ys:List α}{a m:Nat}(h:a≤X.length)(hm:ys.length=m)(hl:X.length+m≤(X++sp).length):
    (Q1 (Q1 (X++sp) (a+m) (((X++sp).drop a).take (X.length-a))) a ys).take (X.length+m)=X.take a++ys++X.drop a:=by
  have hl1:(((X++sp).drop a).take (X.length-a)).length=X.length-a:=by simp;omega
  have hf1:a+m+(((X++sp).drop a).take (X.length-a)).length≤(X++sp).length:=by rw[hl1];omega
  have hf2:a+ys.length≤(Q1 (X++sp) (a+m) (((X++sp).drop a).take (X.length-a))).length:=by rw[QG hf1];omega
  refine HM (base:=X) h hm _ (by rw[QG hf2,QG hf1];omega) fun k hk=>?_
  rw[Y7 hf2,Y7 hf1,hl1,hm]
  by_cases h1:k<a
  · rw[if_neg (by omega),if_neg (by omega),if_pos h1,List.getElem?_append_left (by omega)]
  · rw[if_neg h1]
    by_cases h2:k<a+m
    · rw[if_pos ⟨by omega,h2⟩,if_pos h2]
    · rw[if_neg (by omega),if_neg h2,if_pos ⟨by omega,by omega⟩,List.getElem?_take,if_pos (by omega),List.getElem?_drop,List.getElem?_append_left (by omega)]
      congr 1;omega
theorem Tb{α:Type}{X sp tl ys:List α}{a m:Nat}(h:a≤X.length)(hm:ys.length=m)(hl:X.length+m≤a+tl.length):
    (Q1 (Q1 (((X++sp).drop 0).take a++tl) a ys) (a+m) (((X++sp).drop a).take (X.length-a))).take (X.length+m)=X.take a++ys++X.drop a:=by
  have hh:(((X++sp).drop 0).take a).length=a:=by simp;omega
  have hl1:(((X++sp).drop a).take (X.length-a)).length=X.length-a:=by simp;omega
  have hbl:(((X++sp).drop 0).take a++tl).length=a+tl.length:=by rw[List.length_append,hh]
  have hf1:a+ys.length≤(((X++sp).drop 0).take a++tl).length:=by rw[hbl];omega
  have hf2:a+m+(((X++sp).drop a).take (X.length-a)).length≤(Q1 (((X++sp).drop 0).take a++tl) a ys).length:=by rw[QG hf1,hl1,hbl];omega
  refine HM (base:=X) h hm _ (by rw[QG hf2,QG hf1,hbl];omega) fun k hk=>?_
  rw[Y7 hf2,Y7 hf1,hl1,hm]
  by_cases h1:k<a
  · rw[if_neg (by omega),if_neg (by omega),if_pos h1,List.getElem?_append_left (by omega),List.getElem?_take,if_pos h1,List.drop_zero,List.getElem?_append_left (by omega)]
  · rw[if_neg h1]
    by_cases h2:k<a+m
    · rw[if_neg (by omega),if_pos ⟨by omega,h2⟩,if_pos h2]
    · rw[if_neg h2,if_pos ⟨by omega,by omega⟩,List.getElem?_take,if_pos (by omega),List.getElem?_drop,List.getElem?_append_left (by omega)]
      congr 1;omega
theorem KB{α:Type}{sz:Nat}{xs:List (List α)}{ys:List α}{i:Nat}(hs:∀x∈xs,x.length=sz):(xs.take i++[ys]++xs.drop i).flatten=xs.flatten.take (i*sz)++ys++xs.flatten.drop (i*sz):=by
  rw[List.flatten_append,List.flatten_append,Kb xs hs,Kc xs hs]
  simp
theorem GQ{α:Type}{sz:Nat}{xs:List (List α)}{ys:List α}{i:Nat}(hs:∀x∈xs,x.length=sz)(hy:ys.length=sz):(xs.take i++[ys]++xs.drop i).flatten.length=xs.flatten.length+sz:=by
  rw[KB hs,List.length_append,List.length_append,List.length_take,List.length_drop,hy]
  omega
theorem Xt{α:Type}{xs:List (List α)}{ys:List α}{i:Nat}(hi:i≤xs.length):(xs.take i++[ys]++xs.drop i).length=xs.length+1:=by simp;omega
theorem NT{α:Type}{sz:Nat}{xs:List (List α)}{ys:List α}{i:Nat}(hs:∀x∈xs,x.length=sz)(hy:ys.length=sz):∀x∈xs.take i++[ys]++xs.drop i,x.length=sz:=by
  intro x hx
  simp only[List.mem_append,List.mem_singleton]at hx
  rcases hx with (hx|rfl)|hx
  · exact hs x (List.mem_of_mem_take hx)
  · exact hy
  · exact hs x (List.mem_of_mem_drop hx)

end
section
/- Fields of structs that are values, elements of arrays that are values. -/
section
variable {P:Program} {E:Wy} {st:St} {t t' et ty:TypeId} {pos:String} {af:Array Edge} {dd:Option Tmp} {gd:Option (Nat×Bool)} {x y:Operand} {w:World} {n B:Nat}
theorem CO{cs:Array Value}{off:Nat}{v:Value}(hT:Un P t'=some (false,n,B))(hx:cs[off]? =some v):(part t' cs off).run P w=.ok v w:=by
  simp only[part,Sem.run_bind,Y2 hT,Result.andThen_ok,Bool.false_eq_true,if_false,hx,Sem.run_pure]
theorem CN{cs:Array Value}{off:Nat}(hT:Un P t'=some (true,n,B)):(part t' cs off).run P w=.ok (.agg (cs.extract off (off+n))) w:=by
  simp only[part,Sem.run_bind,Y2 hT,Result.andThen_ok,if_true,Us hT,Sem.run_pure]
theorem Rd.part{A:QS}{vs:Array Value}{ys:List AV}{off:Nat}(hn:vs.size=ys.length)(h:Cells w A vs 0 ys)(hle:off+n≤ys.length):Rd w A (.agg (vs.extract off (off+n))) (.agg ((ys.drop off).take n)):=by
  refine .mk_agg (by simp;omega) fun k y hk=>?_
  rw[List.getElem?_take]at hk
  split at hk
  · rename_i hlt
    rw[List.getElem?_drop]at hk
    obtain⟨u,h1,h0,h2⟩:=h _ y hk
    rw[Nat.zero_add]at h1⊢
    exact⟨u,by rw[Array.getElem?_extract,if_pos (by omega)];exact h1,h0,h2⟩
  · cases hk
theorem FK{ys zs:List AV}{ln m:Nat}{k:IntKind}{i:Int}(hU:P.underlying t=some (.array ln et))(hT:Un P et=some (true,n,B))(h:Ev E st x (.agg ys))(hi:Ev E st y (.c (.int k i)))(him:i=(m:Int))(hm:m<ln)(hz:(ys.drop (m*n)).take n=zs)(hl:zs.length=n)(h0:Nat.blt 0 n=true:=by rfl):
    QW P E st ⟨dd,.index t x y,ty,pos,af,gd⟩ (.agg zs):=.pure fun A a w hs=>by
  obtain⟨vs,hv,hn,hc⟩:=(h A a w hs).of_agg
  subst him hz
  have hlt:(m:Int)<(ln:Int):=by omega
  have hp:=Ui h0
  refine⟨_,by simp[execOp,Instr.index,asIntOf,asInt,hi.eq hs,Qq _ hU,hv,Us hT,CN hT,hm],Rd.part hn hc ?_⟩
  rw[List.length_take,List.length_drop]at hl;omega
end
/-! ### appends onto a slice that is read alone and has no spare places, or onto an own array -/
section
variable {P:Program} {E:Wy} {Q:Exit→St→Prop} {n:Nat} {env:List (Nat×AV)} {own:List Own} {F:List (Value×AV)} {D:List Deferred} {ops:Array Oper} {rest:List Oper} {c:Code}
variable {A:QS} {a:Act} {w w':World} {t tx et ty:TypeId} {pos:String} {af:Array Edge} {d:Nat} {dd:Option Tmp} {gd:Option (Nat×Bool)} {s x:Operand}
theorem D6(i:Nat){fr:Bool}{e:U7}{xs ys:List (List AV)}(hU:P.underlying t=some (.slice et))(hE:WU P et e=true)(hb0:Nat.blt 0 e.bytes=true)(hsv:Ev E ⟨n,env,own,F,D⟩ s (.sl fr true e xs))
    (ho:own[i]? =some (.grp [])) (hx:∀A a w,SatA E A ⟨n,env,own,F,D⟩ a w→SrcA P w A tx (a.eval x) e ys) (hne:0<ys.length) (hreach:(xs.length+ys.length)*e.bytes≤Qr) (hd:Nat.blt d n=true)
    (h:∀v',JL P E ops rest ⟨n,(d,.c v')::env,own.set i (.arr v' e (xs++ys)),F,D⟩ Q):
    JL P E ops (⟨some d,.call ⟨.builtin .append,#[s,x],#[t,tx]⟩,ty,pos,af,none⟩::rest) ⟨n,env,own,F,D⟩ Q:=fun a w ⟨A,hA⟩=>by
  refine wpListIn_plain rfl fun K hK=>?_
  refine Hd (by intro c h;cases h) ?_
  unfold Oper.wp
  obtain⟨ti,tz,hi,hsz,hby,hz,hzs,hz1⟩:=Y5 hE
  obtain⟨news,hsrc,hnc,hyl⟩:=hx A a w hA
  rw[← hsz]at hsrc
  have hb1:1≤e.bytes:=Ui hb0
  have hneed:xs.length+ys.length≤Qr:=Nat.le_trans (Nat.le_mul_of_pos_right _ hb1) hreach
  unfold Qr at hneed hreach
  have hnl:news.length=ys.flatten.length:=by rw[hsrc.newsLen,hsz,QE ys hyl]
  have h63:((xs.length+ys.length:Nat):Int)≤9223372036854775807:=by omega
  have hfit:∀sCap,sCap<xs.length+ys.length→Builtin.nextslicecap (xs.length+ys.length) sCap*ti.bytes≤281474976710656:=fun sCap hlt=>growslice_fits hlt (by rw[hby];omega)
  have hgw:∀fr b,A fr b→b<w.heap.size→∀o,(QH (Q9 w) o).heap[b]? =w.heap[b]? :=fun fr b _ hlt o=>(Keep.push [] (Q9 w) o).block b hlt (by simp)
  obtain⟨ad,cap,hv,hcl,_,hc⟩:=(hsv A a w hA).of_sl
  have hcap:=hcl rfl
  subst hcap
  have hold:∃olds:List Value,(Builtin.firstCells ti.size xs.length (.slice ad xs.length xs.length)).run P w.drew=.ok olds.toArray w.drew∧olds.length=xs.flatten.length∧(∀x∈xs,x.length=e.sz)∧Cells w A olds.toArray 0 xs.flatten:=by
    rcases hc with rfl|⟨b,off,cs,t',fz,rfl,hAb,hb,hxl,_,hc⟩
    · refine⟨[],?_,by simp,(fun _ h=>by cases h),fun k y hk=>by simp at hk⟩
      cases ad with
      |none=>exact run_firstCells_none w.drew ti.size 0 0 0
      |some a'=>exact run_firstCells_some w.drew ti.size 0 a' 0 0 [] (by simp) (by intro _ _ h';simp at h')
    · have hfl:=QE xs hxl
      have hb':w.drew.heap[b]? =some (.cells cs t' fz):=hb
      obtain⟨vs,g1,g2,g3⟩:=Xh (w:=w) (o2:=0) (mm:=xs.flatten.length) hc hb (by omega)
      obtain⟨vs',g1',g2',_⟩:=Xh (w:=w.drew) (A:=A) (o2:=0) (mm:=xs.flatten.length) (hc.move (fun _ _ h _=>h) fun _ _ _ _=>rfl) hb' (by omega)
      rw[List.drop_zero,List.take_length]at g3
      refine⟨vs,run_firstCells_some w.drew ti.size xs.length ⟨b,off,none⟩ xs.length xs.length vs (by rw[g1,hfl,hsz]) (fun j u hj=>by
        have:=g2 j u (by simpa using hj)
        rw[Nat.add_zero]at this
        exact this),g1,hxl,g3⟩
  obtain⟨olds,hold,hol,hxl,hoc⟩:=hold
  have hlt:xs.length<xs.length+ys.length:=by omega
  have hr:=run_append_grow_src (P:=P) w t tx ty et ti tz hU hi hz ad xs.length xs.length olds hold (a.eval x) ys.length news hsrc hlt h63 (hfit _ hlt)
  have hge:=grownCap_ge w (xs.length+ys.length) xs.length et
  rw[Um hv rfl hr,Oper.upon_value,G4]
  refine hK _ _ (h _ _ _ ⟨A,SatA.put ?_ (Ui hd) (.c _)⟩)
  have hd':=hA.draw
  obtain⟨cap,hcap⟩:∃cap,grownCap w (xs.length+ys.length) xs.length et=cap+1:=⟨grownCap w (xs.length+ys.length) xs.length et-1,by omega⟩
  have hxy:(xs++ys).length=xs.length+ys.length:=by simp
  refine hd'.step (.push _ _ _) (fun _ _ h=>h) (hd'.hp.moved hd'.keep.size ho (o':=.arr _ e (xs++ys)) ?_ (.inr ⟨w.heap.size,cap,_,et,by rw[hxy,hcap],Ya _ _,by omega,?_,?_,?_⟩))
  · rw[hcap];rfl
  · refine KJ ?_ (hoc.ones hol) hsrc.one hz1
    have hol':=QE xs hxl
    have hyl':=QE ys hyl
    simp only[Array.size_append,List.size_toArray,List.length_append,size_zeroCells,hzs,hol,hnl,hol',hyl',hcap]
    rw[← Nat.add_mul,← Nat.add_mul]
    congr 1;omega
  · intro z hz'
    rcases List.mem_append.1 hz' with hz'|hz'
    · exact hxl z hz'
    · exact hyl z hz'
  · rw[List.flatten_append]
    intro k y hk
    rw[Nat.zero_add]
    by_cases hk1:k<xs.flatten.length
    · rw[List.getElem?_append_left hk1]at hk
      obtain⟨u,h1,h0,h2⟩:=hoc k y hk
      refine⟨u,?_,h0,h2.move (fun _ _ h _=>h) fun fr b hb hlt=>hgw fr b hb hlt _⟩
      rw[Nat.zero_add]at h1
      rw[Array.getElem?_append_left (by simp;omega)]
      simp only[List.getElem?_toArray]at h1⊢
      rw[List.getElem?_append_left (by omega)];exact h1
    · rw[List.getElem?_append_right (by omega)]at hk
      have hk2:=(List.getElem?_eq_some_iff.1 hk).1
      obtain⟨u,h1,h0,h2⟩:=hnc _ y hk
      refine⟨u,?_,h0,h2.move (fun _ _ h _=>h) fun fr b hb hlt=>hgw fr b hb hlt _⟩
      rw[Nat.zero_add]at h1
      rw[Array.getElem?_append_left (by simp;omega)]
      simp only[List.getElem?_toArray]at h1⊢
      rw[List.getElem?_append_right (by omega),hol];exact h1
end
section
variable {P:Program} {E:Wy} {st:St} {ty:TypeId} {pos:String} {af:Array Edge} {dd:Option Tmp} {gd:Option (Nat×Bool)} {x y z:Operand}
end

end
section
/- Where two ways meet: what holds of both is told, and the rest is walked once. -/
section
variable {P:Program} {E:Wy} {Q:Exit→St→Prop} {n:Nat} {env:List (Nat×AV)} {own:List Own} {F:List (Value×AV)} {D:List Deferred}
theorem Ru{ι:Type}{x y:Code}(ks:List Nat)(ch:ι→List (Nat×AV))(ow:ι→List Own→List Own)(p:ι→Prop)
    (h:J P E x ⟨n,env,own,F,D⟩ (thenQ (fun s=>∃j,p j∧Wk s ⟨n,ch j++Xo ks env,ow j own,F,D⟩) Q))
    (k:∀i,p i→J P E y ⟨n,ch i++Xo ks env,ow i own,F,D⟩ Q):J P E (.seq x y) ⟨n,env,own,F,D⟩ Q:=
  J.seq (h.mono fun e s hq=>by
    cases e<;>first|exact hq|skip
    obtain⟨j,hj,hw⟩:=hq
    exact J.weak hw (k j hj))
end
section
variable {P:Program} {E:Wy} {st:St} {t ty:TypeId} {pos:String} {af:Array Edge} {dd:Option Tmp} {gd:Option (Nat×Bool)}
theorem Nv{sz:Nat}{zc:List Value}{idx:List Nat}{l:List Operand}{zs ys:List AV}{parts:Array (Nat×Operand)}(hP:arrOf P t=some sz)(hz:QO P t=some zc)(hz1:zc.all (·.oneCell')=true)
    (hl:EvL E st l zs) (hparts:parts=(idx.zip l).toArray) (hp:zs.all AV.plain=true) (hi:idx.length=l.length) (hf:Xg (fun i=>some (i*sz,sz)) (zc.map AV.c) (idx.zip (zs.map AV.cellsOf))=some ys):
    QW P E st ⟨dd,.build t parts,ty,pos,af,gd⟩ (.agg ys):=.pure fun A a w hs=>by
  obtain⟨ti,zv,h1,h2,h3⟩:=Ly hz
  obtain⟨cs',r1,r2,r3⟩:=GH (fun i=>some (i*sz,sz)) (PartsR.of hs hl hp hi) (cs:=zv.cells) (ys:=zc.map AV.c) (by rw[← Array.length_toList,h3,List.length_map]) (by
    have:=Cells.const (w:=w) (A:=A) hz1
    rw[← h3]at this⊢
    rwa [Array.toArray_toList]at this) hf
  refine⟨.agg cs',?_,.mk_agg r2 r3⟩
  have hb:P.built t ((parts.map fun(i,x)=>(i,a.eval x)).toList)=some cs':=by
    unfold Program.built
    unfold arrOf at hP
    cases hu:P.underlying t with
    |none=>simp[hu]at hP
    |some td=>
      cases td<;>try (simp[hu]at hP;done)
      simp only[hu]at hP
      rw[Option.map_eq_some_iff]at hP
      obtain⟨i2,g1,rfl⟩:=hP
      simp only[h1,h2,g1]
      rw[← r1,hparts]
      simp
  simp only[execOp,Sem.run_bind,run_build w t _ _ hb,Result.andThen_ok,Sem.run_pure]
theorem Pm{z0 z1 a b:List AV}{m:Nat}(h0:z0.length=m)(h1:z1.length=m)(ha:a.length=m)(hb:b.length=m):Xg (fun i=>some (i*m,m)) (z0++z1) [(0,a),(1,b)]=some (a++b):=by
  have e1:Q1 (z0++z1) 0 a=a++z1:=by
    unfold Q1
    rw[List.take_zero,List.nil_append,Nat.zero_add,ha,← h0,List.drop_left]
  have e2:Q1 (a++z1) m b=a++b:=by
    unfold Q1
    rw[← ha,List.take_left,List.drop_eq_nil_of_le (by simp;omega),List.append_nil]
  have b1:Nat.ble m (m+m)=true:=Nat.ble_eq_true_of_le (by omega)
  have b2:Nat.ble (m+m) (m+m)=true:=Nat.ble_eq_true_of_le (by omega)
  simp[Xg,ha,hb,h0,h1,e1,e2,b1,b2]
end

end
section
/- Regions that draw their order, part by part: single operations that all later ones wait for, and groups of quiet ones. -/
section
variable {P:Program} {E:Wy} {Q:Exit→St→Prop} {n:Nat} {env:List (Nat×AV)} {own:List Own} {F:List (Value×AV)} {D:List Deferred} {ops:Array Oper} {st:St}
theorem W1{Fn:Fence}{m:Nat}{o:Oper}{a:Act}{w:World}{K:Act→World→Prop}{Q Q':Exit→Act→World→Prop}(hp:∀ch a w,Q (.panic ch) a w→Q' (.panic ch) a w)(hl:LetsOut Q→LetsOut Q')
    (hh:o.wpIn Fn m P a w K Q):o.wpIn Fn m P a w K Q':=by
  unfold Oper.wpIn at*
  refine⟨hh.1,?_⟩
  have hh:=hh.2
  generalize (o.semAt Fn.round a.eval).run P w=r at*
  cases r with
  |ok x w'=>
    cases x<;>simp only[Oper.uponIn]at hh⊢ <;>
      first
        |exact hh
        |exact⟨hh.1,CallsIn.mono hh.2 (fun e w'' he=>by cases e<;>first|exact he|exact hp _ _ _ he|exact hl he)⟩
        |exact⟨hh.1,RoundIn.mono hh.2 (fun e w'' he=>by cases e<;>first|exact he|exact hp _ _ _ he|exact hl he)⟩
  |halt x w'=>cases x<;>simp only[Oper.uponIn]at hh⊢ <;>first|exact hh|exact hp _ _ _ hh
theorem Hq{K:St→Prop}{e:Exit}{a:Act}{w:World}(he:e≠ .normal)(h:Wh E (thenQ K Q) e a w):Wh E Q e a w:=by
  obtain⟨s,h1,h2⟩:=h
  refine⟨s,?_,h2⟩
  cases e<;>first|exact h1|exact absurd rfl he
end

end
section
/- Regions that draw their order: quiet operations and allocations float until one that waits for them; the others come one by one. -/
structure Flt where
  i:Nat
  d:Nat
  v:AV ⊕ List AV
  fre:Bool
  O:Option (Nat×Own):=none
def Flt.ex(L:Array Bool)(bs:Nat→Nat)(φ:Flt):List Own:=match φ.v with
  |.inl _=>[]
  |.inr z=>if L.getD φ.i false=true then [.box (bs φ.i) z]else []
def XT(L:Array Bool)(bs:Nat→Nat)(Φ:List Flt):List Own:=Φ.flatMap (Flt.ex L bs)
def Flt.bx(bs:Nat→Nat)(φ:Flt):List Own:=match φ.v with
  |.inl _=>[]
  |.inr z=>[.box (bs φ.i) z]
def Uo(bs:Nat→Nat):List Flt→List Own
  |[]=>[]
  |φ::Φ=>φ.bx bs++Uo bs Φ
def Flt.val(bs:Nat→Nat)(φ:Flt):AV:=match φ.v with
  |.inl x=>x
  |.inr _=>.c (.pointer (some ⟨bs φ.i,0,none⟩))
def Ug(bs:Nat→Nat):List Flt→List (Nat×AV)
  |[]=>[]
  |φ::Φ=>(φ.d,φ.val bs)::Ug bs Φ
def Q8:List Bool→List Flt→List Flt
  |true::ms,φ::Φ=>φ::Q8 ms Φ
  |false::ms,_::Φ=>Q8 ms Φ
  |_,_=>[]
def Q0:List Bool→List Flt→List Flt
  |true::ms,_::Φ=>Q0 ms Φ
  |false::ms,φ::Φ=>φ::Q0 ms Φ
  |_,Φ=>Φ
theorem Lc:∀(ms:List Bool) (Φ:List Flt),Φ.Perm (Q8 ms Φ++Q0 ms Φ)
  |[],Φ=>by simp[Q8,Q0]
  |_::_,[]=>by simp[Q8,Q0]
  |true::ms,φ::Φ=>by simpa[Q8,Q0]using Lc ms Φ
  |false::ms,φ::Φ=>by
    simp only[Q8,Q0]
    exact(List.Perm.cons φ (Lc ms Φ)).trans List.perm_middle.symm
def memB(i:Nat)(l:List Nat):Bool:=l.any (Nat.beq i)
theorem Q5{i:Nat}{l:List Nat}:memB i l=true↔i∈l:=by
  simp only[memB,List.any_eq_true]
  exact⟨fun⟨x,h1,h2⟩=>Nat.eq_of_beq_eq_true h2▸h1,fun h=>⟨i,h,by simp⟩⟩
def blkB(l:List Oper)(S Φ:List Nat)(i:Nat):Bool:=(List.range l.length).all fun j=>memB j S||memB j Φ||Nat.beq j i||(match l[j]? with
  |some o=>o.after.toList.any fun e=>Region.binds .any e&&!memB e.on S&&!memB e.on Φ
  |none=>true)
def R5(l:List Oper)(o:Oper):List Oper→List Nat→Bool
  |_,[]=>true
  |os,i::Φ=>(depsOk o [i]||os.any fun o'=>depsOk o' [i])&&R5 l o (match l[i]? with|some o'=>o'::os|none=>os) Φ
section
variable {P:Program} {E:Wy} {Q:Exit→St→Prop} {n:Nat} {env:List (Nat×AV)} {own:List Own} {F:List (Value×AV)} {D:List Deferred} {ops:Array Oper}
def FOk(P:Program)(E:Wy)(ops:Array Oper)(n:Nat)(env:List (Nat×AV))(own:List Own)(F:List (Value×AV))(D:List Deferred)(Φ:List Flt)(φ:Flt):Prop:=
  ∃o,ops[φ.i]? =some o∧o.dst=some φ.d∧φ.d<n∧match φ.v with
    |.inr z=>AllocOp P o φ.d z
    |.inl x=>∃e:List (Nat×AV),(∀s y,lk e s=some y→lk env s=some y∨∃ψ∈Φ,ψ.d=s∧ψ.v=.inl y∧depsOk o [ψ.i]=true)∧
      (∀k en,φ.O=some (k,en)→own[k]? =some en)∧∀own',(φ.fre=false→∃ex,own'=own++ex)→(∀k en,φ.O=some (k,en)→own'[k]? =some en)→Step P E ops ⟨n,e,own',F,D⟩ o x
def okO(own:List Own):List Flt→Prop
  |[]=>True
  |φ::Φ=>(match φ.O with|some (k,en)=>own[k]? =some en|none=>True)∧okO own Φ
theorem NM{own:List Own}:∀{Φ:List Flt},okO own Φ→∀φ∈Φ,∀k en,φ.O=some (k,en)→own[k]? =some en
  |ψ::Φ,h,φ,hφ,k,en,he=>by
    rcases List.mem_cons.1 hφ with rfl|hφ
    · have:=h.1;rw[he]at this;exact this
    · exact NM h.2 φ hφ k en he
structure WfX(ops:Array Oper)(env:List (Nat×AV))(S:List Nat)(Φ:List Flt):Prop where
  nd:(Φ.map (·.i)).Nodup
  ndd:(Φ.map (·.d)).Nodup
  ns:∀φ∈Φ,φ.i∉S
  ne:∀φ∈Φ,lk env φ.d=none
structure Cfg(E:Wy)(ops:Array Oper)(n:Nat)(env:List (Nat×AV))(own:List Own)(F:List (Value×AV))(D:List Deferred)(S:List Nat)(Φ:List Flt)(L:Array Bool)(bs:Nat→Nat)(A:QS)(a:Act)(w:World):Prop where
  size:L.size=ops.size
  yes:∀i∈S,L.getD i false=true
  no:∀i,i∉S→(∀φ∈Φ,φ.i≠i)→L.getD i false=false
  clo:∀i o,ops[i]? =some o→L.getD i false=true→∀e∈o.after,Region.binds .any e=true→L.getD e.on false=true
  sat:SatA E A ⟨n,env,own++XT L bs Φ,F,D⟩ a w
  val:∀φ∈Φ,L.getD φ.i false=true→Rd w A (a.tmps.getD φ.d undef) (φ.val bs)
def JX(P:Program)(E:Wy)(ops:Array Oper)(S:List Nat)(Φ:List Flt)(st:St)(Q:Exit→St→Prop):Prop:=
  WfX ops st.env S Φ→(∀φ∈Φ,FOk P E ops st.n st.env st.own st.facts st.dfs Φ φ)→
    ∀fuel L bs A a w,Tp ops.size (fun i=>!L.getD i true)≤fuel→Cfg E ops st.n st.env st.own st.facts st.dfs S Φ L bs A a w→wpAnyIn (XG E.rd) 0 P .any ops (Wh E Q) fuel L a w
theorem Tj{L:Array Bool}{bs:Nat→Nat}{Φ Φ':List Flt}(h:Φ.Perm Φ'):(XT L bs Φ).Perm (XT L bs Φ'):=h.flatMap_right _
theorem L4(L:Array Bool)(bs:Nat→Nat)(Φ Φ':List Flt):XT L bs (Φ++Φ')=XT L bs Φ++XT L bs Φ':=by simp[XT]
theorem KG{L:Array Bool}{bs:Nat→Nat}:∀{Φ:List Flt},(∀φ∈Φ,L.getD φ.i false=true)→XT L bs Φ=Uo bs Φ
  |[],_=>rfl
  |φ::Φ,h=>by
    have h1:=h φ (by simp)
    have h2:=KG (L:=L) (bs:=bs) (Φ:=Φ) fun ψ hψ=>h ψ (by simp[hψ])
    unfold XT at h2⊢
    rw[List.flatMap_cons,h2,Uo]
    congr 1
    unfold Flt.ex Flt.bx
    split
    · rename_i heq;simp[heq]
    · rename_i z heq;simp[heq,h1]
theorem XO{L L':Array Bool}{bs bs':Nat→Nat}:∀{Φ:List Flt},(∀φ∈Φ,L'.getD φ.i false=L.getD φ.i false∧bs' φ.i=bs φ.i)→XT L' bs' Φ=XT L bs Φ
  |[],_=>rfl
  |φ::Φ,h=>by
    have h1:=h φ (by simp)
    have h2:=XO (L:=L) (L':=L') (bs:=bs) (bs':=bs') (Φ:=Φ) fun ψ hψ=>h ψ (by simp[hψ])
    unfold XT at h2⊢
    rw[List.flatMap_cons,List.flatMap_cons,h2]
    congr 1
    unfold Flt.ex
    rw[h1.1,h1.2]
theorem Ce{L L':Array Bool}{bs:Nat→Nat}:∀{Φ:List Flt},(∀φ∈Φ,φ.ex L' bs=φ.ex L bs)→XT L' bs Φ=XT L bs Φ
  |[],_=>rfl
  |φ::Φ,h=>by
    have h2:=Ce (L:=L) (L':=L') (bs:=bs) (Φ:=Φ) fun ψ hψ=>h ψ (by simp[hψ])
    unfold XT at h2⊢
    rw[List.flatMap_cons,List.flatMap_cons,h2,h φ (by simp)]
theorem Gp{bs:Nat→Nat}{env:List (Nat×AV)}:∀{Φ:List Flt} {s:Nat} {x:AV},lk (Ug bs Φ++env) s=some x→(∃φ∈Φ,φ.d=s∧φ.val bs=x)∨lk env s=some x
  |[],_,_,h=>.inr h
  |φ::Φ,s,x,h=>by
    rcases WX h with ⟨rfl,rfl⟩|⟨_,h⟩
    · exact .inl ⟨φ,by simp,rfl,rfl⟩
    · rcases Gp h with ⟨ψ,h1,h2⟩|h
      · exact .inl ⟨ψ,by simp[h1],h2⟩
      · exact .inr h
theorem Xd{bs:Nat→Nat}{env:List (Nat×AV)}:∀{Φ:List Flt} {φ:Flt},(Φ.map (·.d)).Nodup→φ∈Φ→lk (Ug bs Φ++env) φ.d=some (φ.val bs)
  |ψ::Φ,φ,hn,h=>by
    rw[List.map_cons,List.nodup_cons]at hn
    rw[Ug,List.cons_append,EB]
    rcases List.mem_cons.1 h with rfl|h
    · simp
    · have hne:Nat.beq ψ.d φ.d=false:=by
        cases hb:Nat.beq ψ.d φ.d with
        |false=>rfl
        |true=>exact absurd (List.mem_map.2 ⟨φ,h,(Nat.eq_of_beq_eq_true hb).symm⟩) hn.1
      rw[hne]
      exact Xd hn.2 h
theorem WD{bs:Nat→Nat}{env:List (Nat×AV)}:∀{Φ:List Flt} {s:Nat},(∀φ∈Φ,φ.d≠s)→lk (Ug bs Φ++env) s=lk env s
  |[],_,_=>rfl
  |ψ::Φ,s,h=>by
    rw[Ug,List.cons_append,EB]
    have hne:Nat.beq ψ.d s=false:=by
      cases hb:Nat.beq ψ.d s with
      |false=>rfl
      |true=>exact absurd (Nat.eq_of_beq_eq_true hb) (h ψ (by simp))
    rw[hne]
    exact WD fun φ hφ=>h φ (by simp[hφ])
theorem Cfg.run{S:List Nat}{Φ:List Flt}{L:Array Bool}{bs:Nat→Nat}{A:QS}{a:Act}{w:World}(hw:WfX ops env S Φ)(hF:∀φ∈Φ,FOk P E ops n env own F D Φ φ)(hc:Cfg E ops n env own F D S Φ L bs A a w){φ:Flt}(hφ:φ∈Φ)(hun:L.getD φ.i false=false)(hlt:φ.i<ops.size)
    (hdeps:∀o,ops[φ.i]? =some o→∀e∈o.after,Region.binds .any e=true→L.getD e.on false=true) {fuel:Nat} {Qx:Exit→Act→World→Prop}
    (hk:∀bs' A' a' w',Cfg E ops n env own F D S Φ (L.setIfInBounds φ.i true) bs' A' a' w'→wpAnyIn (XG E.rd) 0 P .any ops Qx fuel (L.setIfInBounds φ.i true) a' w'):
    wpOpIn (XG E.rd) 0 P ops Qx φ.i (wpAnyIn (XG E.rd) 0 P .any ops Qx fuel (L.setIfInBounds φ.i true)) a w:=by
  obtain⟨o,ho,hd,hdn,hm⟩:=hF φ hφ
  have hLs:φ.i<L.size:=by rw[hc.size];exact hlt
  have hset:∀j,(L.setIfInBounds φ.i true).getD j false=if j=φ.i then true else L.getD j false:=fun j=>Uk _ _ _ hLs _
  have hyes:∀i∈S,(L.setIfInBounds φ.i true).getD i false=true:=fun i hi=>by rw[hset];split;rfl;exact hc.yes i hi
  have hno:∀i,i∉S→(∀ψ∈Φ,ψ.i≠i)→(L.setIfInBounds φ.i true).getD i false=false:=fun i h1 h2=>by rw[hset,if_neg (fun h=>h2 φ hφ h.symm)];exact hc.no i h1 h2
  have hclo:∀i o,ops[i]? =some o→(L.setIfInBounds φ.i true).getD i false=true→∀e∈o.after,Region.binds .any e=true→(L.setIfInBounds φ.i true).getD e.on false=true:=fun i o' ho' hL e he hb=>by
    rw[hset]at hL⊢
    split
    · rfl
    · by_cases hi:i=φ.i
      · subst hi;exact hdeps o' ho' e he hb
      · rw[if_neg hi]at hL;exact hc.clo i o' ho' hL e he hb
  have hne:∀ψ∈Φ,ψ.i≠φ.i→φ.d≠ψ.d:=fun ψ hψ hi hd'=>by
    have:=hw.ndd
    rw[List.nodup_iff_pairwise_ne,List.pairwise_map]at this
    obtain⟨x,hx⟩:=List.getElem?_of_mem hφ
    obtain⟨y,hy⟩:=List.getElem?_of_mem hψ
    by_cases hxy:x=y
    · subst hxy;rw[hx]at hy;cases hy;exact hi rfl
    · rw[List.pairwise_iff_getElem]at this
      obtain⟨h1,h2⟩:=List.getElem?_eq_some_iff.1 hx
      obtain⟨h3,h4⟩:=List.getElem?_eq_some_iff.1 hy
      rcases Nat.lt_or_gt_of_ne hxy with h|h
      · have:=this x y h1 h3 h;rw[h2,h4]at this;exact this hd'
      · have:=this y x h3 h1 h;rw[h2,h4]at this;exact this hd'.symm
  have huniq:∀ψ∈Φ,ψ.i=φ.i→ψ=φ:=fun ψ hψ hi=>by
    have:=hw.nd
    rw[List.nodup_iff_pairwise_ne,List.pairwise_map,List.pairwise_iff_getElem]at this
    obtain⟨x,hx⟩:=List.getElem?_of_mem hφ
    obtain⟨y,hy⟩:=List.getElem?_of_mem hψ
    obtain⟨h1,h2⟩:=List.getElem?_eq_some_iff.1 hx
    obtain⟨h3,h4⟩:=List.getElem?_eq_some_iff.1 hy
    by_cases hxy:x=y
    · subst hxy;rw[hx]at hy;cases hy;rfl
    · rcases Nat.lt_or_gt_of_ne hxy with h|h
      · have:=this x y h1 h3 h;rw[h2,h4]at this;exact absurd hi.symm this
      · have:=this y x h3 h1 h;rw[h2,h4]at this;exact absurd hi this
  have hput:∀v s,φ.d≠s→(a.put o.dst v).tmps.getD s undef=a.tmps.getD s undef:=fun v s h=>by rw[hd];exact WC h
  unfold wpOpIn
  simp only[ho]
  cases hv:φ.v with
  |inl x=>
    rw[hv]at hm
    obtain⟨e,he,hO,hs⟩:=hm
    have hexs:∀bs,XT (L.setIfInBounds φ.i true) bs Φ=XT L bs Φ:=fun bs=>by
      refine Ce fun ψ hψ=>?_
      unfold Flt.ex
      by_cases hi:ψ.i=φ.i
      · rw[huniq ψ hψ hi,hv]
      · rw[hset,if_neg hi]
    have hsat:SatA E A ⟨n,e,own++XT L bs Φ,F,D⟩ a w:=⟨hc.sat.size,hc.sat.defers,hc.sat.keep,hc.sat.hp,fun s y hl=>by
      rcases he s y hl with h|⟨ψ,hψ,rfl,hψv,hψd⟩
      · exact hc.sat.env s y h
      · obtain⟨e',he',hb,hon⟩:=WG hψd (List.mem_singleton.2 rfl)
        have h1:=hdeps o ho e' he' hb
        rw[hon]at h1
        have:=hc.val ψ hψ h1
        unfold Flt.val at this
        rw[hψv]at this
        exact this,hc.sat.facts⟩
    have h1:=hs _ (fun _=>⟨_,rfl⟩) (fun k en hk=>by
      have:=hO k en hk
      rw[List.getElem?_append_left (List.getElem?_eq_some_iff.1 this).1];exact this) A a w hsat (wpAnyIn (XG E.rd) 0 P .any ops Qx fuel (L.setIfInBounds φ.i true)) Qx fun v w' A' hf hs' hr=>hk bs A' _ w'
      ⟨by simpa using hc.size,hyes,hno,hclo,by
        rw[hexs]
        exact⟨by have:=hs'.size;simp only[Act.put,hd,Array.size_setIfInBounds];exact this,by rw[hd];exact hs'.defers,hs'.keep,hs'.hp,fun s y hl=>by
          rw[hput v s (fun h=>by rw[← h,hw.ne φ hφ]at hl;cases hl)]
          exact hf _ _ (hc.sat.env s y hl),hs'.facts⟩,fun ψ hψ hL=>by
        by_cases hi:ψ.i=φ.i
        · obtain rfl:=huniq ψ hψ hi
          rw[hd,Wr (by have:=hs'.size;simp only at this;rw[this];exact hdn)]
          unfold Flt.val
          rw[hv]
          exact hr
        · rw[hset,if_neg hi]at hL
          rw[hput v _ (hne ψ hψ hi)]
          exact hf _ _ (hc.val ψ hψ hL)⟩
    split
    · rename_i hw';rw[if_pos hw']at h1;exact h1
    · rename_i hw';rw[if_neg hw']at h1;exact⟨fun _ _=>trivial,h1⟩
  |inr z=>
    rw[hv]at hm
    have hga:=hm.guard
    rw[if_pos (by simp[Region.wanted,hga])]
    refine hm.run (E:=E) hc.sat (wpAnyIn (XG E.rd) 0 P .any ops Qx fuel (L.setIfInBounds φ.i true)) fun b w' hf hs'=>?_
    have hperm:(XT (L.setIfInBounds φ.i true) (fun j=>if j=φ.i then b else bs j) Φ).Perm (.box b z::XT L bs Φ):=by
      obtain⟨p,q,rfl⟩:=List.append_of_mem hφ
      have hother:∀ψ∈p++q,(L.setIfInBounds φ.i true).getD ψ.i false=L.getD ψ.i false∧(if ψ.i=φ.i then b else bs ψ.i)=bs ψ.i:=fun ψ hψ=>by
        have hne':ψ.i≠φ.i:=fun hi=>by
          have:=hw.nd
          rw[List.map_append,List.map_cons]at this
          have h2:=(List.perm_middle.nodup_iff).1 this
          rw[List.nodup_cons]at h2
          exact h2.1 (by rw[← List.map_append,← hi];exact List.mem_map.2 ⟨ψ,hψ,rfl⟩)
        exact⟨by rw[hset,if_neg hne'],by rw[if_neg hne']⟩
      have h1:=XO (L:=L) (L':=L.setIfInBounds φ.i true) (bs:=bs) (bs':=fun j=>if j=φ.i then b else bs j) (Φ:=p) fun ψ hψ=>hother ψ (List.mem_append_left _ hψ)
      have h2:=XO (L:=L) (L':=L.setIfInBounds φ.i true) (bs:=bs) (bs':=fun j=>if j=φ.i then b else bs j) (Φ:=q) fun ψ hψ=>hother ψ (List.mem_append_right _ hψ)
      have e1:∀(L:Array Bool) (bs:Nat→Nat),XT L bs (p++φ::q)=XT L bs p++(φ.ex L bs++XT L bs q):=fun L bs=>by simp[XT]
      rw[e1,e1,h1,h2]
      have e2:φ.ex (L.setIfInBounds φ.i true) (fun j=>if j=φ.i then b else bs j)=[.box b z]:=by unfold Flt.ex;rw[hv];simp only[hset,if_true]
      have e3:φ.ex L bs=[]:=by unfold Flt.ex;rw[hv];simp[hun]
      rw[e2,e3,List.nil_append]
      exact List.perm_middle
    have hs':SatA E A ⟨n,env,own++XT (L.setIfInBounds φ.i true) (fun j=>if j=φ.i then b else bs j) Φ,F,D⟩ a w':=hs'.perm (List.perm_middle.symm.trans (List.Perm.append_left _ hperm.symm))
    refine hk (fun j=>if j=φ.i then b else bs j) A _ w' ⟨by simpa using hc.size,hyes,hno,hclo,⟨by have:=hs'.size;simp only[Act.put,hd,Array.size_setIfInBounds];exact this,by rw[hd];exact hs'.defers,hs'.keep,hs'.hp,fun s y hl=>?_,hs'.facts⟩,fun ψ hψ hL=>?_⟩
    · rw[hput _ s (fun h=>by rw[← h,hw.ne φ hφ]at hl;cases hl)]
      exact hf _ _ (hc.sat.env s y hl)
    · by_cases hi:ψ.i=φ.i
      · obtain rfl:=huniq ψ hψ hi
        rw[hd,Wr (by have:=hs'.size;simp only at this;rw[this];exact hdn)]
        unfold Flt.val
        rw[hv]
        simp only[if_true]
        exact .c _
      · rw[hset,if_neg hi]at hL
        rw[hput _ _ (hne ψ hψ hi)]
        have:=hf _ _ (hc.val ψ hψ hL)
        unfold Flt.val at this⊢
        split
        · rename_i x heq;rw[heq]at this;exact this
        · rename_i z' heq;rw[heq]at this;simp only[if_neg hi];exact this
theorem KQ{L:Array Bool}(hclo:∀i o,ops[i]? =some o→L.getD i false=true→∀e∈o.after,Region.binds .any e=true→L.getD e.on false=true){o:Oper}(hdeps:∀e∈o.after,Region.binds .any e=true→L.getD e.on false=true):
    ∀(Φ:List Nat) (os:List Oper),(∀o'∈os,∀e∈o'.after,Region.binds .any e=true→L.getD e.on false=true)→R5 ops.toList o os Φ=true→∀i∈Φ,L.getD i false=true
  |[],_,_,_=>fun _ h=>by cases h
  |j::Φ,os,hos,h=>by
    unfold R5 at h
    rw[Bool.and_eq_true,Bool.or_eq_true]at h
    have hj:L.getD j false=true:=by
      rcases h.1 with h1|h1
      · obtain⟨e,he,hb,hon⟩:=WG h1 (List.mem_singleton.2 rfl)
        rw[← hon];exact hdeps e he hb
      · obtain⟨o',ho',h1⟩:=List.any_eq_true.1 h1
        obtain⟨e,he,hb,hon⟩:=WG h1 (List.mem_singleton.2 rfl)
        rw[← hon];exact hos o' ho' e he hb
    have hrec:=KQ hclo hdeps Φ _ (fun o' ho'=>by
      split at ho'
      · rename_i o2 ho2
        rcases List.mem_cons.1 ho' with rfl|ho'
        · exact hclo j _ (by simpa using ho2) hj
        · exact hos o' ho'
      · exact hos o' ho') h.2
    intro i hi
    rcases List.mem_cons.1 hi with rfl|hi
    · exact hj
    · exact hrec i hi
theorem KW{L:Array Bool}{i fuel:Nat}(hL:L.size=ops.size)(hi:i<ops.size)(hun:L.getD i true=false)(hc:Tp ops.size (fun i=>!L.getD i true)≤fuel+1):Tp ops.size (fun j=>!(L.setIfInBounds i true).getD j true)≤fuel:=by
  have:=Lv (fun i=>!L.getD i true) (fun j=>!(L.setIfInBounds i true).getD j true) i (fun j hj=>by rw[Uk _ _ _ (by omega),if_neg hj]) (by simp[hun]) (by rw[Uk _ _ _ (by omega),if_pos rfl];rfl) ops.size
  rw[if_pos hi]at this
  omega
theorem Kl{o:Oper}{K K':St→Prop}{a:Act}{w:World}(h:wpListIn (XG E.rd) 0 P ops (Wh E (thenQ K Q)) [o] a w)(hk:∀a w,Wh E (thenQ K Q) .normal a w→Wh E (thenQ K' Q) .normal a w):wpListIn (XG E.rd) 0 P ops (Wh E (thenQ K' Q)) [o] a w:=by
  have hx:∀e,e≠ .normal→∀a w,Wh E (thenQ K Q) e a w→Wh E (thenQ K' Q) e a w:=fun e he a w ⟨s,h1,h2⟩=>⟨s,by cases e<;>first|exact h1|exact absurd rfl he,h2⟩
  unfold wpListIn at h⊢
  split
  · rename_i hw
    rw[if_pos hw]at h
    exact W1 (fun ch a w h=>hx _ (by intro h;cases h) a w h) (fun h=>by first|exact fun a w=>hx _ (by intro h;cases h) a w (h a w)|(obtain⟨a,w,h⟩:=h;exact⟨a,w,hx _ (by intro h;cases h) a w h⟩)) (Oper.wpIn_mono (fun a w h=>hk a w h) h)
  · rename_i hw
    rw[if_neg hw]at h
    exact⟨h.1,hk _ _ h.2⟩
theorem JX.step{S:List Nat}{Φ:List Flt}(i:Nat)(ms:List Bool){o:Oper}(ho:ops[i]? =some o)(hbk:Xi 0 ops.toList=true)(hblk:blkB ops.toList S (Φ.map (·.i)) i=true)(hS:memB i S=false)(hΦ:memB i (Φ.map (·.i))=false)
    (hlnd:R5 ops.toList o [] ((Q8 ms Φ).map (·.i))=true) (hfre:(Q0 ms Φ).all (·.fre)=true)
    (h:∀bs pe ex,JL P E ops [o] ⟨n,Ug bs (Q8 ms Φ)++(env++pe),own++(Uo bs (Q8 ms Φ)++ex),F,D⟩ (thenQ (fun s=>∃ev env' own',s.n=n∧s.env=env'++pe∧s.facts=F∧s.dfs=D∧env'=ev++(Ug bs (Q8 ms Φ)++env)∧ev.all (fun p=>o.dst==some p.1)=true∧Reown s.own (own'++ex)∧
      (match o.dst with|some d=>(Φ.all fun φ=>!Nat.beq φ.d d)=true∧lk env d=none|none=>True)∧okO own' (Q0 ms Φ)∧JX P E ops (i::((Q8 ms Φ).map (·.i)++S)) (Q0 ms Φ) ⟨n,env',own',F,D⟩ Q) Q)):JX P E ops S Φ ⟨n,env,own,F,D⟩ Q:=fun hw hF=>by
  have hlt:i<ops.size:=(Array.getElem?_eq_some_iff.1 ho).1
  have hp:=Lc ms Φ
  intro fuel
  induction fuel with
  |zero=>
    intro L bs A a w hc hcf
    exfalso
    have hi:L.getD i true=false:=by
      rw[Uh (by rw[hcf.size];exact hlt)]
      exact hcf.no i (fun h=>by rw[Q5.2 h]at hS;cases hS) fun φ hφ he=>by rw[Q5.2 (List.mem_map.2 ⟨φ,hφ,he⟩)]at hΦ;cases hΦ
    have:=List.countP_eq_zero.1 (Nat.le_zero.1 hc) i (by simpa using hlt)
    simp[hi]at this
  |succ fuel ih=>
    intro L bs A a w hc hcf
    have hundone:L.getD i false=false:=hcf.no i (fun h=>by rw[Q5.2 h]at hS;cases hS) fun φ hφ he=>by rw[Q5.2 (List.mem_map.2 ⟨φ,hφ,he⟩)]at hΦ;cases hΦ
    refine⟨fun hr=>?_,fun j hj=>?_⟩
    · exfalso
      have key:∀j,j<ops.size→L.getD j false=true:=by
        intro j
        induction j using Nat.strongRecOn with
        |_ j ihj=>
          intro hjl
          cases hL:L.getD j false with
          |true=>rfl
          |false=>
            exfalso
            obtain⟨oj,hoj⟩:∃oj,ops[j]? =some oj:=⟨_,Array.getElem?_eq_getElem hjl⟩
            have:j∈Region.ready .any ops L:=Yr hcf.size hoj (by rw[Uh (by rw[hcf.size];exact hjl)];exact hL) fun e he hb=>by
              have hon:=Ym hbk (i:=j) (o:=oj) (by simpa using hoj) e he hb
              exact ihj e.on (by omega) (by omega)
            rw[hr]at this
            cases this
      rw[key i hlt]at hundone;cases hundone
    · obtain⟨hjl,oj,hoj,hunj,hdeps⟩:=Wb hj
      have hunj':L.getD j false=false:=by rw[← Uh (by rw[hcf.size];exact hjl)];exact hunj
      by_cases hjΦ:∃φ∈Φ,φ.i=j
      · obtain⟨φ,hφ,rfl⟩:=hjΦ
        exact hcf.run hw hF hφ hunj' hjl (fun o' ho'=>by rw[hoj]at ho';cases ho';exact hdeps) fun bs' A' a' w' hcf'=>ih _ bs' A' a' w' (KW hcf.size hjl hunj hc) hcf'
      · have hji:j=i:=by
          by_cases he:j=i
          · exact he
          · exfalso
            have h1:=List.all_eq_true.1 hblk j (by simpa using hjl)
            have h2:memB j S=false:=by
              cases hb:memB j S with
              |false=>rfl
              |true=>rw[hcf.yes j (Q5.1 hb)]at hunj';cases hunj'
            have h3:memB j (Φ.map (·.i))=false:=by
              cases hb:memB j (Φ.map (·.i))with
              |false=>rfl
              |true=>
                obtain⟨φ,hφ,hφi⟩:=List.mem_map.1 (Q5.1 hb)
                exact absurd ⟨φ,hφ,hφi⟩ hjΦ
            have h4:Nat.beq j i=false:=by
              cases hb:Nat.beq j i with
              |false=>rfl
              |true=>exact absurd (Nat.eq_of_beq_eq_true hb) he
            have h5:ops.toList[j]? =some oj:=by simpa using hoj
            rw[h2,h3,h4,h5]at h1
            simp only[Bool.false_or]at h1
            obtain⟨e,he,hb⟩:=List.any_eq_true.1 h1
            simp only[Bool.and_eq_true,Bool.not_eq_true']at hb
            have h6:=hdeps e (by simpa using he) hb.1.1
            rw[hcf.no e.on (fun h=>by rw[Q5.2 h]at hb;simp at hb) fun φ hφ hφi=>by
              have:=hb.2
              rw[Q5.2 (List.mem_map.2 ⟨φ,hφ,hφi⟩)]at this;cases this]at h6
            cases h6
        subst hji
        rw[ho]at hoj;cases hoj
        -- what it waits for has been done
        have hland:∀φ∈Q8 ms Φ,L.getD φ.i false=true:=fun φ hφ=>KQ hcf.clo hdeps _ _ (fun o' h=>by cases h) hlnd φ.i (List.mem_map.2 ⟨φ,hφ,rfl⟩)
        have hmem:∀φ,φ∈Φ↔φ∈Q8 ms Φ∨φ∈Q0 ms Φ:=fun φ=>by rw[hp.mem_iff,List.mem_append]
        obtain⟨pe,hpe⟩:∃pe,pe=Ug bs ((Q0 ms Φ).filter fun φ=>L.getD φ.i false):=⟨_,rfl⟩
        have hndd:((Q8 ms Φ++Q0 ms Φ).map (·.d)).Nodup:=(hp.map _).nodup_iff.1 hw.ndd
        rw[List.map_append,List.nodup_append]at hndd
        have hnd:((Q8 ms Φ++Q0 ms Φ).map (·.i)).Nodup:=(hp.map _).nodup_iff.1 hw.nd
        rw[List.map_append,List.nodup_append]at hnd
        have hsat0:SatA E A ⟨n,Ug bs (Q8 ms Φ)++(env++pe),own++(Uo bs (Q8 ms Φ)++XT L bs (Q0 ms Φ)),F,D⟩ a w:=by
          have h1:=hcf.sat.perm (List.Perm.append_left own ((Tj (L:=L) (bs:=bs) hp).trans (by rw[L4,KG hland])))
          refine⟨h1.size,h1.defers,h1.keep,h1.hp,fun s x hl=>?_,h1.facts⟩
          rcases Gp hl with ⟨φ,hφ,rfl,rfl⟩|hl
          · exact hcf.val φ ((hmem φ).2 (.inl hφ)) (hland φ hφ)
          · rw[Ut]at hl
            rcases hl with hl|⟨_,hl⟩
            · exact hcf.sat.env s x hl
            · rw[hpe]at hl
              rcases Gp (env:=[]) (by rw[List.append_nil];exact hl)with ⟨φ,hφ,rfl,rfl⟩|hl
              · rw[List.mem_filter]at hφ
                exact hcf.val φ ((hmem φ).2 (.inr hφ.1)) hφ.2
              · simp[lk]at hl
        have hl:=h bs pe (XT L bs (Q0 ms Φ)) a w ⟨A,hsat0⟩
        have hK:∀a' w',wpListIn (XG E.rd) 0 P ops (Wh E (thenQ (fun s=>∃ev env' own',s.n=n∧s.env=env'++pe∧s.facts=F∧s.dfs=D∧env'=ev++(Ug bs (Q8 ms Φ)++env)∧ev.all (fun p=>o.dst==some p.1)=true∧Reown s.own (own'++XT L bs (Q0 ms Φ))∧
            (match o.dst with|some d=>(Φ.all fun φ=>!Nat.beq φ.d d)=true∧lk env d=none|none=>True)∧okO own' (Q0 ms Φ)∧JX P E ops (j::((Q8 ms Φ).map (·.i)++S)) (Q0 ms Φ) ⟨n,env',own',F,D⟩ Q) Q)) [] a' w'→wpAnyIn (XG E.rd) 0 P .any ops (Wh E Q) fuel (L.setIfInBounds j true) a' w':=by
          rintro a' w' ⟨⟨n',env2,own2,F',D'⟩,⟨ev,env',own',rfl,rfl,rfl,rfl,rfl,hev,hre,hdd,hoO,hX⟩,A',hsA⟩
          have hevd:∀s x,lk ev s=some x→o.dst=some s:=fun s x hl'=>by
            have:=List.all_eq_true.1 hev _ (X2 _ _ _ hl')
            simpa using this
          have hlts:j<L.size:=by rw[hcf.size];exact hlt
          have hset:∀z,(L.setIfInBounds j true).getD z false=if z=j then true else L.getD z false:=fun z=>Uk _ _ _ hlts _
          have hnot:∀φ∈Φ,φ.i≠j:=fun φ hφ he=>by rw[Q5.2 (List.mem_map.2 ⟨φ,hφ,he⟩)]at hΦ;cases hΦ
          have hevΦ:∀φ∈Φ,lk ev φ.d=none:=fun φ hφ=>by
            cases hle:lk ev φ.d with
            |none=>rfl
            |some x=>
              have hd':=hevd _ _ hle
              rw[hd']at hdd
              have:=List.all_eq_true.1 hdd.1 φ hφ
              simp at this
          have hold:∀s y,lk env s=some y→lk (ev++(Ug bs (Q8 ms Φ)++env)) s=some y:=fun s y hl'=>by
            rw[Ut]
            have h1:lk ev s=none:=by
              cases hle:lk ev s with
              |none=>rfl
              |some x=>
                have hd':=hevd _ _ hle
                rw[hd']at hdd
                simp only at hdd
                rw[hdd.2]at hl';cases hl'
            refine .inr ⟨h1,?_⟩
            rw[WD fun φ hφ he=>?_]
            · exact hl'
            · rw[← he,hw.ne φ ((hmem φ).2 (.inl hφ))]at hl';cases hl'
          have hexs:XT (L.setIfInBounds j true) bs (Q0 ms Φ)=XT L bs (Q0 ms Φ):=XO fun φ hφ=>⟨by rw[hset,if_neg (hnot φ ((hmem φ).2 (.inr hφ)))],rfl⟩
          refine hX ⟨hnd.2.1,hndd.2.1,fun φ hφ hm=>?_,fun φ hφ=>?_⟩ (fun φ hφ=>?_) fuel _ bs A' a' w' (KW hcf.size hlt hunj hc) ⟨by simpa using hcf.size,fun z hz=>?_,fun z hz1 hz2=>?_,fun z oz hoz hLz e he hb=>?_,?_,fun φ hφ hLφ=>?_⟩
          · rcases List.mem_cons.1 hm with hm|hm
            · exact hnot φ ((hmem φ).2 (.inr hφ)) hm
            · rcases List.mem_append.1 hm with hm|hm
              · exact hnd.2.2 _ hm _ (List.mem_map.2 ⟨φ,hφ,rfl⟩) rfl
              · exact hw.ns φ ((hmem φ).2 (.inr hφ)) hm
          · have hφΦ:=(hmem φ).2 (.inr hφ)
            show lk (ev++(Ug bs (Q8 ms Φ)++env)) φ.d=none
            cases hle:lk (ev++(Ug bs (Q8 ms Φ)++env)) φ.d with
            |none=>rfl
            |some y=>
              rw[Ut]at hle
              rcases hle with hle|⟨_,hle⟩
              · rw[hevΦ φ hφΦ]at hle;cases hle
              · rw[WD fun ψ hψ he=>hndd.2.2 _ (List.mem_map.2 ⟨ψ,hψ,rfl⟩) _ (List.mem_map.2 ⟨φ,hφ,rfl⟩) he]at hle
                rw[hw.ne φ hφΦ]at hle;cases hle
          · obtain⟨o',ho',hd',hdn',hm'⟩:=hF φ ((hmem φ).2 (.inr hφ))
            refine⟨o',ho',hd',hdn',?_⟩
            split at hm'
            · exact hm'
            · obtain⟨e,he,_,hs⟩:=hm'
              refine⟨e,fun s y hl'=>?_,NM hoO φ hφ,fun own2 _ hO2=>hs own2 (fun hf=>?_) hO2⟩
              · rcases he s y hl' with h1|⟨ψ,hψ,rfl,hψv,hψd⟩
                · exact .inl (hold s y h1)
                · rcases(hmem ψ).1 hψ with hψ'|hψ'
                  · left
                    rw[Ut]
                    refine .inr ⟨hevΦ ψ hψ,?_⟩
                    rw[Xd hndd.1 hψ']
                    unfold Flt.val
                    rw[hψv]
                  · exact .inr ⟨ψ,hψ',rfl,hψv,hψd⟩
              · have:=List.all_eq_true.1 hfre φ hφ
                rw[hf]at this;cases this
          · rw[hset]
            split
            · rfl
            · rename_i hne
              rcases List.mem_cons.1 hz with hz|hz
              · exact absurd hz hne
              · rcases List.mem_append.1 hz with hz|hz
                · obtain⟨φ,hφ,rfl⟩:=List.mem_map.1 hz
                  exact hland φ hφ
                · exact hcf.yes z hz
          · rw[hset,if_neg (fun h=>hz1 (by simp[h]))]
            refine hcf.no z (fun h=>hz1 (by simp[h])) fun φ hφ he=>?_
            rcases(hmem φ).1 hφ with h'|h'
            · exact hz1 (by rw[← he];exact List.mem_cons_of_mem _ (List.mem_append_left _ (List.mem_map.2 ⟨φ,h',rfl⟩)))
            · exact hz2 φ h' he
          · rw[hset]at hLz⊢
            split
            · rfl
            · by_cases hzj:z=j
              · subst hzj;rw[ho]at hoz;cases hoz;exact hdeps e he hb
              · rw[if_neg hzj]at hLz;exact hcf.clo z oz hoz hLz e he hb
          · rw[hexs]
            exact⟨hsA.size,hsA.defers,hsA.keep,hsA.hp.reown hre,fun s y hl'=>hsA.env s y (by rw[Ut];exact .inl hl'),hsA.facts⟩
          · rw[hset,if_neg (hnot φ ((hmem φ).2 (.inr hφ)))]at hLφ
            refine hsA.env φ.d (φ.val bs) ?_
            have hφΦ:=(hmem φ).2 (.inr hφ)
            rw[Ut]
            refine .inr ⟨?_,?_⟩
            · show lk (ev++(Ug bs (Q8 ms Φ)++env)) φ.d=none
              cases hle:lk (ev++(Ug bs (Q8 ms Φ)++env)) φ.d with
              |none=>rfl
              |some y=>
                rw[Ut]at hle
                rcases hle with hle|⟨_,hle⟩
                · rw[hevΦ φ hφΦ]at hle;cases hle
                · rw[WD fun ψ hψ he=>hndd.2.2 _ (List.mem_map.2 ⟨ψ,hψ,rfl⟩) _ (List.mem_map.2 ⟨φ,hφ,rfl⟩) he]at hle
                  rw[hw.ne φ hφΦ]at hle;cases hle
            · rw[hpe]
              have:=Xd (bs:=bs) (env:=[]) (Φ:=(Q0 ms Φ).filter fun φ=>L.getD φ.i false) (φ:=φ) ((List.filter_sublist.map _).nodup hndd.2.1) (List.mem_filter.2 ⟨hφ,hLφ⟩)
              rwa [List.append_nil]at this
        unfold wpOpIn
        simp only[ho]
        unfold wpListIn at hl
        split
        · rename_i hw'
          rw[if_pos hw']at hl
          exact W1 (fun ch a w h=>Hq (by intro h;cases h) h) (fun h=>by first|exact fun a w=>Hq (by intro h;cases h) (h a w)|exact h) (Oper.wpIn_mono hK hl)
        · rename_i hw'
          rw[if_neg hw']at hl
          exact⟨hl.1,hK _ _ hl.2⟩
theorem FOk.more{Φ:List Flt}{φ ψ:Flt}(h:FOk P E ops n env own F D Φ φ):FOk P E ops n env own F D (ψ::Φ) φ:=by
  obtain⟨o,h1,h2,h3,h4⟩:=h
  refine⟨o,h1,h2,h3,?_⟩
  split at h4
  · exact h4
  · obtain⟨e,he,hO,hs⟩:=h4
    refine⟨e,fun s y hl=>(he s y hl).imp id fun⟨χ,k1,k2⟩=>⟨χ,by simp[k1],k2⟩,hO,hs⟩
theorem JX.add{S:List Nat}{Φ:List Flt}(φ:Flt)(hS:memB φ.i S=false)(hΦ:memB φ.i (Φ.map (·.i))=false)(hdd:(Φ.all fun ψ=>!Nat.beq ψ.d φ.d)=true)(hne:lk env φ.d=none)(hok:FOk P E ops n env own F D (φ::Φ) φ)(h:JX P E ops S (φ::Φ) ⟨n,env,own,F,D⟩ Q):JX P E ops S Φ ⟨n,env,own,F,D⟩ Q:=fun hw hF fuel L bs A a w hc hcf=>by
  have hun:L.getD φ.i false=false:=hcf.no _ (fun h=>by rw[Q5.2 h]at hS;cases hS) fun ψ hψ he=>by rw[Q5.2 (List.mem_map.2 ⟨ψ,hψ,he⟩)]at hΦ;cases hΦ
  refine h ⟨?_,?_,?_,?_⟩ (fun ψ hψ=>?_) fuel L bs A a w hc ⟨hcf.size,hcf.yes,fun i h1 h2=>hcf.no i h1 fun ψ hψ=>h2 ψ (by simp[hψ]),hcf.clo,?_,fun ψ hψ hL=>?_⟩
  · rw[List.map_cons,List.nodup_cons]
    exact⟨fun h=>(by rw[Q5.2 h]at hΦ;cases hΦ),hw.nd⟩
  · rw[List.map_cons,List.nodup_cons]
    refine⟨fun h=>?_,hw.ndd⟩
    obtain⟨ψ,hψ,he⟩:=List.mem_map.1 h
    have:=List.all_eq_true.1 hdd ψ hψ
    rw[he]at this
    simp at this
  · intro ψ hψ
    rcases List.mem_cons.1 hψ with rfl|hψ
    · exact fun h=>by rw[Q5.2 h]at hS;cases hS
    · exact hw.ns ψ hψ
  · intro ψ hψ
    rcases List.mem_cons.1 hψ with rfl|hψ
    · exact hne
    · exact hw.ne ψ hψ
  · rcases List.mem_cons.1 hψ with rfl|hψ
    · exact hok
    · exact(hF ψ hψ).more
  · have:XT L bs (φ::Φ)=XT L bs Φ:=by
      have:φ.ex L bs=[]:=by unfold Flt.ex;split<;>simp[hun]
      simp[XT,this]
    rw[this];exact hcf.sat
  · rcases List.mem_cons.1 hψ with rfl|hψ
    · rw[hun]at hL;cases hL
    · exact hcf.val ψ hψ hL
def Kt(sl:List Nat):List Flt→List (Nat×AV)
  |[]=>[]
  |⟨_,d,.inl x,_,_⟩::Φ=>match memB d sl with|true=>(d,x)::Kt sl Φ|false=>Kt sl Φ
  |⟨_,_,.inr _,_,_⟩::Φ=>Kt sl Φ
def MN(o:Oper)(sl:List Nat):List Flt→Bool
  |[]=>true
  |⟨i,d,.inl _,_,_⟩::Φ=>(!memB d sl||depsOk o [i])&&MN o sl Φ
  |⟨_,_,.inr _,_,_⟩::Φ=>MN o sl Φ
theorem GG{o:Oper}{sl:List Nat}{env:List (Nat×AV)}:∀{Φ:List Flt},MN o sl Φ=true→∀s y,lk (Kt sl Φ++env) s=some y→lk env s=some y∨∃ψ∈Φ,ψ.d=s∧ψ.v=.inl y∧depsOk o [ψ.i]=true
  |[],_,s,y,h=>.inl (by simpa[Kt]using h)
  |⟨i,d,.inl x,fr,O⟩::Φ,hc,s,y,h=>by
    unfold MN at hc
    rw[Bool.and_eq_true,Bool.or_eq_true]at hc
    have hrec:lk (Kt sl Φ++env) s=some y→lk env s=some y∨∃ψ∈(⟨i,d,.inl x,fr,O⟩::Φ:List Flt),ψ.d=s∧ψ.v=.inl y∧depsOk o [ψ.i]=true:=fun h=>(GG hc.2 s y h).imp id fun⟨ψ,h1,h2⟩=>⟨ψ,by simp[h1],h2⟩
    unfold Kt at h
    split at h
    · rename_i hb
      rcases WX h with ⟨rfl,rfl⟩|⟨_,h⟩
      · refine .inr ⟨_,List.mem_cons_self,rfl,rfl,?_⟩
        have:=hc.1
        rw[hb]at this
        simpa using this
      · exact hrec h
    · exact hrec h
  |⟨i,d,.inr z,fr,O⟩::Φ,hc,s,y,h=>(GG (sl:=sl) (Φ:=Φ) hc s y h).imp id fun⟨ψ,h1,h2⟩=>⟨ψ,by simp[h1],h2⟩
theorem JX.f{S:List Nat}{Φ:List Flt}{o:Oper}{d:Nat}{x:AV}(i:Nat)(sl:List Nat)(ho:ops[i]? =some o)(hd:o.dst=some d)(hn:Nat.blt d n=true)(hS:memB i S=false)(hΦ:memB i (Φ.map (·.i))=false)(hdd:(Φ.all fun ψ=>!Nat.beq ψ.d d)=true)(hne:lk env d=none)(hc:MN o sl Φ=true)
    (hs:∀own',Step P E ops ⟨n,Kt sl Φ++env,own',F,D⟩ o x) (h:JX P E ops S (⟨i,d,.inl x,true,none⟩::Φ) ⟨n,env,own,F,D⟩ Q):JX P E ops S Φ ⟨n,env,own,F,D⟩ Q:=
  .add ⟨i,d,.inl x,true,none⟩ hS hΦ hdd hne ⟨o,ho,hd,Ui hn,Kt sl Φ++env,fun s y hl=>(GG hc s y hl).imp id fun⟨ψ,h1,h2⟩=>⟨ψ,by simp[h1],h2⟩,(fun k en h=>by cases h),fun own' _ _=>hs own'⟩ h
theorem JX.o{S:List Nat}{Φ:List Flt}{o:Oper}{d:Nat}{x:AV}{en:Own}(i:Nat)(k:Nat)(sl:List Nat)(ho:ops[i]? =some o)(hd:o.dst=some d)(hn:Nat.blt d n=true)(hS:memB i S=false)(hΦ:memB i (Φ.map (·.i))=false)(hdd:(Φ.all fun ψ=>!Nat.beq ψ.d d)=true)(hne:lk env d=none)(hc:MN o sl Φ=true)(hk:own[k]? =some en)
    (hs:∀own',own'[k]? =some en→Step P E ops ⟨n,Kt sl Φ++env,own',F,D⟩ o x) (h:JX P E ops S (⟨i,d,.inl x,true,some (k,en)⟩::Φ) ⟨n,env,own,F,D⟩ Q):JX P E ops S Φ ⟨n,env,own,F,D⟩ Q:=
  .add ⟨i,d,.inl x,true,some (k,en)⟩ hS hΦ hdd hne ⟨o,ho,hd,Ui hn,Kt sl Φ++env,fun s y hl=>(GG hc s y hl).imp id fun⟨ψ,h1,h2⟩=>⟨ψ,by simp[h1],h2⟩,(fun k' en' h=>by cases h;exact hk),fun own' _ h=>hs own' (h k en rfl)⟩ h
theorem JX.a{S:List Nat}{Φ:List Flt}{o:Oper}{d:Nat}{z:List AV}(i:Nat)(ho:ops[i]? =some o)(ha:AllocOp P o d z)(hn:Nat.blt d n=true)(hS:memB i S=false)(hΦ:memB i (Φ.map (·.i))=false)(hdd:(Φ.all fun ψ=>!Nat.beq ψ.d d)=true)(hne:lk env d=none)
    (h:JX P E ops S (⟨i,d,.inr z,true,none⟩::Φ) ⟨n,env,own,F,D⟩ Q):JX P E ops S Φ ⟨n,env,own,F,D⟩ Q:=
  .add ⟨i,d,.inr z,true,none⟩ hS hΦ hdd hne ⟨o,ho,ha.dst,Ui hn,ha⟩ h
theorem JX.fin{S:List Nat}{Φ:List Flt}(hbk:Xi 0 ops.toList=true)(hall:((List.range ops.size).all fun i=>memB i S||memB i (Φ.map (·.i)))=true)(h:∀bs,Q .normal ⟨n,Ug bs Φ++env,own++Uo bs Φ,F,D⟩):JX P E ops S Φ ⟨n,env,own,F,D⟩ Q:=fun hw hF fuel=>by
  have hend:∀L bs A a w,Cfg E ops n env own F D S Φ L bs A a w→(∀j,j<ops.size→L.getD j false=true)→Wh E Q .normal a w:=fun L bs A a w hcf hd=>by
    have hdn:∀φ∈Φ,L.getD φ.i false=true:=fun φ hφ=>by
      obtain⟨o,ho,_⟩:=hF φ hφ
      exact hd _ (Array.getElem?_eq_some_iff.1 ho).1
    refine⟨_,h bs,A,hcf.sat.size,hcf.sat.defers,hcf.sat.keep,by rw[← KG hdn];exact hcf.sat.hp,fun s x hl=>?_,hcf.sat.facts⟩
    rcases Gp hl with ⟨φ,hφ,rfl,rfl⟩|hl
    · exact hcf.val φ hφ (hdn φ hφ)
    · exact hcf.sat.env s x hl
  have hdone:∀L bs A a w,Cfg E ops n env own F D S Φ L bs A a w→Region.ready .any ops L=[]→∀j,j<ops.size→L.getD j false=true:=by
    intro L bs A a w hcf hr j
    induction j using Nat.strongRecOn with
    |_ j ihj=>
      intro hjl
      cases hL:L.getD j false with
      |true=>rfl
      |false=>
        exfalso
        obtain⟨oj,hoj⟩:∃oj,ops[j]? =some oj:=⟨_,Array.getElem?_eq_getElem hjl⟩
        have:j∈Region.ready .any ops L:=Yr hcf.size hoj (by rw[Uh (by rw[hcf.size];exact hjl)];exact hL) fun e he hb=>by
          have hon:=Ym hbk (i:=j) (o:=oj) (by simpa using hoj) e he hb
          exact ihj e.on (by omega) (by omega)
        rw[hr]at this
        cases this
  induction fuel with
  |zero=>
    intro L bs A a w hc hcf
    have hnil:Region.ready .any ops L=[]:=by
      rw[List.eq_nil_iff_forall_not_mem]
      intro i hi
      obtain⟨hlt,o,ho,hun,_⟩:=Wb hi
      have:=List.countP_eq_zero.1 (Nat.le_zero.1 hc) i (by simpa using hlt)
      simp[hun]at this
    exact⟨hnil,hend L bs A a w hcf (hdone L bs A a w hcf hnil)⟩
  |succ fuel ih=>
    intro L bs A a w hc hcf
    refine⟨fun hr=>hend L bs A a w hcf (hdone L bs A a w hcf hr),fun j hj=>?_⟩
    obtain⟨hjl,oj,hoj,hunj,hdeps⟩:=Wb hj
    have hunj':L.getD j false=false:=by rw[← Uh (by rw[hcf.size];exact hjl)];exact hunj
    have h1:=List.all_eq_true.1 hall j (by simpa using hjl)
    rw[Bool.or_eq_true]at h1
    rcases h1 with h1|h1
    · rw[hcf.yes j (Q5.1 h1)]at hunj';cases hunj'
    · obtain⟨φ,hφ,rfl⟩:=List.mem_map.1 (Q5.1 h1)
      exact hcf.run hw hF hφ hunj' hjl (fun o' ho'=>by rw[hoj]at ho';cases ho';exact hdeps) fun bs' A' a' w' hcf'=>ih _ bs' A' a' w' (KW hcf.size hjl hunj hc) hcf'
theorem QV{id:Nat}{l:List Oper}(hm:P.follows .mixedOrders=true)(h:JX P E l.toArray [] [] ⟨n,U1 (WM l) env,own,F,D⟩ Q):J P E (.region id l.toArray true) ⟨n,env,own,F,D⟩ Q:=fun a w ⟨A,hA⟩=>by
  have h0:∀i,(Array.replicate l.toArray.size false).getD i false=false:=fun i=>by simp only[Array.getD_eq_getD_getElem?,Array.getElem?_replicate];split<;>simp
  have hd:=hA.drawn
  refine wpIn_region_any hm (h ⟨List.nodup_nil,List.nodup_nil,fun φ h=>(by cases h),fun φ h=>(by cases h)⟩ (fun φ h=>by cases h) l.toArray.size _ (fun _=>0) A a _ (Nat.le_trans List.countP_le_length (by simp)) ⟨by simp,fun i h=>(by cases h),fun i _ _=>h0 i,fun i o _ hL=>(by rw[h0]at hL;cases hL),?_,fun φ h=>by cases h⟩)
  have:XT (Array.replicate l.toArray.size false) (fun _=>0) []=[]:=rfl
  rw[this,List.append_nil]
  exact⟨hd.size,hd.defers,hd.keep,hd.hp,fun s y hl=>hd.env s y (WK (fun k=>!((WM l).any (Nat.beq k))) env s y hl).1,hd.facts⟩
theorem JX.one{S:List Nat}{Φ:List Flt}(i:Nat)(ms:List Bool){o:Oper}(ho:ops[i]? =some o)(hbk:Xi 0 ops.toList=true)(hblk:blkB ops.toList S (Φ.map (·.i)) i=true)(hS:memB i S=false)(hΦ:memB i (Φ.map (·.i))=false)
    (hlnd:R5 ops.toList o [] ((Q8 ms Φ).map (·.i))=true) (hfre:(Q0 ms Φ).all (·.fre)=true)
    (h:∀bs pe ex,JL P E ops [o] ⟨n,Ug bs (Q8 ms Φ)++(env++pe),own++(Uo bs (Q8 ms Φ)++ex),F,D⟩ (thenQ (fun s=>∃ev own',s.n=n∧s.env=ev++(Ug bs (Q8 ms Φ)++(env++pe))∧s.facts=F∧s.dfs=D∧ev.all (fun p=>o.dst==some p.1)=true∧Reown s.own (own'++ex)∧
      (match o.dst with|some d=>(Φ.all fun φ=>!Nat.beq φ.d d)=true∧lk env d=none|none=>True)∧okO own' (Q0 ms Φ)∧JX P E ops (i::((Q8 ms Φ).map (·.i)++S)) (Q0 ms Φ) ⟨n,ev++(Ug bs (Q8 ms Φ)++env),own',F,D⟩ Q) Q)):JX P E ops S Φ ⟨n,env,own,F,D⟩ Q:=
  .step i ms ho hbk hblk hS hΦ hlnd hfre fun bs pe ex a w hs=>by
    have:=h bs pe ex a w hs
    refine Kl this fun a' w' ⟨s,⟨ev,own',h1,h2,h3,h4,h5,h6,h7,h8,h9⟩,hs'⟩=>⟨s,⟨ev,_,own',h1,by rw[h2];simp,h3,h4,rfl,h5,h6,h7,h8,h9⟩,hs'⟩
theorem JX.conv{S S':List Nat}{Φ Φ':List Flt}{st st':St}(hS:S=S')(hΦ:Φ=Φ')(hst:st=st')(h:JX P E ops S' Φ' st' Q):JX P E ops S Φ st Q:=by subst hS hΦ hst;exact h
theorem QX.conv{Q:Exit→St→Prop}{st st':St}(h:st=st')(k:Q .normal st'):Q .normal st:=h▸k
theorem QM(k:Nat){l ex:List Own}(h:l.drop k=ex):Reown l (l.take k++ex):=.ofEq (by subst h;exact(List.take_append_drop k l).symm)
theorem U5(k:Nat){ms:List Cd}{ps l ex:List Own}(h:l.drop k=ex)(hl:Nat.ble ms.length (l.take k).length=true):Reown (QZ ms ps l) (QZ ms ps (l.take k)++ex):=by
  have:=Reown.perm (XM ms ps (l.take k) ex (Nat.le_of_ble_eq_true hl))
  rw[← h,List.take_append_drop]at this
  rw[← h];exact this
end

end
section
/- Short forms of the steps of a walk. -/
section
variable {P:Program} {E:Wy} {Q:Exit→St→Prop} {n:Nat} {env:List (Nat×AV)} {own:List Own} {F:List (Value×AV)} {D:List Deferred} {ops:Array Oper} {rest:List Oper} {o:Oper} {d:Nat} {x:AV} {S:List Nat} {Φ:List Flt} {st:St}
theorem Zq(h0:(o.guard,o.dst,Nat.blt d n)=(none,some d,true))(hq:QW P E ⟨n,env,own,F,D⟩ o x)(h:JL P E ops rest ⟨n,(d,x)::env,own,F,D⟩ Q):JL P E ops (o::rest) ⟨n,env,own,F,D⟩ Q:=by
  simp only[Prod.mk.injEq]at h0
  obtain⟨h1,h2,h3⟩:=h0
  exact JL.q h1 h2 h3 hq h
theorem Zg{j s:Nat}{want g:Bool}(h0:(o.guard,o.dst,Nat.blt d n,(ops[j]?).bind (·.dst),lk env s)=(some (j,want),some d,true,some s,some (.c (.bool g))))(hq:(g==want)=true→QW P E ⟨n,env,own,F,D⟩ o x)
    (h:JL P E ops rest ⟨n,(d,.wh (g==want) x)::env,own,F,D⟩ Q):JL P E ops (o::rest) ⟨n,env,own,F,D⟩ Q:=by
  simp only[Prod.mk.injEq]at h0
  obtain⟨h1,h2,h3,h4,h5⟩:=h0
  exact JL.g h1 h2 h3 h4 h5 hq h
theorem Zf(i:Nat)(sl:List Nat)(h0:(ops[i]?,o.dst,Nat.blt d n,memB i S,memB i (Φ.map (·.i)),Φ.all fun ψ=>!Nat.beq ψ.d d,lk env d,MN o sl Φ,o.guard)=(some o,some d,true,false,false,true,none,true,none))
    (hs:∀own',QW P E ⟨n,Kt sl Φ++env,own',F,D⟩ o x) (h:JX P E ops S (⟨i,d,.inl x,true,none⟩::Φ) ⟨n,env,own,F,D⟩ Q):JX P E ops S Φ ⟨n,env,own,F,D⟩ Q:=by
  simp only[Prod.mk.injEq]at h0
  obtain⟨h1,h2,h3,h4,h5,h6,h7,h8,h9⟩:=h0
  exact JX.f i sl h1 h2 h3 h4 h5 h6 h7 h8 (fun w=>Step.q h9 (hs w)) h
theorem Zh{j s:Nat}{want g:Bool}(i:Nat)(sl:List Nat)(h0:(ops[i]?,o.dst,Nat.blt d n,memB i S,memB i (Φ.map (·.i)),Φ.all fun ψ=>!Nat.beq ψ.d d,lk env d,MN o sl Φ,o.guard,(ops[j]?).bind (·.dst),lk (Kt sl Φ++env) s)=(some o,some d,true,false,false,true,none,true,some (j,want),some s,some (.c (.bool g))))
    (hs:∀own',(g==want)=true→QW P E ⟨n,Kt sl Φ++env,own',F,D⟩ o x) (h:JX P E ops S (⟨i,d,.inl (.wh (g==want) x),true,none⟩::Φ) ⟨n,env,own,F,D⟩ Q):JX P E ops S Φ ⟨n,env,own,F,D⟩ Q:=by
  simp only[Prod.mk.injEq]at h0
  obtain⟨h1,h2,h3,h4,h5,h6,h7,h8,h9,h10,h11⟩:=h0
  exact JX.f i sl h1 h2 h3 h4 h5 h6 h7 h8 (fun w=>Step.g h9 h10 h11 (hs w)) h
theorem Zo{en:Own}(i:Nat)(k:Nat)(sl:List Nat)(h0:(ops[i]?,o.dst,Nat.blt d n,memB i S,memB i (Φ.map (·.i)),Φ.all fun ψ=>!Nat.beq ψ.d d,lk env d,MN o sl Φ,own[k]?,o.guard)=(some o,some d,true,false,false,true,none,true,some en,none))
    (hs:∀own',own'[k]? =some en→QW P E ⟨n,Kt sl Φ++env,own',F,D⟩ o x) (h:JX P E ops S (⟨i,d,.inl x,true,some (k,en)⟩::Φ) ⟨n,env,own,F,D⟩ Q):JX P E ops S Φ ⟨n,env,own,F,D⟩ Q:=by
  simp only[Prod.mk.injEq]at h0
  obtain⟨h1,h2,h3,h4,h5,h6,h7,h8,h9,h10⟩:=h0
  exact JX.o i k sl h1 h2 h3 h4 h5 h6 h7 h8 h9 (fun w hw=>Step.q h10 (hs w hw)) h
theorem Zp{en:Own}{j s:Nat}{want g:Bool}(i:Nat)(k:Nat)(sl:List Nat)(h0:(ops[i]?,o.dst,Nat.blt d n,memB i S,memB i (Φ.map (·.i)),Φ.all fun ψ=>!Nat.beq ψ.d d,lk env d,MN o sl Φ,own[k]?,o.guard,(ops[j]?).bind (·.dst),lk (Kt sl Φ++env) s)=(some o,some d,true,false,false,true,none,true,some en,some (j,want),some s,some (.c (.bool g))))
    (hs:∀own',own'[k]? =some en→(g==want)=true→QW P E ⟨n,Kt sl Φ++env,own',F,D⟩ o x) (h:JX P E ops S (⟨i,d,.inl (.wh (g==want) x),true,some (k,en)⟩::Φ) ⟨n,env,own,F,D⟩ Q):JX P E ops S Φ ⟨n,env,own,F,D⟩ Q:=by
  simp only[Prod.mk.injEq]at h0
  obtain⟨h1,h2,h3,h4,h5,h6,h7,h8,h9,h10,h11,h12⟩:=h0
  exact JX.o i k sl h1 h2 h3 h4 h5 h6 h7 h8 h9 (fun w hw=>Step.g h10 h11 h12 (hs w hw)) h
theorem Zn{K:St→Prop}(h:K st):JL P E ops [] st (thenQ K Q):=JL.nil h
theorem Zs{id:Nat}{l:List Oper}{y:Code}(h:JL P E l.toArray l st (thenQ (fun s=>J P E y s Q) Q)):J P E (.seq (.region id l.toArray false) y) st Q:=J.seq (Qg h)
theorem Zk{K:St→Prop}(h:K st):J P E .skip st (thenQ K Q):=J.skip h
theorem Zr{fn:Func}{R:Wl→List Own→Prop}{s:St}{x:AV}(ms:List Cd)(h1:RetEv P fn s x)(h2:s.dfs=[])(h3:R (.ret x) (QI ms s.own)):retQ P fn R .ret s:=⟨_,QI ms _,_,h1,h2,Qk ms _,h3⟩
end
section
variable {P:Program} {E:Wy} {Q:Exit→St→Prop} {n:Nat} {env:List (Nat×AV)} {own:List Own} {F:List (Value×AV)} {D:List Deferred} {ops:Array Oper} {rest:List Oper} {st:St}
variable {d i:Nat} {ty t:TypeId} {pos:String} {af:Array Edge} {v:AV} {g fr:Bool} {m B:Nat} {b off f o o':Nat} {ys zs:List AV} {a:Addr}
theorem Ev.r(h:lk st.env i=some v):Ev E st (.tmp i) v:=.tmp h
theorem Zm(h0:(Nat.blt d n,lk env i)=(true,some v))(h:JL P E ops rest ⟨n,(d,v)::env,own,F,D⟩ Q):JL P E ops (⟨some d,.move (.tmp i),ty,pos,af,none⟩::rest) ⟨n,env,own,F,D⟩ Q:=by
  obtain⟨h1,h2⟩:=Prod.mk.inj h0
  exact JL.q rfl rfl h1 (QW.move (.tmp h2)) h
theorem Za(h0:(Nat.blt d n,lk env i)=(true,some v))(h:JL P E ops rest ⟨n,(d,v)::env,own,F,D⟩ Q):JL P E ops (⟨some d,.assign (.tmp i),ty,pos,af,none⟩::rest) ⟨n,env,own,F,D⟩ Q:=by
  obtain⟨h1,h2⟩:=Prod.mk.inj h0
  exact JL.q rfl rfl h1 (QW.assign (.tmp h2)) h
theorem Zd(hF:Qu P t f=some o)(h0:(Nat.blt d n,lk env i,off+o)=(true,some (.c (.pointer (some ⟨b,off,none⟩))),o'))(h:JL P E ops rest ⟨n,(d,.c (.pointer (some ⟨b,o',none⟩)))::env,own,F,D⟩ Q):
    JL P E ops (⟨some d,.fieldAddr t (.tmp i) f,ty,pos,af,none⟩::rest) ⟨n,env,own,F,D⟩ Q:=by
  simp only[Prod.mk.injEq]at h0
  obtain⟨h1,h2,h3⟩:=h0
  exact JL.q rfl rfl h1 (Qf hF (.tmp h2) h3) h
theorem Zl(k:Nat)(hT:Un P t=some (false,m,B))(h0:(Nat.blt d n,lk env i,own[k]?,ys[off]?)=(true,some (.c (.pointer (some ⟨b,off,none⟩))),some (.box b ys),some v))(h:JL P E ops rest ⟨n,(d,v)::env,own,F,D⟩ Q):
    JL P E ops (⟨some d,.load t (.tmp i),ty,pos,af,none⟩::rest) ⟨n,env,own,F,D⟩ Q:=by
  simp only[Prod.mk.injEq]at h0
  obtain⟨h1,h2,h3,h4⟩:=h0
  exact JL.q rfl rfl h1 (Qb k hT (.tmp h2) h3 h4) h
theorem Zu(h0:(Nat.blt d n,lk env i)=(true,some (.c (.pointer (some a)))))(h:JL P E ops rest ⟨n,(d,.c (.pointer (some a)))::env,own,F,D⟩ Q):JL P E ops (⟨some d,.nilCheck (.tmp i),ty,pos,af,none⟩::rest) ⟨n,env,own,F,D⟩ Q:=by
  obtain⟨h1,h2⟩:=Prod.mk.inj h0
  exact JL.q rfl rfl h1 (W6 (.tmp h2)) h
theorem Ze(hF:Qu P t f=some o)(h0:(Nat.blt d n,lk env i,ys.drop o)=(true,some (.ref fr ys),zs))(h:JL P E ops rest ⟨n,(d,.ref fr zs)::env,own,F,D⟩ Q):
    JL P E ops (⟨some d,.fieldAddr t (.tmp i) f,ty,pos,af,none⟩::rest) ⟨n,env,own,F,D⟩ Q:=by
  simp only[Prod.mk.injEq]at h0
  obtain⟨h1,h2,h3⟩:=h0
  exact JL.q rfl rfl h1 (QL hF (.tmp h2) h3) h
theorem Zt(hT:Un P t=some (false,m,B))(h0:(Nat.blt d n,lk env i,ys[0]?)=(true,some (.ref fr ys),some v))(h:JL P E ops rest ⟨n,(d,v)::env,own,F,D⟩ Q):
    JL P E ops (⟨some d,.load t (.tmp i),ty,pos,af,none⟩::rest) ⟨n,env,own,F,D⟩ Q:=by
  simp only[Prod.mk.injEq]at h0
  obtain⟨h1,h2,h3⟩:=h0
  exact JL.q rfl rfl h1 (Qv hT (.tmp h2) h3) h
theorem Zx(h0:(Nat.blt d n,lk env i,ys[f]?)=(true,some (.tup ys),some v))(h:JL P E ops rest ⟨n,(d,v)::env,own,F,D⟩ Q):JL P E ops (⟨some d,.extract (.tmp i) f,ty,pos,af,none⟩::rest) ⟨n,env,own,F,D⟩ Q:=by
  simp only[Prod.mk.injEq]at h0
  obtain⟨h1,h2,h3⟩:=h0
  exact JL.q rfl rfl h1 (QW.extract (.tmp h2) h3) h
end
theorem nl:(∀{α:Type} (a:α),id a=a)∧(∀{α β:Type} (f:α→β) (a:α) (l:List α),(a::l).map f=f a::l.map f)∧(∀{α β:Type} (f:α→β),([]:List α).map f=[])∧(∀{α:Type} (a:α) (l:List α),(a::l).reverse=l.reverse++[a])∧
    (∀{α:Type},([]:List α).reverse=[])∧(∀{α:Type} (l:List α),[]++l=l)∧(∀{α:Type} (a:α) (l k:List α),(a::l)++k=a::(l++k))∧(∀{α:Type} (l:List α),l++[]=l)∧(∀{α:Type} (a:α) (l:List α),(a::l)[0]? =some a)∧(∀{α:Type} (a:α) (l:List α) (i:Nat),(a::l)[i+1]? =l[i]?)∧
    (∀{α β:Type} (f:α→β) (a:α),(some a).map f=some (f a))∧(∀{α:Type} (a b:α),(some a).getD b=a)∧(∀{α:Type} (a b:α) (l:List α),(a::l).set 0 b=b::l)∧(∀{α:Type} (a b:α) (l:List α) (i:Nat),(a::l).set (i+1) b=a::l.set i b)∧(∀n:Nat,0+n=n):=
  ⟨id_eq,fun _ _ _=>rfl,fun _=>rfl,fun _ _=>List.reverse_cons,rfl,fun _=>rfl,fun _ _ _=>rfl,List.append_nil,fun _ _=>rfl,fun _ _ _=>rfl,fun _ _=>rfl,fun _ _=>rfl,fun _ _ _=>rfl,fun _ _ _ _=>rfl,Nat.zero_add⟩
theorem nx:(∀{α:Type} (a b c:List α),a++b++c=a++(b++c))∧(∀{α:Type} (a:α) (l:List α) (i:Nat),(a::l).take (i+1)=a::l.take i)∧(∀{α:Type} (l:List α),l.take 0=[])∧(∀{α:Type} (a b:List α),List.append a b=a++b):=
  ⟨List.append_assoc,fun _ _ _=>rfl,fun _=>rfl,fun _ _=>rfl⟩
theorem vl{fr:Bool}{v:V}:(v.cs fr).length=5:=V.cs_length _ _
theorem wl{fr:Bool}{l:List V}:(V.css fr l).length=l.length:=V.css_length _ _
theorem xl{fr:Bool}{v:EX}:(v.cs fr).length=4:=EX.cs_length _ _
theorem lr{F:List (Value×AV)}{x:AV}:Le F x x:=.refl _

end
section
/- Owned trees taken apart. -/
theorem HG(ms:List Cd)(own:List Own){own':List Own}(h:QI ms own=own'):Reown own own':=by
  subst h
  exact(Reown.perm ((Qk ms own).trans List.perm_append_comm)).trans (Reown.drop _ _)
theorem Wm{a b o:Own}{l:List Own}(h:OwnEq (.grp [a,b]) o):Reown (o::l) (a::b::l):=(Reown.eq h.symm).trans (WI [a,b] l)
theorem TJ{o1 o2 a b c d:Own}(h1:OwnEq (.grp [a,b]) o1)(h2:OwnEq (.grp [c,d]) o2):Reown [o1,o2] [a,c,d]:=
  (Wm h1).trans ((Reown.cons (Reown.cons (Wm h2))).trans (HG [.p,.k,.p,.p] _ rfl))
theorem Tr.inv{e:U7}{xs:List (List AV)}{v:Value}{o:Own}(h:Tr (.sl true false e xs) v o):
    ∃cs us o1,cs.flatten=us.map AV.c∧cs.length=xs.length∧(∀x∈cs,x.length=e.sz)∧us.all (·.oneCell')=true∧TrL xs.flatten us o1∧OwnEq (.grp [.arr v e cs,o1]) o:=by
  cases h with
  |sl h1 h2 h3 h4 h5 h6 h ho=>exact⟨_,_,_,h1,h2,h4,h5,h,ho⟩
theorem Tr.c_inv{u v:Value}{o:Own}(h:Tr (.c u) v o):v=u:=by cases h;rfl
theorem TrL.cons_inv{y:AV}{ys:List AV}{us:List Value}{o:Own}(h:TrL (y::ys) us o):∃u us' a b,us=u::us'∧Tr y u a∧TrL ys us' b∧OwnEq (.grp [a,b]) o:=by
  cases h with
  |cons h hs ho=>exact⟨_,_,_,_,rfl,h,hs,ho⟩
theorem TrL.nil_inv{us:List Value}{o:Own}(h:TrL [] us o):us=[]:=by cases h;rfl
theorem TrL.value{x:V}{us:List Value}{o:Own}(h:TrL (x.cs true) us o)(h1:us.all (·.oneCell')=true):∃kv iv ok oi,us=x.vals kv iv∧VTr x kv iv ok oi∧Reown [o] [ok,oi]:=by
  obtain⟨k,b,t,ks,is⟩:=x
  unfold V.cs at h
  obtain⟨u0,us0,a0,b0,rfl,g0,h,e0⟩:=h.cons_inv
  obtain⟨u1,us1,a1,b1,rfl,g1,h,e1⟩:=h.cons_inv
  obtain⟨u2,us2,a2,b2,rfl,g2,h,e2⟩:=h.cons_inv
  obtain⟨u3,us3,a3,b3,rfl,g3,h,e3⟩:=h.cons_inv
  obtain⟨u4,us4,a4,b4,rfl,g4,h,e4⟩:=h.cons_inv
  obtain rfl:=h.nil_inv
  obtain rfl:=g0.c_inv
  obtain rfl:=g1.c_inv
  obtain rfl:=g2.c_inv
  simp only[List.all_cons,List.all_nil,Bool.and_eq_true,Bool.and_true]at h1
  refine⟨u3,u4,a3,a4,rfl,⟨h1.2.2.2.1,h1.2.2.2.2,g3,g4⟩,?_⟩
  have s0:Reown [o] [b0]:=(Wm e0).trans (Q3 1 _ rfl)
  have s1:Reown [b0] [b1]:=(Wm e1).trans (Q3 1 _ rfl)
  have s2:Reown [b1] [b2]:=(Wm e2).trans (Q3 1 _ rfl)
  have s3:Reown [b2] [a3,a4]:=(Wm e3).trans ((Reown.cons (Wm e4)).trans (HG [.p,.p] _ rfl))
  exact s0.trans (s1.trans (s2.trans s3))
theorem Dy{u1 u2:List Value}{c:List AV}{cs:List (List AV)}(h:(c::cs).flatten=(u1++u2).map AV.c)(hl:c.length=u1.length):c=u1.map AV.c∧cs.flatten=u2.map AV.c:=by
  rw[List.flatten_cons,List.map_append]at h
  exact List.append_inj h (by simpa using hl)
theorem C6{is:List V}{cs:List (List AV)}{us:List Value}{o:Own}{j:Nat}(hlt:j<is.length)(hl:cs.length=is.length)(h3:∀x∈cs,x.length=5)(hf:(cs.drop j).flatten=us.map AV.c)(h1:us.all (·.oneCell')=true)(h:TrL (V.css true (is.drop j)).flatten us o):
    ∃kv iv ok oi us2 o2,cs[j]? =some ((is[j]'hlt).raw kv iv)∧VTr (is[j]'hlt) kv iv ok oi∧(cs.drop (j+1)).flatten=us2.map AV.c∧us2.all (·.oneCell')=true∧TrL (V.css true (is.drop (j+1))).flatten us2 o2∧Reown [o] [ok,oi,o2]:=by
  rw[List.drop_eq_getElem_cons hlt,V.css,List.flatten_cons]at h
  obtain⟨u1,u2,o1,o2,rfl,g1,g2,g3⟩:=h.split
  rw[List.all_append,Bool.and_eq_true]at h1
  obtain⟨kv,iv,ok,oi,rfl,hV,hR⟩:=g1.value h1.1
  have hj:j<cs.length:=by omega
  rw[List.drop_eq_getElem_cons hj]at hf
  obtain⟨k1,k2⟩:=Dy hf (by rw[h3 _ (List.getElem_mem hj)];rfl)
  refine⟨kv,iv,ok,oi,u2,o2,by rw[List.getElem?_eq_getElem hj,k1];rfl,hV,k2,h1.2,g2,?_⟩
  have s1:Reown [o] [o1,o2]:=Wm g3
  have s2:Reown [o1,o2] [ok,oi,o2]:=(Reown.perm (List.Perm.swap _ _ _)).trans ((Reown.left (c:=[o2]) hR).trans (Reown.perm (by
    simpa using (List.perm_append_comm (l₁:=[o2]) (l₂:=[ok,oi])))))
  exact s1.trans s2

end
section
/- Expressions: which may be, how many parts, how deep, which are one; own trees; octets. -/
mutual
/-- The first error of a walk, and the parts so far. -/
def EX.chk:EX→Int→Int→Int×Int
  |.mk o b t l,lev,n=>if 8<lev then(10,n)else if 64≤n then(3,n)else if(EX.mk o b t l).ok=false then(9,n)else EX.chks l lev (n+1)
def EX.chks:List EX→Int→Int→Int×Int
  |[],_,n=>(0,n)
  |x::r,lev,n=>if(x.chk (lev+1) n).1≠0 then x.chk (lev+1) n else EX.chks r lev (x.chk (lev+1) n).2
end
mutual
def EX.depth:EX→Int
  |.mk _ _ _ l=>1+EX.depths l
def EX.depths:List EX→Int
  |[]=>0
  |x::r=>max x.depth (EX.depths r)
end
def EX.err(v:EX):Int:=(v.chk 1 0).1
def EX.cnt(v:EX):Int:=(v.chk 1 0).2
mutual
def EX.same:EX→EX→Bool
  |.mk o b t l,.mk o' b' t' l'=>o==o'&&b==b'&&t==t'&&EX.sames l l'
def EX.sames:List EX→List EX→Bool
  |[],[]=>true
  |x::r,y::s=>x.same y&&EX.sames r s
  |_,_=>false
end
mutual
theorem EX.chk_bounds:∀(v:EX) (lev n:Int),n≤(v.chk lev n).2∧(n≤64→(v.chk lev n).2≤64)
  |.mk o b t l,lev,n=>by
    unfold EX.chk
    split
    · exact⟨Int.le_refl _,id⟩
    · split
      · exact⟨Int.le_refl _,id⟩
      · split
        · exact⟨Int.le_refl _,id⟩
        · have:=EX.chks_bounds l lev (n+1)
          exact⟨by omega,fun h=>this.2 (by omega)⟩
theorem EX.chks_bounds:∀(l:List EX) (lev n:Int),n≤(EX.chks l lev n).2∧(n≤64→(EX.chks l lev n).2≤64)
  |[],lev,n=>⟨Int.le_refl _,id⟩
  |x::r,lev,n=>by
    unfold EX.chks
    have h1:=EX.chk_bounds x (lev+1) n
    split
    · exact h1
    · have h3:=EX.chks_bounds r lev (x.chk (lev+1) n).2
      exact⟨by omega,fun h=>h3.2 (h1.2 h)⟩
end
theorem EX.depths_nonneg:∀l:List EX,0≤EX.depths l
  |[]=>Int.le_refl _
  |x::r=>by unfold EX.depths;have:=EX.depths_nonneg r;omega
mutual
theorem EX.chk_depth:∀(v:EX) (lev n:Int),(v.chk lev n).1=0→lev+v.depth≤9∧1≤v.depth
  |.mk o b t l,lev,n,h=>by
    unfold EX.chk at h
    split at h
    · simp at h
    · split at h
      · simp at h
      · split at h
        · simp at h
        · have:=EX.chks_depth l lev (n+1) h
          have h0:=EX.depths_nonneg l
          unfold EX.depth
          omega
theorem EX.chks_depth:∀(l:List EX) (lev n:Int),(EX.chks l lev n).1=0→EX.depths l=0∨lev+EX.depths l≤8
  |[],lev,n,h=>.inl rfl
  |x::r,lev,n,h=>by
    unfold EX.chks at h
    split at h
    · rename_i h';exact absurd h h'
    · rename_i h'
      have h1:=EX.chk_depth x (lev+1) n (by simpa using h')
      have h2:=EX.chks_depth r lev _ h
      right
      unfold EX.depths
      omega
end
inductive EX.Fine:EX→Prop
  |mk {o:Int} {b:Nat} {t:QN} {l:List EX} (h:(EX.mk o b t l).ok=true) (h':∀x∈l,EX.Fine x):EX.Fine (.mk o b t l)
mutual
theorem EX.fine_chk:∀(v:EX) (lev n:Int),(v.chk lev n).1=0→v.Fine
  |.mk o b t l,lev,n,h=>by
    unfold EX.chk at h
    split at h
    · simp at h
    · split at h
      · simp at h
      · split at h
        · simp at h
        · rename_i h3
          exact .mk (by simpa using h3) (EX.fine_chks l lev (n+1) h)
theorem EX.fine_chks:∀(l:List EX) (lev n:Int),(EX.chks l lev n).1=0→∀x∈l,x.Fine
  |[],lev,n,h=>fun x hx=>by cases hx
  |y::r,lev,n,h=>by
    unfold EX.chks at h
    split at h
    · rename_i h';exact absurd h h'
    · rename_i h'
      intro x hx
      rcases List.mem_cons.1 hx with hxy|hx
      · rw[hxy];exact EX.fine_chk _ _ _ (by simpa using h')
      · exact EX.fine_chks r _ _ h x hx
end
theorem EX.fine_of{v:EX}(h:v.err=0):v.Fine:=EX.fine_chk v 1 0 h
theorem EX.Fine.part{v:EX}(h:v.Fine):v.ok=true:=by cases h;assumption
theorem EX.Fine.kid{v x:EX}(h:v.Fine)(hx:x∈v.args):x.Fine:=by cases h with|mk _ h=>exact h x hx
theorem Hb{o:Int}{b:Nat}{t:QN}{l:List EX}(h:(EX.mk o b t l).ok=true):0≤o∧o<30∧t.length≤128∧l.length≤8:=by
  simp only[EX.ok,Bool.and_eq_true,decide_eq_true_eq]at h
  obtain⟨⟨⟨⟨⟨h1,-⟩,h2⟩,-⟩,h3⟩,-⟩:=h
  simp only[EX.op,EX.args,EX.text]at h1 h2 h3
  have h4:0≤o∧o<30:=by
    by_cases hh:o<0∨30≤o
    · exact absurd (by unfold Uw;rw[if_pos hh]) h1
    · omega
  have h5:UP o≤128:=by unfold UP;repeat' split<;>omega
  exact⟨h4.1,h4.2,by omega,by omega⟩
/-! ### own trees -/
def EX.raw(v:EX)(iv:Value):List AV:=[.c (.int .i64 v.op),.c (.int .u64 (v.bits:Int)),.c (Q4 v.text),.c iv]
def EX.vals(v:EX)(iv:Value):List Value:=[.int .i64 v.op,.int .u64 (v.bits:Int),Q4 v.text,iv]
theorem EX.raw_eq(v:EX)(iv:Value):v.raw iv=(v.vals iv).map AV.c:=rfl
structure ETr(v:EX)(iv:Value)(oi:Own):Prop where
  i1:iv.oneCell'=true
  is:Tr (.sl true false RB (EX.css true v.args)) iv oi
theorem ETr.trL{v:EX}{iv:Value}{oi:Own}(h:ETr v iv oi):TrL (v.cs true) (v.vals iv) oi:=by
  obtain⟨o,b,t,l⟩:=v
  have hn:TrL [] [] (.grp []):=.nil (.refl _)
  refine .cons (.c (.refl _)) (.cons (.c (.refl _)) (.cons (.c (.refl _)) (.cons h.is hn (o'':=oi) ?_) (.drops _)) (.drops _)) (.drops _)
  exact(OwnEq.grp_perm (List.Perm.swap _ _ _)).trans (.drops _)
theorem ETr.ones{v:EX}{iv:Value}{oi:Own}(h:ETr v iv oi):(v.vals iv).all (·.oneCell')=true:=by
  simp[EX.vals,h.i1]
  exact⟨rfl,rfl,rfl⟩
theorem Py{v:Value}{is:List EX}{cells:List (List AV)}{us:List Value}{o:Own}(h1:cells.flatten=us.map AV.c)(h2:cells.length=is.length)(h3:∀x∈cells,x.length=4)(h5:us.all (·.oneCell')=true)(h6:is.length*56≤Qr)
    (h:TrL (EX.css true is).flatten us o):Tr (.sl true false RB (EX.css true is)) v (.grp [.arr v RB cells,o]):=
  .sl h1 (by rw[h2,EX.css_length]) (EX.css_sz true is) h3 h5 (by rw[EX.css_length];exact h6) h (.refl _)
def PZ(v:EX):AV→List Own→Prop:=fun x o=>∃iv oi,x=.agg (v.raw iv)∧o=[oi]∧ETr v iv oi
structure EKids(is:List EX)(cells:List (List AV))(us:List Value)(o:Own):Prop where
  h1:cells.flatten=us.map AV.c
  h2:cells.length=is.length
  h3:∀x∈cells,x.length=4
  h5:us.all (·.oneCell')=true
  h:TrL (EX.css true is).flatten us o
theorem EKids.nil:EKids [] [] [] (.grp []):=⟨rfl,rfl,(fun _ h=>by cases h),rfl,.nil (.refl _)⟩
theorem EKids.snoc{is:List EX}{cells:List (List AV)}{us:List Value}{o oi:Own}{v:EX}{iv:Value}(h:EKids is cells us o)(hv:ETr v iv oi):EKids (is++[v]) (cells++[v.raw iv]) (us++v.vals iv) (.grp [o,oi]):=by
  refine⟨by simp[h.h1,EX.raw_eq],by simp[h.h2],fun x hx=>?_,by rw[List.all_append,h.h5,hv.ones];rfl,?_⟩
  · rcases List.mem_append.1 hx with hx|hx
    · exact h.h3 x hx
    · simp only[List.mem_singleton]at hx;subst hx;rfl
  · rw[EX.css_append,List.flatten_append]
    refine h.h.append ?_ (.refl _)
    simpa[EX.css]using hv.trL
theorem EKids.tr{is:List EX}{cells:List (List AV)}{us:List Value}{o:Own}(h:EKids is cells us o){v:Value}(h6:is.length*56≤Qr):Tr (.sl true false RB (EX.css true is)) v (.grp [.arr v RB cells,o]):=
  Py h.h1 h.h2 h.h3 h.h5 h6 h.h
theorem EX.raw_le{F:List (Value×AV)}{v:EX}{iv:Value}{fr:Bool}(hi:(iv,.sl fr false RB (EX.css fr v.args))∈F):Le F (.agg (v.raw iv)) (.agg (v.cs fr)):=by
  obtain⟨o,b,t,l⟩:=v
  exact .aggL (.cons (.refl _) (.cons (.refl _) (.cons (.refl _) (.cons (.fact hi (.refl _)) .nil))))
theorem ETr.closG{v:EX}{iv:Value}{oi:Own}(h:ETr v iv oi)(w:World)(A:QS)(hok:∀y∈[oi],y.ok w A)(hb:∀b∈UM [oi],∀fr,A fr b):
    ∀p∈[(iv,AV.sl true false RB (EX.css true v.args))],Rd w A p.1 p.2:=fun p hp=>by
  obtain rfl:=List.mem_singleton.1 hp
  simp only[QT,UW,List.append_nil]at hb
  exact h.is.rd (hok _ (by simp)) fun b hb'=>hb b hb' true
theorem D7{P:Program}{f:FuncId}{xs:List AV}{v:EX}(h:AC P f [] xs (YV (PZ v))):Fn P f xs (.agg (v.cs true)):=
  Fn.close h fun x o ⟨iv,oi,hx,ho,hV⟩=>by
    subst hx ho
    exact⟨_,hV.closG,EX.raw_le (by simp)⟩

end
section
/- Walks: numbers (the package float), first part. -/
set_option maxRecDepth 10000
set_option maxHeartbeats 4000000
theorem BH(b:Nat):Fn Tryz.prog 229 [.c (Yv b)] (.c (.int .u64 (UT b:Int))):=by
  refine AC.of_J Tryz.func229 rfl Tryz.ntmps229 rfl fun w0 A0=>?_
  refine Zs (Zq rfl (QW.assign .const) (Zn (J.seq (Zs (Zm rfl (Zm rfl (Zq rfl (G9 (.r rfl) (.r rfl)) (Zn ?_))))))))
  refine J.cond (.r rfl) (fun c1=>?_) (fun c1=>?_)
  · skip
    refine Zs (Zq rfl (QW.assign .const) (Zn (J.ret (thenQ.r ?_))))
    exact⟨_,[],_,RetEv.one rfl (REv.tmp rfl lr),rfl,List.Perm.refl _,by rw[Y4]at c1;simp[UT,c1,NL],rfl⟩
  · skip
    refine Zk (Zs (Zm rfl (Zq rfl (QW.ext (Ls _) (.r rfl)) (Za rfl (Zn (J.ret ?_))))))
    exact⟨_,[],_,RetEv.one rfl (REv.tmp rfl lr),rfl,List.Perm.refl _,by rw[Y4]at c1;simp[UT,c1],rfl⟩
theorem L9(b:Nat):Fn Tryz.prog 207 [.c (.int .u64 (b:Int))] (.c (.int .u64 (UT b:Int))):=by
  refine AC.of_J Tryz.func207 rfl Tryz.ntmps207 rfl fun w0 A0=>?_
  refine Zs (Zq rfl (QW.assign .const) (Zn (Zs (Zm rfl (Zq rfl (QW.ext (Xx _) (.r rfl)) (Zq rfl (QW.call N0 (.cons (.r rfl) .nil) (by(apply BH<;>first|assumption|omega))) ?_))))))
  refine Za rfl (Zn (J.ret ?_))
  exact⟨_,[],_,RetEv.one rfl (REv.tmp rfl lr),rfl,List.Perm.refl _,rfl,rfl⟩

end
section
/- Walks: the value package, one part. -/
set_option maxRecDepth 10000
set_option maxHeartbeats 4000000
theorem BW(s:QN):Fn Tryz.prog 230 [.c (Q4 s)] (.c (.bool (M6 s))):=by
  refine AC.of_J Tryz.func230 rfl Tryz.ntmps230 rfl fun w0 A0=>?_
  refine Zs (Zq rfl (QW.assign .const) (Zn (Zs (Zm rfl (Zq rfl (Wp (.r rfl) .const) (Zm rfl (Zg rfl (fun hg=>(QW.move (.r rfl))) (Zg rfl (fun hg=>(U3 Mx (.when rfl hg))) (Zg rfl (fun hg=>(QW.leq (.when rfl hg) .const)) ?_)))))))))
  exact Zq rfl (QW.pick_and (.r rfl) (.r rfl)) (Za rfl (Zn (J.ret (Zr [] (RetEv.one rfl (REv.tmp rfl lr)) rfl ⟨by simp only[M6];congr 3;rw[Bool.eq_iff_iff];cases s<;>simp[bne]<;>omega,rfl⟩))))
theorem Xr{ks:List QN}{i:Nat}(h:i<ks.length):(QP ks)[i]? =some [.c (Q4 (ks.getD i []))]:=by simp[QP,h]
theorem WV:∀(a b:List UInt8),(Op.bytesLess a b||a==b)=!Op.bytesLess b a
  |[],[]=>by simp[Op.bytesLess]
  |[],y::b=>by simp[Op.bytesLess]
  |x::a,[]=>by simp[Op.bytesLess]
  |x::a,y::b=>by
    have ih:=WV a b
    simp only[Op.bytesLess]
    by_cases h:x<y
    · have h':¬y<x:=fun h'=>by have:=UInt8.lt_iff_toNat_lt.1 h;have:=UInt8.lt_iff_toNat_lt.1 h';omega
      have hne:(y==x)=false:=by simp;intro e;subst e;exact h' h
      simp[h,h',hne]
    · by_cases he:x=y
      · subst he
        simpa[h]using ih
      · have h':y<x:=by
          have hn:¬x.toNat<y.toNat:=fun hh=>h (UInt8.lt_iff_toNat_lt.2 hh)
          have hn2:x.toNat≠y.toNat:=fun hh=>he (UInt8.toNat_inj.1 hh)
          exact UInt8.lt_iff_toNat_lt.2 (by omega)
        have hne:(x==y)=false:=by simpa using he
        simp[h,h',hne]
theorem EE(fr:Bool)(l:List QN)(hl:l.length≤9223372036854775806):Fn Tryz.prog 208 [.sl fr false Wz (QP l)] (.c (.bool (Hr l))):=by
  refine AC.of_J Tryz.func208 rfl Tryz.ntmps208 rfl fun w0 A0=>?_
  refine Zs (Zq rfl (QW.assign .const) (Zn (J.seq (Zs (Zm rfl (Zq rfl (Qw Ue (.r rfl)) (Zq rfl (QW.move .const) (Zn (J.block ?_)))))))))
  refine Ua (ι:=Nat) [0,5,6] (fun k=>[(7,.c (.int .i64 (k:Int)))]) (fun _ oo=>oo) (fun k=>k≤l.length∧(List.range k).all (HY l)=true) (fun k=>l.length-k) 0 (by simp) (QQ (.cons rfl lr (.cons rfl lr (.cons rfl lr (.cons rfl lr .nil)))) (Reown.refl _) (fun _ h=>by first|exact h|simp[h])) ?_
  intro k ⟨hk,hall⟩
  refine J.conv (by(try simp only[nl,Qj,QA,QC,Qy,QZ,AV.cellsOf,Qc,Qd,Nat.reduceAdd]);rfl) ?_
  refine Zs (Zq rfl (QW.lss (.r rfl) (.r rfl)) (Zn (J.seq ?_)))
  refine J.cond (.r rfl) (fun c1=>?_) (fun c1=>?_)
  · skip
    simp[Qp]at c1
    refine Zk (J.seq (J.block (Zs (Zm rfl (Zq rfl (Qi Ue UO rfl (.r rfl) (.r rfl) rfl (by exact Xr (by omega))) ?_)))))
    refine Zt UO rfl (Za rfl (Za rfl (Zn (Zs (Zm rfl (Zq rfl (QW.call ES (.cons (.r rfl) .nil) (BW _)) (Zq rfl (QW.not (.r rfl)) (Zm rfl (Zg rfl (fun hg=>(QW.move (.r rfl))) ?_)))))))))
    refine Zg rfl (fun hg=>(QW.gtr (.when rfl hg) .const)) (Zg rfl (fun hg=>(QW.move (.when rfl hg))) (JL.gg rfl rfl rfl rfl rfl (fun hg=>(QW.move (.r rfl))) (JL.gg rfl rfl rfl rfl rfl (fun hg=>(QW.move (.r rfl))) (JL.gg rfl rfl rfl rfl rfl (fun hg=>(QW.sub (.when rfl hg) .const (Yy (by omega)))) (JL.gg rfl rfl rfl rfl rfl (fun hg=>Qi (m:=k-1) Ue UO rfl (.when rfl hg) (.when rfl hg) (by simp at hg;omega) (Xr (by omega))) ?_)))))
    refine JL.gg rfl rfl rfl rfl rfl (fun hg=>(Qv UO (.when rfl hg) rfl)) (JL.gg rfl rfl rfl rfl rfl (fun hg=>(QW.move (.r rfl))) (JL.gg rfl rfl rfl rfl rfl (fun hg=>(PR (.when rfl hg) (.when rfl hg))) (Zg rfl (fun hg=>(YZ hg (.when rfl hg) (.r rfl))) (Zq rfl (QW.pick_or (.r rfl) (.r rfl)) (Zn ?_)))))
    refine J.cond (.r rfl) (fun c2=>?_) (fun c2=>?_)
    · skip
      have hbad:HY l k=false:=by
        simp[HY]at c2⊢
        grind
      exact Zs (Zq rfl (QW.assign .const) (Zn (J.ret (blkQ.r (thenQ.r (thenQ.r (blkQ.r (thenQ.r (Zr [] (RetEv.one rfl (REv.tmp rfl lr)) rfl ⟨by rw[Hr,Lb (by omega) hbad],rfl⟩)))))))))
    have hgood:HY l k=true:=by
      simp[HY]at c2⊢
      grind
    refine J.skip (blkQ.n (thenQ.n (Qg (Zq rfl (QW.add (.r rfl) .const (Yy (by omega))) (Zm rfl (Zn ?_))))))
    exact⟨k+1,⟨by omega,Mc hall hgood⟩,by omega,QQ (.cons rfl lr (.cons rfl lr (.cons rfl lr (.cons rfl lr .nil)))) (Reown.refl _) (fun _ h=>by first|exact h|simp[h])⟩
  simp[Qp]at c1
  exact J.exit (Qz (Qz (QY (thenQ.n (Zs (Zq rfl (QW.assign .const) (Zn (J.ret (Zr [] (RetEv.one rfl (REv.tmp rfl lr)) rfl ⟨by rw[Hr,show l.length=k by omega,hall],rfl⟩)))))))))
def Wj:V→Bool
  |.mk k b t ks is=>(k==1||k==2||b==0)&&(k==3||t==[])&&(k==5||ks.length==0)&&(!(k==0||k==1||k==2||k==3)||is.length==0)
theorem bare_ok{fr:Bool}{v:V}{ys:List AV}(hv:Vc fr v ys):Fn Tryz.prog 206 [.agg ys] (.c (.bool (Wj v))):=by
  obtain⟨k,b,t,ks,is⟩:=v
  subst hv
  refine AC.of_J Tryz.func206 rfl Tryz.ntmps206 rfl fun w0 A0=>?_
  refine Zs (Qs (.r rfl) rfl fun b1=>Zq rfl (QW.assign .const) (Zn (Zs (Zd UZ rfl (Zl 0 UA rfl (Zq rfl (QW.eql (.r rfl) .const) (Zm rfl (Zg rfl (fun hg=>(Qf UZ (.r rfl) rfl)) ?_))))))))
  refine Zg rfl (fun hg=>(Qb 0 UA (.when rfl hg) rfl rfl)) (Zg rfl (fun hg=>(QW.eql (.when rfl hg) .const)) (Zq rfl (QW.pick_or (.r rfl) (.r rfl)) (Zm rfl (Zg rfl (fun hg=>(Qf UZ (.r rfl) rfl)) (Zg rfl (fun hg=>(Qb 0 UA (.when rfl hg) rfl rfl)) (Zg rfl (fun hg=>(QW.eql (.when rfl hg) .const)) (Zq rfl (QW.pick_or (.r rfl) (.r rfl)) (Za rfl (Zn ?_)))))))))
  refine J.seq (J.block (Zs (Zd UZ rfl (Zl 0 UA rfl (Zq rfl (QW.neq (.r rfl) .const) (Zm rfl (Zg rfl (fun hg=>(Qf UZ (.r rfl) rfl)) (Zg rfl (fun hg=>(Qb 0 UA (.when rfl hg) rfl rfl)) (Zg rfl (fun hg=>(QW.neq (.when rfl hg) .const)) ?_)))))))))
  refine Zq rfl (QW.pick_and (.r rfl) (.r rfl)) (Zm rfl (Zg rfl (fun hg=>(Qf UE (.r rfl) rfl)) (Zg rfl (fun hg=>(Qb 0 WQ (.when rfl hg) rfl rfl)) (Zg rfl (fun hg=>(QW.neq (.when rfl hg) .const)) (Zq rfl (QW.pick_and (.r rfl) (.r rfl)) (Za rfl (Zn ?_)))))))
  refine J.cond (.r rfl) (fun c1=>?_) (fun c1=>?_)
  · skip
    exact J.skip (blkQ.n (thenQ.n (Zs (Zq rfl (QW.assign .const) (Zn (J.ret (Zr [.k] (RetEv.one rfl (REv.tmp rfl lr)) rfl ⟨by simp only[Wj];congr 2;simp[V.css_length,Qp]at*;grind,rfl⟩)))))))
  refine Zs (Zd UZ rfl (Zl 0 UA rfl (Zq rfl (QW.neq (.r rfl) .const) (Zm rfl (Zg rfl (fun hg=>(Qf Xf (.r rfl) rfl)) (Zg rfl (fun hg=>(Qb 0 UO (.when rfl hg) rfl rfl)) (Zg rfl (fun hg=>(Wp (.when rfl hg) .const)) (Zq rfl (QW.pick_and (.r rfl) (.r rfl)) (Za rfl ?_)))))))))
  refine Zn ?_
  refine J.cond (.r rfl) (fun c2=>?_) (fun c2=>?_)
  · skip
    exact J.skip (blkQ.n (thenQ.n (Zs (Zq rfl (QW.assign .const) (Zn (J.ret (Zr [.k] (RetEv.one rfl (REv.tmp rfl lr)) rfl ⟨by simp only[Wj];congr 2;simp[V.css_length,Qp]at*;grind,rfl⟩)))))))
  refine Zs (Zd UZ rfl (Zl 0 UA rfl (Zq rfl (QW.neq (.r rfl) .const) (Zm rfl (Zg rfl (fun hg=>(Qf YQ (.r rfl) rfl)) (Zg rfl (fun hg=>(Qb 0 Ge (.when rfl hg) rfl rfl)) (Zg rfl (fun hg=>(Qw Ue (.when rfl hg))) (Zg rfl (fun hg=>(QW.gtr (.when rfl hg) .const)) (Zq rfl (QW.pick_and (.r rfl) (.r rfl)) ?_)))))))))
  refine Za rfl (Zn ?_)
  refine J.cond (.r rfl) (fun c3=>?_) (fun c3=>?_)
  · skip
    exact J.skip (blkQ.n (thenQ.n (Zs (Zq rfl (QW.assign .const) (Zn (J.ret (Zr [.k] (RetEv.one rfl (REv.tmp rfl lr)) rfl ⟨by simp only[Wj];congr 2;simp[V.css_length,Qp]at*;grind,rfl⟩)))))))
  refine Zs (Zm rfl (Zm rfl (Zg rfl (fun hg=>(Qf UZ (.r rfl) rfl)) (Zg rfl (fun hg=>(Qb 0 UA (.when rfl hg) rfl rfl)) (Zg rfl (fun hg=>(QW.eql (.when rfl hg) .const)) (Zq rfl (QW.pick_or (.r rfl) (.r rfl)) (Zm rfl (Zg rfl (fun hg=>(Qf Uv (.r rfl) rfl)) (Zg rfl (fun hg=>(Qb 0 WP (.when rfl hg) rfl rfl)) ?_)))))))))
  refine Zg rfl (fun hg=>(Qw QU (.when rfl hg))) (Zg rfl (fun hg=>(QW.gtr (.when rfl hg) .const)) (Zq rfl (QW.pick_and (.r rfl) (.r rfl)) (Za rfl (Zn ?_))))
  refine J.cond (.r rfl) (fun c4=>?_) (fun c4=>?_)
  · skip
    exact J.skip (blkQ.n (thenQ.n (Zs (Zq rfl (QW.assign .const) (Zn (J.ret (Zr [.k] (RetEv.one rfl (REv.tmp rfl lr)) rfl ⟨by simp only[Wj];congr 2;simp[V.css_length,Qp]at*;grind,rfl⟩)))))))
  exact Zs (Zq rfl (QW.assign .const) (Zn (J.ret (blkQ.r (thenQ.r (Zr [.k] (RetEv.one rfl (REv.tmp rfl lr)) rfl ⟨by simp only[Wj];congr 2;simp[V.css_length,Qp]at*;grind,rfl⟩))))))
theorem Sp{fr:Bool}{v:V}{ys:List AV}(hv:Vc fr v ys)(hw:v.wf):Fn Tryz.prog 168 [.agg ys] (.c (.bool (Uc v))):=by
  obtain⟨k,b,t,ks,is⟩:=v
  subst hv
  obtain⟨-,-,-,hk16,-,-,-⟩:=hw.inv
  refine AC.of_J Tryz.func168 rfl Tryz.ntmps168 rfl fun w0 A0=>?_
  refine Zs (Qs (.r rfl) rfl fun b1=>Zq rfl (QW.assign .const) (Zn (J.seq (Zs (Zq rfl (Qe 0 Ql (.r rfl) rfl rfl rfl) (Zq rfl (QW.call Qau (.cons (.r rfl) .nil) (bare_ok Vc.mk)) (Zq rfl (QW.not (.r rfl)) (Zm rfl ?_))))))))
  refine Zg rfl (fun hg=>(Qf Uv (.r rfl) rfl)) (Zg rfl (fun hg=>(Qb 0 WP (.when rfl hg) rfl rfl)) (Zg rfl (fun hg=>(Qw QU (.when rfl hg))) (Zg rfl (fun hg=>(QW.gtr (.when rfl hg) .const)) (Zq rfl (QW.pick_or (.r rfl) (.r rfl)) (Zn ?_)))))
  refine J.cond (.r rfl) (fun c1=>?_) (fun c1=>?_)
  · skip
    exact Zs (Zq rfl (QW.assign .const) (Zn (J.ret (thenQ.r (Zr [.k] (RetEv.one rfl (REv.tmp rfl lr)) rfl ⟨by simp only[Uc];congr 2;simp[V.css_length,Qp,Wj]at*;grind,rfl⟩)))))
  refine Zk (J.seq (Zs (Zd UZ rfl (Zl 0 UA rfl (Zn (J.block (J.seq (Zs (Zq rfl (QW.eql (.r rfl) .const) ?_)))))))))
  refine Za rfl (Zn ?_)
  refine J.cond (.r rfl) (fun c2=>?_) (fun c2=>?_)
  · skip
    refine Zk ?_
    refine J.cond (.r rfl) (fun c3=>?_) (fun c3=>?_)
    · skip
      exact Zs (Zq rfl (QW.assign .const) (Zn (J.ret (blkQ.r (thenQ.r (Zr [.k] (RetEv.one rfl (REv.tmp rfl lr)) rfl ⟨by simp only[Uc];congr 2;simp[V.css_length,Qp,Wj]at*;grind,rfl⟩))))))
    refine Zs (Zq rfl (QW.eql (.r rfl) .const) (Za rfl (Zn ?_)))
    refine J.cond (.r rfl) (fun c4=>?_) (fun c4=>?_)
    · skip
      exact Zs (Zd UE rfl (Zl 0 WQ rfl (Zq rfl (QW.leq (.r rfl) .const) (Za rfl (Zn (J.ret (blkQ.r (thenQ.r (Zr [.k] (RetEv.one rfl (REv.tmp rfl lr)) rfl ⟨by simp only[Uc];congr 2;simp[V.css_length,Qp,Wj]at*;grind,rfl⟩)))))))))
    refine Zs (Zq rfl (QW.eql (.r rfl) .const) (Za rfl (Zn ?_)))
    refine J.cond (.r rfl) (fun c5=>?_) (fun c5=>?_)
    · skip
      refine J.seq (Ud 5 mixed (by kernel_rfl) (by kernel_rfl) (by kernel_rfl) rfl ?_)
      refine .cons [] rfl rfl rfl (.q rfl (Qf UE (.r rfl) rfl)) ?_
      refine .cons [24] rfl rfl rfl (.q rfl (Qb 0 WQ (.r rfl) rfl rfl)) ?_
      refine .cons [25] rfl rfl rfl (.q rfl (QW.call N2 (.cons (.r rfl) .nil) (L9 _))) ?_
      refine .cons [] rfl rfl rfl (.q rfl (Qf UE (.r rfl) rfl)) ?_
      refine .cons [27] rfl rfl rfl (.q rfl (Qb 0 WQ (.r rfl) rfl rfl)) ?_
      refine .nil ?_
      exact Zq rfl (QW.eql (.r rfl) (.r rfl)) (Za rfl (Zn (J.ret (blkQ.r (thenQ.r (Zr [.k] (RetEv.one rfl (REv.tmp rfl lr)) rfl ⟨by simp only[Uc];congr 2;simp[V.css_length,Qp,Wj]at*;grind,rfl⟩))))))
    refine Zs (Zq rfl (QW.eql (.r rfl) .const) (Za rfl (Zn ?_)))
    refine J.cond (.r rfl) (fun c6=>?_) (fun c6=>?_)
    · skip
      exact Zs (Zd Xf rfl (Zl 0 UO rfl (Zq rfl (U3 Mx (.r rfl)) (Zq rfl (QW.leq (.r rfl) .const) (Za rfl (Zn (J.ret (blkQ.r (thenQ.r (Zr [.k] (RetEv.one rfl (REv.tmp rfl lr)) rfl ⟨by simp only[Uc];congr 2;simp[V.css_length,Qp,Wj]at*;grind,rfl⟩))))))))))
    refine Zs (Zq rfl (QW.eql (.r rfl) .const) (Za rfl (Zn ?_)))
    refine J.cond (.r rfl) (fun c7=>?_) (fun c7=>?_)
    · skip
      refine Zs (Zd YQ rfl (Zl 0 Ge rfl (Zq rfl (Qw Ue (.r rfl)) (Zd Uv rfl (Zl 0 WP rfl (Zq rfl (Qw QU (.r rfl)) (Zq rfl (QW.eql (.r rfl) (.r rfl)) (Zm rfl (Zg rfl (fun hg=>(Qf YQ (.r rfl) rfl)) ?_)))))))))
      refine Zg rfl (fun hg=>(Qb 0 Ge (.when rfl hg) rfl rfl)) (Zg rfl (fun hg=>(QW.call EU (.cons (.when rfl hg) .nil) (EE _ _ (by unfold Qr at*;omega)))) ?_)
      exact Zq rfl (QW.pick_and (.r rfl) (.r rfl)) (Za rfl (Zn (J.ret (blkQ.r (thenQ.r (Zr [.k] (RetEv.one rfl (REv.tmp rfl lr)) rfl ⟨by simp only[Uc];congr 2;simp[V.css_length,Qp,Wj]at*;grind,rfl⟩))))))
    exact J.skip (blkQ.n (thenQ.n (Zs (Zq rfl (QW.assign .const) (Zn (J.ret (Zr [.k] (RetEv.one rfl (REv.tmp rfl lr)) rfl ⟨by simp only[Uc];congr 2;simp[V.css_length,Qp,Wj]at*;grind,rfl⟩)))))))
  refine Qg (Zq rfl (QW.eql (.r rfl) .const) (Za rfl (Zn ?_)))
  refine J.cond (.r rfl) (fun c3=>?_) (fun c3=>?_)
  · skip
    exact Zs (Zq rfl (QW.assign .const) (Zn (J.ret (blkQ.r (thenQ.r (Zr [.k] (RetEv.one rfl (REv.tmp rfl lr)) rfl ⟨by simp only[Uc];congr 2;simp[V.css_length,Qp,Wj]at*;grind,rfl⟩))))))
  refine Zs (Zq rfl (QW.eql (.r rfl) .const) (Za rfl (Zn ?_)))
  refine J.cond (.r rfl) (fun c4=>?_) (fun c4=>?_)
  · skip
    exact Zs (Zd UE rfl (Zl 0 WQ rfl (Zq rfl (QW.leq (.r rfl) .const) (Za rfl (Zn (J.ret (blkQ.r (thenQ.r (Zr [.k] (RetEv.one rfl (REv.tmp rfl lr)) rfl ⟨by simp only[Uc];congr 2;simp[V.css_length,Qp,Wj]at*;grind,rfl⟩)))))))))
  refine Zs (Zq rfl (QW.eql (.r rfl) .const) (Za rfl (Zn ?_)))
  refine J.cond (.r rfl) (fun c5=>?_) (fun c5=>?_)
  · skip
    refine J.seq (Ud 5 mixed (by kernel_rfl) (by kernel_rfl) (by kernel_rfl) rfl ?_)
    refine .cons [] rfl rfl rfl (.q rfl (Qf UE (.r rfl) rfl)) ?_
    refine .cons [24] rfl rfl rfl (.q rfl (Qb 0 WQ (.r rfl) rfl rfl)) ?_
    refine .cons [25] rfl rfl rfl (.q rfl (QW.call N2 (.cons (.r rfl) .nil) (L9 _))) ?_
    refine .cons [] rfl rfl rfl (.q rfl (Qf UE (.r rfl) rfl)) ?_
    refine .cons [27] rfl rfl rfl (.q rfl (Qb 0 WQ (.r rfl) rfl rfl)) ?_
    refine .nil ?_
    exact Zq rfl (QW.eql (.r rfl) (.r rfl)) (Za rfl (Zn (J.ret (blkQ.r (thenQ.r (Zr [.k] (RetEv.one rfl (REv.tmp rfl lr)) rfl ⟨by simp only[Uc];congr 2;simp[V.css_length,Qp,Wj]at*;grind,rfl⟩))))))
  refine Zs (Zq rfl (QW.eql (.r rfl) .const) (Za rfl (Zn ?_)))
  refine J.cond (.r rfl) (fun c6=>?_) (fun c6=>?_)
  · skip
    exact Zs (Zd Xf rfl (Zl 0 UO rfl (Zq rfl (U3 Mx (.r rfl)) (Zq rfl (QW.leq (.r rfl) .const) (Za rfl (Zn (J.ret (blkQ.r (thenQ.r (Zr [.k] (RetEv.one rfl (REv.tmp rfl lr)) rfl ⟨by simp only[Uc];congr 2;simp[V.css_length,Qp,Wj]at*;grind,rfl⟩))))))))))
  refine Zs (Zq rfl (QW.eql (.r rfl) .const) (Za rfl (Zn ?_)))
  refine J.cond (.r rfl) (fun c7=>?_) (fun c7=>?_)
  · skip
    refine Zs (Zd YQ rfl (Zl 0 Ge rfl (Zq rfl (Qw Ue (.r rfl)) (Zd Uv rfl (Zl 0 WP rfl (Zq rfl (Qw QU (.r rfl)) (Zq rfl (QW.eql (.r rfl) (.r rfl)) (Zm rfl (Zg rfl (fun hg=>(Qf YQ (.r rfl) rfl)) ?_)))))))))
    refine Zg rfl (fun hg=>(Qb 0 Ge (.when rfl hg) rfl rfl)) (Zg rfl (fun hg=>(QW.call EU (.cons (.when rfl hg) .nil) (EE _ _ (by unfold Qr at*;omega)))) ?_)
    exact Zq rfl (QW.pick_and (.r rfl) (.r rfl)) (Za rfl (Zn (J.ret (blkQ.r (thenQ.r (Zr [.k] (RetEv.one rfl (REv.tmp rfl lr)) rfl ⟨by simp only[Uc];congr 2;simp[V.css_length,Qp,Wj]at*;grind,rfl⟩))))))
  exact J.skip (blkQ.n (thenQ.n (Zs (Zq rfl (QW.assign .const) (Zn (J.ret (Zr [.k] (RetEv.one rfl (REv.tmp rfl lr)) rfl ⟨by simp only[Uc];congr 2;simp[V.css_length,Qp,Wj]at*;grind,rfl⟩)))))))

end
section
/- Walks: the page's own part of a value; both walks over a value. -/
set_option maxRecDepth 10000
set_option maxHeartbeats 4000000
theorem Tf(a b:List UInt8):(!(Op.bytesLess a b||a==b))=Op.bytesLess b a:=by rw[WV];simp

end
section
/- Walks: errors that are panicked with, boxes of numbers. -/
set_option maxRecDepth 10000
set_option maxHeartbeats 4000000
theorem PanR.of{e e':Int}{Rx:AV→List Own→Prop}(h:e'=e)(hn:¬e=0):PanR (e'=0) (.iface 47 (.int .i64 e')) Rx (.pan (.iface 47 (.int .i64 e))) []:=by
  subst h;exact .pan hn
def WT(e:Int):Value:=.iface 47 (.int .i64 e)
def wk(b:Nat)(p d:Int):Own:=.box b [.c (.int .i64 p),.c (.int .i64 d)]
theorem KM(w:World):(zeroValue 47).run Tryz.prog w=.ok (.int .i64 0) w:=by kernel_rfl
def UB(b:Nat)(n:Int):Own:=.box b [.c (.int .i64 n)]

end
section
/- Walks: both walks over a value. -/
set_option maxRecDepth 10000
set_option maxHeartbeats 4000000
theorem V.chks_cons{is:List V}{j:Nat}(h:j<is.length)(lev n:Int):V.chks (is.drop j) lev n=if(V.chk is[j] (lev+1) n).1≠0 then V.chk is[j] (lev+1) n else V.chks (is.drop (j+1)) lev (V.chk is[j] (lev+1) n).2:=by
  rw[List.drop_eq_getElem_cons h,V.chks]
theorem V.depths_cons{is:List V}{j:Nat}(h:j<is.length):V.depths (is.drop j)=max is[j].depth (V.depths (is.drop (j+1))):=by
  rw[List.drop_eq_getElem_cons h,V.depths]
def WR(v:V)(lev p d:Int)(bw:Nat):Wl→List Own→Prop:=PanR ((v.chk lev p).1=0) (WT (v.chk lev p).1) fun x o=>x=.tup []∧o=[wk bw (v.chk lev p).2 (max d (lev+v.depth-1))]
theorem walk_n:∀(n:Nat) {v:V} {ys:List AV} {fr:Bool} {lev p d:Int} {bw:Nat},Vc fr v ys→v.wf→1≤lev∧lev≤9→0≤p∧p≤512→v.sz≤n→
    AC Tryz.prog 125 [wk bw p d] [.c (.pointer (some ⟨bw,0,none⟩)),.agg ys,.c (.int .i64 lev)] (WR v lev p d bw):=by
  intro n
  induction n with
  |zero=>intro v ys fr lev p d bw hv hw hl hp h;exact absurd h (by have:=V.sz_pos v;omega)
  |succ n ih=>
    intro v ys fr lev p d bw hv hw hl hp hn
    obtain⟨k,b,t,ks,is⟩:=v
    subst hv
    obtain⟨-,-,-,-,hi80,-,hwi⟩:=hw.inv
    have hi64:is.length≤9223372036854775806:=by unfold Qr at hi80;omega
    refine AC.of_J Tryz.func125 rfl Tryz.ntmps125 rfl fun w0 A0=>?_
    refine Zs (Qs (.r rfl) rfl fun b4=>Zn (J.seq (J.block (Zs (Zm rfl (Zq rfl (QW.gtr (.r rfl) .const) (Za rfl (Zn ?_))))))))
    refine J.cond (.r rfl) (fun c1=>?_) (fun c1=>?_)
    · skip
      simp at c1
      refine Qg (Zq rfl (Yx ⟨_,Tryz.underlying47,by intro ms h;cases h⟩ .const) ?_)
      refine JL.panic (.r rfl) (blkQ.p (thenQ.p ?_))
      exact⟨_,QI [.k,.k] _,_,rfl,rfl,Qk [.k,.k] _,PanR.of (by simp[V.chk,c1]) (by decide)⟩
    simp at c1
    refine Zs (Zm rfl (Zu rfl (Zd Ln rfl (Zl 1 UA rfl (Zq rfl (QW.eql (.r rfl) .const) (Za rfl (Zn ?_)))))))
    refine J.cond (.r rfl) (fun c2=>?_) (fun c2=>?_)
    · skip
      simp at c2
      refine Qg (Zq rfl (Yx ⟨_,Tryz.underlying47,by intro ms h;cases h⟩ .const) ?_)
      refine JL.panic (.r rfl) (blkQ.p (thenQ.p ?_))
      exact⟨_,QI [.k,.k] _,_,rfl,rfl,Qk [.k,.k] _,PanR.of (by simp[V.chk,show ¬8<lev by omega,show 512≤p by omega]) (by decide)⟩
    simp at c2
    refine Zs (Zq rfl (Qe 0 Ql (.r rfl) rfl rfl rfl) (Zq rfl (QW.call QaC (.cons (.r rfl) .nil) (Sp Vc.mk hw)) (Zq rfl (QW.not (.r rfl)) (Za rfl (Zn ?_)))))
    refine J.cond (.r rfl) (fun c3=>?_) (fun c3=>?_)
    · skip
      simp at c3
      refine Qg (Zq rfl (Yx ⟨_,Tryz.underlying47,by intro ms h;cases h⟩ .const) ?_)
      refine JL.panic (.r rfl) (blkQ.p (thenQ.p ?_))
      exact⟨_,QI [.k,.k] _,_,rfl,rfl,Qk [.k,.k] _,PanR.of (by simp[V.chk,show ¬8<lev by omega,show ¬512≤p by omega,c3]) (by decide)⟩
    simp at c3
    refine J.skip (blkQ.n (thenQ.n (Zs (Zm rfl (Zu rfl (Zd Ln rfl (Zl 1 UA rfl (Zq rfl (QW.add (.r rfl) .const (Yy (by omega))) (Zu rfl ?_)))))))))
    refine Zd Ln rfl (JL.store_box 1 UA (.r rfl) rfl (.r rfl) rfl rfl rfl rfl rfl (Zn (Zs (Zm rfl (Zm rfl (Zu rfl (Zd N9 rfl (Zl 1 UA rfl (Zm rfl ?_)))))))))
    refine Zq rfl (QW.max2 (.r rfl) (.r rfl)) (Zu rfl (Zd N9 rfl (JL.store_box 1 UA (.r rfl) rfl (.r rfl) rfl rfl rfl rfl rfl (Zn (Zs (Zd Uv rfl (Zl 0 WP rfl (Zq rfl (Qw QU (.r rfl)) (Zq rfl (QW.move .const) ?_)))))))))
    refine Zn (J.block ?_)
    have hck:V.chk (.mk k b t ks is) lev p=V.chks is lev (p+1):=by unfold V.chk;rw[if_neg (by omega),if_neg (by omega),if_neg (by simp[c3])]
    refine Ua (ι:=Nat×Int×Int) [0,2,41,42] (fun⟨j,q,e⟩=>[(43,.c (.int .i64 (j:Int)))]) (fun⟨j,q,e⟩ oo=>List.set oo 1 (wk bw q e)) (fun⟨j,q,e⟩=>j≤is.length∧V.chks is lev (p+1)=V.chks (is.drop j) lev q∧max e (lev+V.depths (is.drop j))=max d (lev+V.depths is)∧(0≤q∧q≤512∧lev≤e)) (fun⟨j,q,e⟩=>is.length-j) ⟨0,p+1,if lev>d then lev else d⟩ (⟨Nat.zero_le _,rfl,by have:=V.depths_nonneg is;rw[List.drop_zero];split<;>omega,by split<;>omega⟩) (QQ (.cons rfl lr (.cons rfl lr (.cons rfl lr (.cons rfl lr (.cons rfl lr .nil))))) (Reown.refl _) (fun _ h=>by first|exact h|simp[h])) ?_
    intro⟨j,q,e⟩ ⟨hj,hcs,hde,hq⟩
    refine J.conv (by(try simp only[nl,Qj,QA,QC,Qy,QZ,AV.cellsOf,Qc,Qd,Nat.reduceAdd]);rfl) ?_
    refine Zs (Zq rfl (QW.lss (.r rfl) (.r rfl)) (Zn (J.seq ?_)))
    refine J.cond (.r rfl) (fun c4=>?_) (fun c4=>?_)
    · skip
      have hlt:j<is.length:=by simpa[V.css_length]using c4
      refine Zk (J.seq (J.block (Zs (Zq rfl (Qi QU Ql rfl (.r rfl) (.r rfl) rfl (by exact V.css_getE _ hlt)) ?_))))
      refine Zq rfl (Qm Ql (.r rfl) (QF vl rfl) vl) (JL.alloc Yd rfl rfl fun b7=>Qa 0 Ql (.r rfl) rfl (.r rfl) rfl vl rfl rfl (Zn (Qg (Zm rfl (Zq rfl (Qe 0 Ql (.r rfl) rfl (Qo vl rfl) vl) (Zm rfl (Zq rfl (QW.add (.r rfl) .const (Yy (by omega))) ?_)))))))
      refine Qn [.k,.k,.p] E2 rfl Lent.nil (fun _=>(.cons (.r rfl) (.cons (.r rfl) (.cons (.r rfl) .nil)))) (ih (Vc.self) (hwi _ (List.getElem_mem _)) (by omega) (by omega) (V.sz_get hn hlt)) (.inl rfl) (fun k51 x51 o51 h51=>?_) (fun k51=>?_)
      rotate_left
      · skip
        refine blkQ.p (thenQ.p (thenQ.p (blkQ.p ?_)))
        rw[V.chks_cons hlt,if_pos k51]at hcs
        have he:=hck.trans hcs
        exact⟨_,QI [.k,.k] _,_,rfl,rfl,Qk [.k,.k] _,PanR.of (by rw[he]) k51⟩
      obtain⟨rfl,rfl⟩:=h51
      refine JL.nil (blkQ.n (thenQ.n (Qg (Zq rfl (QW.add (.r rfl) .const (Yy (by omega))) (Zm rfl (Zn ?_))))))
      have hb:=V.chk_bounds is[j] (lev+1) q
      rw[V.chks_cons hlt,if_neg (by simp[k51])]at hcs
      rw[V.depths_cons hlt]at hde
      exact⟨⟨j+1,(V.chk is[j] (lev+1) q).2,max e (lev+1+is[j].depth -1)⟩,⟨hlt,hcs,by omega,by omega⟩,by show is.length-(j+1)<is.length-j;omega,QQ (.cons rfl lr (.cons rfl lr (.cons rfl lr (.cons rfl lr (.cons rfl lr .nil))))) (Q3 1 _ rfl) (fun _ h=>by first|exact h|simp[h])⟩
    have hge:is.length≤j:=by simpa[V.css_length]using c4
    refine J.exit (Qz (Qz (QY ?_)))
    obtain rfl:j=is.length:=by omega
    simp only[List.drop_length,V.chks,V.depths]at hcs hde
    have he:=hck.trans hcs
    exact Zr [.k,.p] (RetEv.none rfl) rfl (PanR.ret (by rw[he]) ⟨rfl,by rw[he];unfold V.depth;rw[show max d (lev+(1+V.depths is)-1)=e by omega];rfl⟩)

end
section
/- Walks: sizes and checks of values. -/
set_option maxRecDepth 10000
set_option maxHeartbeats 4000000
theorem CL(a b c:Nat)(x y z:Int):DC Tryz.prog 124 [UB c z,UB b y,UB a x] [.c (.pointer (some ⟨a,0,none⟩)),.c (.pointer (some ⟨b,0,none⟩)),.c (.pointer (some ⟨c,0,none⟩))] .returning fun r u' o=>r=.ret (.tup [])∧u'=.returning∧o=[UB c z,UB b y,UB a x]:=by
  refine DC.of_JD Tryz.func124 rfl Tryz.ntmps124 rfl fun w0 A0=>?_
  refine JD.seq (Uf rfl rfl (.inl ⟨rfl,rfl,rfl⟩) rfl (Zq rfl (YB ⟨_,Tryz.underlying47,by intro ms h;cases h⟩ KM (.r rfl)) ?_))
  refine Zm rfl (Zx rfl (Zx rfl (Za rfl (Za rfl (JL.nil ?_)))))
  refine YD ?_
  refine JD.of_J rfl (Zs (Zm rfl (Zn ?_)))
  refine J.cond (.r rfl) (fun c1=>absurd c1 (by simp)) (fun c1=>?_)
  refine J.skip ?_
  exact⟨_,QI [.p,.p,.p] _,_,RetEv.none rfl,rfl,Qk [.p,.p,.p] _,⟨rfl,rfl,rfl⟩⟩
theorem CM(a b c:Nat)(x y z e:Int):DC Tryz.prog 124 [UB c z,UB b y,UB a x] [.c (.pointer (some ⟨a,0,none⟩)),.c (.pointer (some ⟨b,0,none⟩)),.c (.pointer (some ⟨c,0,none⟩))] (.panicking [{v:=WT e,recovered:=false}]) fun r u' o=>r=.ret (.tup [])∧u'=.panicking [{v:=WT e,recovered:=true}]∧o=[UB c e,UB b 0,UB a 0]:=by
  refine DC.of_JD Tryz.func124 rfl Tryz.ntmps124 rfl fun w0 A0=>?_
  refine JD.seq (Uf rfl rfl (.inr ⟨[],rfl,rfl⟩) rfl (Zq rfl (YC ⟨_,Tryz.underlying47,by intro ms h;cases h⟩ (.r rfl)) ?_))
  refine Zm rfl (Zx rfl (Zx rfl (Za rfl (Za rfl (JL.nil ?_)))))
  refine YD ?_
  refine JD.of_J rfl (Zs (Zm rfl (Zn ?_)))
  refine J.cond (.r rfl) (fun c1=>?_) (fun c1=>absurd c1 (by simp))
  refine Qg (Zm rfl (JL.store_box 2 UA (.r rfl) rfl .const rfl rfl rfl rfl rfl (JL.store_box 1 UA (.r rfl) rfl .const rfl rfl rfl rfl rfl (JL.store_box 0 We (.r rfl) rfl (.r rfl) rfl rfl rfl rfl rfl (JL.nil ?_)))))
  exact⟨_,QI [.p,.p,.p] _,_,RetEv.none rfl,rfl,Qk [.p,.p,.p] _,⟨rfl,rfl,rfl⟩⟩
def LI(v:V):AV:=.tup [.c (.int .i64 (if v.err=0 then v.cnt else 0)),.c (.int .i64 (if v.err=0 then v.depth else 0)),.c (.int .i64 v.err)]
theorem CJ{v:V}{n d:Int}(h:v.err=0)(hn:n=v.cnt)(hd:d=v.depth):LI v=.tup [.c (.int .i64 n),.c (.int .i64 d),.c (.int .i64 0)]:=by
  subst hn hd;simp[LI,h]
theorem CK{v:V}{e:Int}(h:¬v.err=0)(he:e=v.err):LI v=.tup [.c (.int .i64 0),.c (.int .i64 0),.c (.int .i64 e)]:=by
  subst he;simp[LI,h]
theorem Sg{fr:Bool}{v:V}{ys:List AV}(hv:Vc fr v ys)(hw:v.wf):Fn Tryz.prog 81 [.agg ys] (LI v):=by
  subst hv
  refine AC.of_JD Tryz.func81 rfl Tryz.ntmps81 rfl fun w0 A0=>?_
  refine Zs (Qs (.r rfl) rfl fun b1=>JL.alloc z3 rfl rfl fun b2=>JL.alloc z3 rfl rfl fun b3=>JL.alloc z47 rfl rfl fun b4=>Zn (Zs (Zq rfl (WN .nil (.cons (.r rfl) (.cons (.r rfl) (.cons (.r rfl) .nil)))) (JL.defer rfl (.r rfl) (Zn ?_)))))
  refine Zs (JL.alloc z242 rfl rfl fun b5=>Zn (Zs (Zq rfl (Qe 4 Ql (.r rfl) rfl (Qo vl rfl) vl) ?_)))
  refine Qn [.p] E2 rfl Lent.nil (fun _=>(.cons (.r rfl) (.cons (.r rfl) (.cons .const .nil)))) (walk_n _ Vc.self hw (by omega) (by omega) (Nat.le_refl _)) (.inl rfl) (fun k8 x8 o8 h8=>?_) (fun k8=>?_)
  rotate_left
  · skip
    refine thenQ.p ?_
    exact⟨_,_,[],[_,_,_],QI [.p,.p,.p] _,_,rfl,rfl,E3,Qk [.p,.p,.p] _,DC.mono (CM _ _ _ _ _ _ _) fun r u' o ⟨h1,h2,h3⟩=>by subst h1 h2 h3;exact⟨⟨_,rfl⟩,rfl,_,[],_,U2 rfl (QR 2 UA rfl rfl rfl lr) (QR 1 UA rfl rfl rfl lr) (QR 0 We rfl rfl rfl lr),List.Perm.refl _,(congrArg Wl.ret (CK k8 rfl)).symm,rfl⟩⟩
  obtain⟨rfl,rfl⟩:=h8
  refine Zn (J.seq (WW 5 1 (fun os_ ow_ x_ o_=>match os_ with|[]=>(x_=.c undef∧o_=ow_.set 3 (UB b2 (v.chk 1 0).2))|_=>False) mixed (by kernel_rfl) (by kernel_rfl) (by kernel_rfl) rfl ?_))
  refine OutK.quiet [] rfl rfl rfl (fun qs_ qv_ ql_=>(.q rfl (Qf Ln (.r rfl) rfl))) ?_
  refine OutK.quiet [9] rfl rfl rfl (fun qs_ qv_ ql_=>by
      rcases qs_ with _|⟨⟨y0,p0⟩,qs_⟩
      · skip
        exact(.q rfl (Qb 0 UA (.r rfl) rfl rfl))
      rcases qs_ with _|⟨⟨y1,p1⟩,qs_⟩
      · skip
        obtain⟨hr0,_⟩:=qv_
        obtain⟨rfl,rfl⟩:=hr0
        exact(.q rfl (Qb 0 UA (.r rfl) rfl rfl))
      exact absurd ql_ (by simp)) ?_
  refine OutK.quiet [] rfl rfl rfl (fun qs_ qv_ ql_=>(.q rfl (Qf N9 (.r rfl) rfl))) ?_
  refine OutK.quiet [11] rfl rfl rfl (fun qs_ qv_ ql_=>by
      rcases qs_ with _|⟨⟨y0,p0⟩,qs_⟩
      · skip
        exact(.q rfl (Qb 0 UA (.r rfl) rfl rfl))
      rcases qs_ with _|⟨⟨y1,p1⟩,qs_⟩
      · skip
        obtain⟨hr0,_⟩:=qv_
        obtain⟨rfl,rfl⟩:=hr0
        exact(.q rfl (Qb 0 UA (.r rfl) rfl rfl))
      exact absurd ql_ (by simp)) ?_
  refine OutK.store [10] rfl (fun qs_ ow x o h ql_=>by
      obtain rfl:qs_=[]:=List.length_eq_zero_iff.1 (by simpa using ql_)
      exact h.1) rfl rfl rfl (fun qs_ qv_ ql_=>by
      obtain rfl:qs_=[]:=List.length_eq_zero_iff.1 ql_
      exact Nw rfl (LStep.store_box 3 UA (.r rfl) rfl (.r rfl) rfl rfl rfl rfl rfl) ⟨rfl,rfl⟩) ?_
  refine .nil fun qs_ qv_ ql_=>?_
  obtain⟨⟨y0,p0⟩,qs_,rfl⟩:∃p t,qs_=p::t:=by(cases qs_ with|nil=>simp at ql_|cons p t=>exact⟨p,t,rfl⟩)
  obtain rfl:qs_=[]:=List.length_eq_zero_iff.1 (by simpa using ql_)
  obtain⟨hr0,_⟩:=qv_
  obtain⟨rfl,rfl⟩:=hr0
  refine JL.conv (by(try simp only[nl,Qj,QA,QC,Qy,QZ,AV.cellsOf,Qc,Qd,Nat.reduceAdd]);rfl) ?_
  refine JL.store_box 2 UA (.r rfl) rfl (.r rfl) rfl rfl rfl rfl rfl (JL.store_box 1 We (.r rfl) rfl .const rfl rfl rfl rfl rfl (Zn (J.ret ?_)))
  exact⟨_,_,[],[_,_,_],QI [.k,.p,.p,.p] _,_,rfl,rfl,E3,Qk [.k,.p,.p,.p] _,DC.mono (CL _ _ _ _ _ _) fun r u' o ⟨h1,h2,h3⟩=>by subst h1 h2 h3;exact⟨⟨_,rfl⟩,rfl,_,[],_,U2 rfl (QR 2 UA rfl rfl rfl lr) (QR 1 UA rfl rfl rfl lr) (QR 0 We rfl rfl rfl lr),List.Perm.refl _,(congrArg Wl.ret (CJ k8 rfl (by have:=V.chk_depth v 1 0 k8;omega))).symm,rfl⟩⟩
theorem Yl{fr:Bool}{v:V}{ys:List AV}(hv:Vc fr v ys)(hw:v.wf):Fn Tryz.prog 42 [.agg ys] (.c (.int .i64 v.err)):=by
  subst hv
  refine AC.of_J Tryz.func42 rfl Tryz.ntmps42 rfl fun w0 A0=>?_
  refine Zs (Qs (.r rfl) rfl fun b1=>Zq rfl (QW.assign .const) (Zn (Zs (Zq rfl (Qe 0 Ql (.r rfl) rfl (Qo vl rfl) vl) (Zq rfl (QW.call gofn81 (.cons (.r rfl) .nil) (Sg (Vc.self) (by assumption))) ?_)))))
  refine Zm rfl (Zx rfl (Zx rfl (Zx rfl (Za rfl (Za rfl (Za rfl (Zn (Zs (Zm rfl ?_)))))))))
  exact Za rfl (Zn (J.ret (Zr [.k] (RetEv.one rfl (REv.tmp rfl lr)) rfl ⟨rfl,rfl⟩)))

end
section
/- Walks: the page's copy of a value; the program's; lists that are copied. -/
set_option maxRecDepth 10000
set_option maxHeartbeats 4000000
def Gy(e:U7)(xs:List (List AV)):AV→List Own→Prop:=fun x o=>∃v,x=.c v∧v.oneCell'=true∧o=[.arr v e xs]
theorem Tt{fr:Bool}(xs:List (List AV))(hr:xs.length*16≤Qr):AC Tryz.prog 102 [] [.sl fr false Wz xs] (YV (Gy Wz xs)):=by
  refine AC.of_J Tryz.func102 rfl Tryz.ntmps102 rfl fun w0 A0=>?_
  refine Zs (Zq rfl (QW.assign .const) (Zn (J.seq (Zs (Zm rfl (TS Ue (.r rfl) .const rfl fun n4 hn4=>Zn ?_))))))
  refine J.cond (.r rfl) (fun c1=>?_) (fun c1=>?_)
  · skip
    refine J.seq (J.reown (Up Wz _) (Qg (Zq rfl (QW.assign .const) (Zn (J.ret (thenQ.r ?_))))))
    obtain rfl:xs=[]:=hn4 c1
    exact Zr [.p] (RetEv.one rfl (REv.tmp rfl lr)) rfl ⟨_,rfl,_,rfl,rfl,rfl⟩
  refine Zk (Zs (KL Ue Pw rfl rfl fun v5=>Zm rfl (JL.append 0 Ue Pw rfl (.r rfl) rfl (U8 Ue (.r rfl)) (by simpa using hr) rfl fun v7=>?_)))
  exact JL.isSlice 0 rfl fun hs1=>Za rfl (Zn (J.ret (Zr [.p] (RetEv.one rfl (REv.tmp rfl lr)) rfl ⟨_,rfl,_,rfl,hs1,rfl⟩)))
theorem Ts{fr:Bool}(xs:List (List AV))(hr:xs.length*80≤Qr):AC Tryz.prog 103 [] [.sl fr false eV xs] (YV (Gy eV xs)):=by
  refine AC.of_J Tryz.func103 rfl Tryz.ntmps103 rfl fun w0 A0=>?_
  refine Zs (Zq rfl (QW.assign .const) (Zn (J.seq (Zs (Zm rfl (TS QU (.r rfl) .const rfl fun n4 hn4=>Zn ?_))))))
  refine J.cond (.r rfl) (fun c1=>?_) (fun c1=>?_)
  · skip
    refine J.seq (J.reown (Up eV _) (Qg (Zq rfl (QW.assign .const) (Zn (J.ret (thenQ.r ?_))))))
    obtain rfl:xs=[]:=hn4 c1
    exact Zr [.p] (RetEv.one rfl (REv.tmp rfl lr)) rfl ⟨_,rfl,_,rfl,rfl,rfl⟩
  refine Zk (Zs (KL QU GX rfl rfl fun v5=>Zm rfl (JL.append 0 QU GX rfl (.r rfl) rfl (U8 QU (.r rfl)) (by simpa using hr) rfl fun v7=>?_)))
  exact JL.isSlice 0 rfl fun hs1=>Za rfl (Zn (J.ret (Zr [.p] (RetEv.one rfl (REv.tmp rfl lr)) rfl ⟨_,rfl,_,rfl,hs1,rfl⟩)))
theorem No{cs:List (List AV)}{is:List V}{j:Nat}(fr:Bool)(hc:cs.length=j)(h:j<is.length):(cs++V.css fr (is.drop j))[j]? =some (V.cs fr is[j]):=by
  rw[List.getElem?_append_right (by omega),hc,Nat.sub_self,List.drop_eq_getElem_cons h];rfl
theorem Fx{cs:List (List AV)}{is:List V}{j:Nat}{fr:Bool}{z:List AV}(hc:cs.length=j)(h:j<is.length):(cs++V.css fr (is.drop j)).set j z=(cs++[z])++V.css fr (is.drop (j+1)):=by
  rw[List.set_append_right _ _ (by omega),hc,Nat.sub_self,List.drop_eq_getElem_cons h]
  simp[V.css]
theorem U4{ys zs:List AV}(h:zs.length=ys.length):Q1 ys 0 zs=zs:=by unfold Q1;simp[h]
theorem clone_n:∀(n:Nat) {v:V} {ys:List AV} {fr:Bool},Vc fr v ys→v.wf→v.sz≤n→AC Tryz.prog 61 [] [.agg ys] (YV (Cq v)):=by
  intro n
  induction n with
  |zero=>intro v ys fr hv hw h;exact absurd h (by have:=V.sz_pos v;omega)
  |succ n ih=>
    intro v ys fr hv hw hn
    obtain⟨k,b,t,ks,is⟩:=v
    subst hv
    obtain⟨-,-,-,hk16,hi80,-,hwi⟩:=hw.inv
    have h1:is.length≤9223372036854775806:=by unfold Qr at hi80;omega
    refine AC.of_J Tryz.func61 rfl Tryz.ntmps61 rfl fun w0 A0=>?_
    refine Zs (Qs (.r rfl) rfl fun b1=>JL.alloc Yd rfl rfl fun b2=>Zn (J.seq (WW 7 2 (fun os_ ow_ x_ o_=>match os_ with|[]=>(∃o2_,(Gy Wz (QP ks)) x_ o2_∧o_=QZ [] o2_ ow_)|[(x0_,_)]=>(∃o2_,(Gy eV (V.css fr is)) x_ o2_∧o_=QZ [] o2_ ow_)|_=>False) mixed (by kernel_rfl) (by kernel_rfl) (by kernel_rfl) rfl ?_)))
    refine OutK.quiet [] rfl rfl rfl (fun qs_ qv_ ql_=>(.q rfl (Qf YQ (.r rfl) rfl))) ?_
    refine OutK.quiet [5] rfl rfl rfl (fun qs_ qv_ ql_=>by
        rcases qs_ with _|⟨⟨y0,p0⟩,qs_⟩
        · skip
          exact(.q rfl (Qb 1 Ge (.r rfl) rfl rfl))
        rcases qs_ with _|⟨⟨y1,p1⟩,qs_⟩
        · skip
          obtain⟨hr0,_⟩:=qv_
          obtain⟨o7,⟨kv7,rfl,hs7,rfl⟩,rfl⟩:=hr0
          exact(.q rfl (Qb 1 Ge (.r rfl) rfl rfl))
        rcases qs_ with _|⟨⟨y2,p2⟩,qs_⟩
        · skip
          obtain⟨hr1,hr0,_⟩:=qv_
          obtain⟨o7,⟨kv7,rfl,hs7,rfl⟩,rfl⟩:=hr0
          obtain⟨o10,⟨iv10,rfl,hs10,rfl⟩,rfl⟩:=hr1
          exact(.q rfl (Qb 1 Ge (.r rfl) rfl rfl))
        exact absurd ql_ (by simp)) ?_
    refine OutK.loud [6] rfl rfl rfl rfl rfl (fun qs_ qv_ ql_=>by
        obtain rfl:qs_=[]:=List.length_eq_zero_iff.1 ql_
        exact LStepR.callRF (d:=7) [] QaJ Lent.nil (fun _=>(.cons (.r rfl) .nil)) (Tt _ (by rw[Qp];exact hk16)) (.inl rfl)) ?_
    refine OutK.quiet [] rfl rfl rfl (fun qs_ qv_ ql_=>(.q rfl (Qf Uv (.r rfl) rfl))) ?_
    refine OutK.quiet [8] rfl rfl rfl (fun qs_ qv_ ql_=>by
        rcases qs_ with _|⟨⟨y0,p0⟩,qs_⟩
        · skip
          exact(.q rfl (Qb 1 WP (.r rfl) rfl rfl))
        rcases qs_ with _|⟨⟨y1,p1⟩,qs_⟩
        · skip
          obtain⟨hr0,_⟩:=qv_
          obtain⟨o7,⟨kv7,rfl,hs7,rfl⟩,rfl⟩:=hr0
          exact(.q rfl (Qb 1 WP (.r rfl) rfl rfl))
        rcases qs_ with _|⟨⟨y2,p2⟩,qs_⟩
        · skip
          obtain⟨hr1,hr0,_⟩:=qv_
          obtain⟨o7,⟨kv7,rfl,hs7,rfl⟩,rfl⟩:=hr0
          obtain⟨o10,⟨iv10,rfl,hs10,rfl⟩,rfl⟩:=hr1
          exact(.q rfl (Qb 1 WP (.r rfl) rfl rfl))
        exact absurd ql_ (by simp)) ?_
    refine OutK.loud [9] rfl rfl rfl rfl rfl (fun qs_ qv_ ql_=>by
        obtain⟨⟨y0,p0⟩,qs_,rfl⟩:∃p t,qs_=p::t:=by(cases qs_ with|nil=>simp at ql_|cons p t=>exact⟨p,t,rfl⟩)
        obtain rfl:qs_=[]:=List.length_eq_zero_iff.1 (by simpa using ql_)
        obtain⟨hr0,_⟩:=qv_
        obtain⟨o7,⟨kv7,rfl,hs7,rfl⟩,rfl⟩:=hr0
        exact LStepR.callRF (d:=10) [] QaI Lent.nil (fun _=>(.cons (.r rfl) .nil)) (Ts _ (by rw[V.css_length];exact hi80)) (.inl rfl)) ?_
    refine OutK.quiet [] rfl rfl rfl (fun qs_ qv_ ql_=>(.q rfl (Qf YQ (.r rfl) rfl))) ?_
    refine .nil fun qs_ qv_ ql_=>?_
    obtain⟨⟨y1,p1⟩,qs_,rfl⟩:∃p t,qs_=p::t:=by(cases qs_ with|nil=>simp at ql_|cons p t=>exact⟨p,t,rfl⟩)
    simp only[List.length_cons,Nat.add_right_cancel_iff]at ql_
    obtain⟨⟨y0,p0⟩,qs_,rfl⟩:∃p t,qs_=p::t:=by(cases qs_ with|nil=>simp at ql_|cons p t=>exact⟨p,t,rfl⟩)
    obtain rfl:qs_=[]:=List.length_eq_zero_iff.1 (by simpa using ql_)
    obtain⟨hr1,hr0,_⟩:=qv_
    obtain⟨o7,⟨kv7,rfl,hs7,rfl⟩,rfl⟩:=hr0
    obtain⟨o10,⟨iv10,rfl,hs10,rfl⟩,rfl⟩:=hr1
    refine JL.conv (by(try simp only[nl,Qj,QA,QC,Qy,QZ,AV.cellsOf,Qc,Qd,Nat.reduceAdd]);rfl) ?_
    refine JL.store_box 1 Ge (.r rfl) rfl (.r rfl) (by assumption) rfl rfl rfl rfl ?_
    refine Zd Uv rfl (JL.store_box 1 WP (.r rfl) rfl (.r rfl) (by assumption) rfl rfl rfl rfl ?_)
    refine Zn (J.seq (Zs (Zd Uv rfl (Zl 1 WP rfl (Zq rfl (W7 3 QU (.r rfl) rfl) (Zq rfl (QW.move .const) (Zn (J.block (J.reown (YA _) ?_)))))))))
    refine Ua (ι:=Nat×List (List AV)×List Value×Own) [1,2,14,15] (fun⟨j,cs,us,o⟩=>[(16,.c (.int .i64 (j:Int)))]) (fun⟨j,cs,us,o⟩ oo=>List.set (List.set oo 3 (.arr iv10 eV (cs++V.css fr (is.drop j)))) 4 (o)) (fun⟨j,cs,us,o⟩=>j≤is.length∧KidsTr (is.take j) cs us o) (fun⟨j,cs,us,o⟩=>is.length-j) ⟨0,[],[],.grp []⟩ (⟨Nat.zero_le _,.nil⟩) (QQ (.cons rfl lr (.cons rfl lr (.cons rfl lr (.cons rfl lr (.cons rfl lr .nil))))) (Reown.refl _) (fun _ h=>by first|exact h|simp[h])) ?_
    intro⟨j,cs,us,o⟩ ⟨hj,hK⟩
    refine J.conv (by(try simp only[nl,Qj,QA,QC,Qy,QZ,AV.cellsOf,Qc,Qd,Nat.reduceAdd]);rfl) ?_
    refine Zs (Zq rfl (QW.lss (.r rfl) (.r rfl)) (Zn (J.seq ?_)))
    refine J.cond (.r rfl) (fun c1=>?_) (fun c1=>?_)
    · skip
      have hlt:j<is.length:=by simpa[V.css_length]using c1
      have hcl:cs.length=j:=by have:=hK.h2;rw[List.length_take]at this;omega
      refine Zk (J.seq (J.block (Zs (Zm rfl (Zq rfl (Y0 3 QU Ql rfl (.r rfl) rfl (.r rfl) rfl (by simp[V.css_length];omega) rfl) ?_)))))
      refine Zq rfl (DY 3 Ql (.r rfl) rfl (by exact No fr hcl hlt) rfl (CH vl) vl) ?_
      refine JL.alloc Yd rfl rfl fun b4=>Za rfl (Qa 0 Ql (.r rfl) rfl (.r rfl) rfl vl rfl rfl (Zn (WW 5 1 (fun os_ ow_ x_ o_=>match os_ with|[]=>(∃o2_,(Cq is[j]) x_ o2_∧o_=QZ [] o2_ ow_)|_=>False) mixed (by kernel_rfl) (by kernel_rfl) (by kernel_rfl) rfl ?_)))
      refine OutK.quiet [] rfl rfl rfl (fun qs_ qv_ ql_=>(.q rfl (Qf Uv (.r rfl) rfl))) ?_
      refine OutK.quiet [21] rfl rfl rfl (fun qs_ qv_ ql_=>by
          rcases qs_ with _|⟨⟨y0,p0⟩,qs_⟩
          · skip
            exact(.q rfl (Qb 2 WP (.r rfl) rfl rfl))
          rcases qs_ with _|⟨⟨y1,p1⟩,qs_⟩
          · skip
            obtain⟨hr0,_⟩:=qv_
            obtain⟨o25,⟨kv25,iv25,ok25,oi25,rfl,rfl,hV25⟩,rfl⟩:=hr0
            exact(.q rfl (Qb 2 WP (.r rfl) rfl rfl))
          exact absurd ql_ (by simp)) ?_
      refine OutK.quiet [] rfl rfl rfl (fun qs_ qv_ ql_=>(.q rfl (QW.move (.r rfl)))) ?_
      refine OutK.quiet [] rfl rfl rfl (fun qs_ qv_ ql_=>by
          rcases qs_ with _|⟨⟨y0,p0⟩,qs_⟩
          · skip
            exact(.q rfl (Qe 0 Ql (.r rfl) rfl (Qo vl rfl) vl))
          rcases qs_ with _|⟨⟨y1,p1⟩,qs_⟩
          · skip
            obtain⟨hr0,_⟩:=qv_
            obtain⟨o25,⟨kv25,iv25,ok25,oi25,rfl,rfl,hV25⟩,rfl⟩:=hr0
            exact(.q rfl (Qe 0 Ql (.r rfl) rfl (Qo vl rfl) vl))
          exact absurd ql_ (by simp)) ?_
      refine OutK.loud [24] rfl rfl rfl rfl rfl (fun qs_ qv_ ql_=>by
          obtain rfl:qs_=[]:=List.length_eq_zero_iff.1 ql_
          exact LStepR.callRF (d:=25) [] LX Lent.nil (fun _=>(.cons (.r rfl) .nil)) (ih Vc.self (hwi _ (List.getElem_mem _)) (V.sz_get hn hlt)) (.inl rfl)) ?_
      refine .nil fun qs_ qv_ ql_=>?_
      obtain⟨⟨y0,p0⟩,qs_,rfl⟩:∃p t,qs_=p::t:=by(cases qs_ with|nil=>simp at ql_|cons p t=>exact⟨p,t,rfl⟩)
      obtain rfl:qs_=[]:=List.length_eq_zero_iff.1 (by simpa using ql_)
      obtain⟨hr0,_⟩:=qv_
      obtain⟨o25,⟨kv25,iv25,ok25,oi25,rfl,rfl,hV25⟩,rfl⟩:=hr0
      refine JL.conv (by(try simp only[nl,Qj,QA,QC,Qy,QZ,AV.cellsOf,Qc,Qd,Nat.reduceAdd]);rfl) ?_
      refine Zq rfl (Y0 4 QU Ql rfl (.r rfl) rfl (.r rfl) rfl (by simp[V.css_length];omega) rfl) ?_
      refine YK 4 Ql (.r rfl) rfl (No fr hcl hlt) rfl (.r rfl) rfl rfl rfl ((congrArg (List.set _ _) (U4 (by rw[V.cs_length];try rfl))).trans (Fx hcl hlt)) rfl ?_
      refine JL.nil (blkQ.n (thenQ.n (Qg (Zq rfl (QW.add (.r rfl) .const (Yy (by omega))) (Zm rfl (Zn ?_))))))
      exact⟨⟨j+1,cs++[is[j].raw kv25 iv25],us++is[j].vals kv25 iv25,.grp [o,.grp [ok25,oi25]]⟩,⟨hlt,by rw[List.take_succ_eq_append_getElem hlt];exact hK.snoc hV25⟩,by show is.length-(j+1)<is.length-j;omega,QQ (.cons rfl lr (.cons rfl lr (.cons rfl lr (.cons rfl lr (.cons rfl lr .nil))))) ((Q3 1 _ rfl).trans (Reown.cons (Reown.cons (Reown.cons (Reown.cons (FI _ _ _ _)))))) (fun _ h=>by first|exact h|simp[h])⟩
    have hge:is.length≤j:=by simpa[V.css_length]using c1
    refine J.exit (Qz (Qz (QY (thenQ.n (J.seq (J.reown (Reown.cons (Reown.cons (Reown.cons (W5 _ _ _)))) (Qg (Zq rfl (Qe 1 Ql (.r rfl) rfl rfl rfl) (Qa 0 Ql (.r rfl) rfl (.r rfl) rfl rfl rfl rfl ?_)))))))))
    refine Zn (J.ret ?_)
    obtain rfl:j=is.length:=by omega
    rw[List.take_length]at hK
    exact Zr [.k,.k,.p,.p] (RetEv.one rfl (REv.cell 0 Ql rfl rfl rfl rfl lr)) rfl ⟨_,rfl,_,_,_,_,rfl,rfl,hs7,hs10,NS hk16,by rw[show cs++V.css fr (is.drop is.length)=cs by simp[V.css]];exact hK.tr hi80⟩
theorem L8{v:V}{ys:List AV}{fr:Bool}(hv:Vc fr v ys)(hw:v.wf):AC Tryz.prog 61 [] [.agg ys] (YV (Cq v)):=clone_n _ hv hw (Nat.le_refl _)
theorem Tq{v:V}{ys:List AV}{fr:Bool}(hv:Vc fr v ys)(hw:v.wf):Fn Tryz.prog 61 [.agg ys] (.agg (v.cs true)):=.ofCopy (L8 hv hw)

end
section
/- Steps into values: what is found, got and set, as plain data. -/
structure StT where
  isKey:Bool
  key:QN
  index:Int
  deriving DecidableEq
def eSt:U7:=⟨3,32⟩
def StT.cs(s:StT):List AV:=[.c (.bool s.isKey),.c (Q4 s.key),.c (.int .i64 s.index)]
def StT.css(l:List StT):List (List AV):=l.map StT.cs
theorem StT.css_length(l:List StT):(StT.css l).length=l.length:=by simp[StT.css]
theorem StT.css_getE{l:List StT}{i:Nat}(h:i<l.length):(StT.css l)[i]? =some l[i].cs:=by simp[StT.css,h]
structure StT.wf(s:StT):Prop where
  k:s.key.length≤Qr
  i: -9223372036854775808≤s.index∧s.index≤9223372036854775807
def Sc(s:StT)(ys:List AV):Prop:=ys=s.cs
theorem Sc.self{s:StT}:Sc s s.cs:=rfl
/-! ### texts in order -/
theorem GM:∀a:QN,Op.bytesLess a a=false
  |[]=>rfl
  |x::a=>by simp[Op.bytesLess,GM a]
theorem W3:∀{a b c:QN},Op.bytesLess a b=true→Op.bytesLess b c=true→Op.bytesLess a c=true
  |a,[],_,h,_=>by cases a<;>simp[Op.bytesLess]at h
  |[],y::b,z::c,_,_=>rfl
  |_,y::b,[],_,h=>by simp[Op.bytesLess]at h
  |x::a,y::b,z::c,h,k=>by
    simp only[Op.bytesLess,Bool.or_eq_true,decide_eq_true_eq,Bool.and_eq_true,beq_iff_eq,UInt8.lt_iff_toNat_lt]at h k⊢
    rcases h with h|⟨rfl,h⟩
    · rcases k with k|⟨rfl,k⟩
      · exact .inl (by omega)
      · exact .inl h
    · rcases k with k|⟨rfl,k⟩
      · exact .inl k
      · exact .inr ⟨rfl,W3 h k⟩
theorem GL(a b:QN):Op.bytesLess a b=true∨a=b∨Op.bytesLess b a=true:=by
  have:=WV a b
  cases h:Op.bytesLess b a with
  |true=>exact .inr (.inr rfl)
  |false=>
    rw[h]at this
    simp only[Bool.not_false,Bool.or_eq_true,beq_iff_eq]at this
    exact this.elim .inl fun h=>.inr (.inl h)
theorem C5{a b:QN}(h:Op.bytesLess a b=true):Op.bytesLess b a=false:=by
  cases k:Op.bytesLess b a with
  |false=>rfl
  |true=>have:=W3 h k;rw[GM]at this;cases this
def Rm(l:List QN):Prop:=List.Pairwise (fun a b=>Op.bytesLess a b=true) l
theorem ME{l:List QN}(h:Hr l=true):Rm l:=by
  have hk:∀j,j<l.length→HY l j=true:=fun j hj=>List.all_eq_true.1 h j (by simpa using hj)
  rw[Rm,List.pairwise_iff_getElem]
  intro i j hi hj hij
  induction j with
  |zero=>omega
  |succ j ih=>
    have h1:=hk (j+1) hj
    simp only[HY,Bool.and_eq_true,Bool.or_eq_true,beq_iff_eq,Nat.add_sub_cancel]at h1
    have h2:Op.bytesLess l[j] l[j+1]=true:=by
      have:=h1.2.resolve_left (by omega)
      simpa[List.getD,hj,show j<l.length by omega]using this
    by_cases he:i=j
    · subst he;exact h2
    · exact W3 (ih (by omega) (by omega)) h2
def M5:List QN→QN→Nat
  |[],_=>0
  |k::r,s=>if Op.bytesLess k s then M5 r s+1 else 0
theorem Df:∀(l:List QN) (s:QN),M5 l s≤l.length
  |[],_=>Nat.le_refl _
  |k::r,s=>by
    have:=Df r s
    unfold M5
    split
    · simp;exact this
    · exact Nat.zero_le _
theorem BQ:∀{l:List QN} {s:QN} {i:Nat} (h:i<l.length),i<M5 l s→Op.bytesLess l[i] s=true
  |k::r,s,i,h,hi=>by
    unfold M5 at hi
    split at hi
    · rename_i hk
      cases i with
      |zero=>exact hk
      |succ i=>exact BQ (l:=r) (by simpa using h) (by omega)
    · omega
theorem BR:∀{l:List QN} {s:QN} (h:M5 l s<l.length),Op.bytesLess l[M5 l s] s=false
  |k::r,s,h=>by
    by_cases hk:Op.bytesLess k s=true
    · have e:M5 (k::r) s=M5 r s+1:=by rw[M5,if_pos hk]
      simp only[e,List.getElem_cons_succ]
      exact BR (by rw[e]at h;simpa using h)
    · have e:M5 (k::r) s=0:=by rw[M5,if_neg hk]
      simp only[e,List.getElem_cons_zero]
      simpa using hk
theorem low_ge{l:List QN}{s:QN}(hs:Rm l){i:Nat}(h:i<l.length)(hi:M5 l s≤i):Op.bytesLess l[i] s=false:=by
  have h0:=BR (l:=l) (s:=s) (by omega)
  by_cases he:M5 l s=i
  · simp only[he]at h0;exact h0
  · cases hc:Op.bytesLess l[i] s with
    |false=>rfl
    |true=>
      have:=(List.pairwise_iff_getElem.1 hs) (M5 l s) i (by omega) h (by omega)
      rw[W3 this hc]at h0
      cases h0
/-! ### values that may be -/
inductive V.Fine:V→Prop
  |mk {v:V} (h:Uc v=true) (hs:∀x∈v.items,V.Fine x):V.Fine v
theorem V.Fine.part{v:V}(h:v.Fine):Uc v=true:=by cases h;assumption
theorem V.Fine.kid{v:V}(h:v.Fine){x:V}(hx:x∈v.items):x.Fine:=by cases h with|mk _ h=>exact h x hx
mutual
theorem V.fine_chk:∀(v:V) (lev n:Int),(v.chk lev n).1=0→v.Fine
  |.mk k b t ks is,lev,n,h=>by
    unfold V.chk at h
    split at h
    · simp at h
    · split at h
      · simp at h
      · split at h
        · simp at h
        · rename_i hp
          exact .mk (by simpa using hp) (V.fine_chks is lev (n+1) h)
theorem V.fine_chks:∀(l:List V) (lev n:Int),(V.chks l lev n).1=0→∀x∈l,x.Fine
  |[],_,_,_=>fun _ h=>by cases h
  |y::r,lev,n,h=>fun x hx=>by
    unfold V.chks at h
    split at h
    · rename_i h';exact absurd h h'
    · rename_i h'
      rcases List.mem_cons.1 hx with e|hx
      · rw[e];exact V.fine_chk y (lev+1) n (by simpa using h')
      · exact V.fine_chks r lev _ h x hx
end
theorem V.fine_of{v:V}(h:v.err=0):v.Fine:=V.fine_chk v 1 0 h
theorem X0{v:V}(h:Uc v=true)(hk:v.kind=5):v.keys.length=v.items.length∧Hr v.keys=true:=by
  obtain⟨k,b,t,ks,is⟩:=v
  simp only[V.kind]at hk
  subst hk
  simp[Uc]at h
  exact⟨h.1.2,h.2⟩
theorem Xa{v:V}(h:Uc v=true):v.items.length≤32∧v.keys.length≤32:=by
  obtain⟨k,b,t,ks,is⟩:=v
  unfold Uc at h
  simp only[V.items,V.keys]
  repeat' split at h
  all_goals (simp at h;try grind)
/-! ### steps -/
def V.fnd(v:V)(s:StT):Nat×Int:=
  if s.isKey=true then(if v.kind=5 then(M5 v.keys s.key,if v.keys[M5 v.keys s.key]? =some s.key then 0 else 71)else(0,81))
  else if v.kind=4 then(if s.index<0∨(v.items.length:Int)≤s.index then(0,82)else(s.index.toNat,0))else(0,81)
theorem G6{v:V}{s:StT}(hv:Uc v=true)(h:(v.fnd s).2=0):(v.fnd s).1<v.items.length:=by
  unfold V.fnd at h⊢
  split
  · rename_i h1
    rw[if_pos h1]at h
    split
    · rename_i h2
      rw[if_pos h2]at h
      simp only at h⊢
      split at h
      · rename_i h3
        rw[← (X0 hv h2).1]
        exact(List.getElem?_eq_some_iff.1 h3).1
      · simp at h
    · rename_i h2
      rw[if_neg h2]at h
      simp at h
  · rename_i h1
    rw[if_neg h1]at h
    split
    · rename_i h2
      rw[if_pos h2]at h
      split
      · rename_i h3
        rw[if_pos h3]at h
        simp at h
      · simp only;omega
    · rename_i h2
      rw[if_neg h2]at h
      simp at h
def V.kid(v:V)(i:Nat):V:=v.items.getD i .nil
def V.setAt(v:V)(i:Nat)(x:V):V:=.mk v.kind v.bits v.text v.keys (v.items.set i x)
def V.ins(v:V)(s:StT)(i:Nat)(x:V):V:=.mk v.kind v.bits v.text (if s.isKey=true then v.keys.take i++[s.key]++v.keys.drop i else v.keys) (v.items.take i++[x]++v.items.drop i)
def V.grw(v:V)(s:StT)(i:Nat)(e:Int):Nat×Int:=
  if e=71∧M6 s.key=false then(0,31)else if e=82∧s.index=v.items.length then(if 32≤v.items.length then(0,3)else(v.items.length,0))else if e≠71 then(0,e)else if 32≤v.items.length then(0,3)else(i,0)
def V.put(v:V)(s:StT)(x:V):V×Int:=
  if(v.fnd s).2=0 then(v.setAt (v.fnd s).1 x,0)else if(v.grw s (v.fnd s).1 (v.fnd s).2).2=0 then(v.ins s (v.grw s (v.fnd s).1 (v.fnd s).2).1 x,0)else(.nil,(v.grw s (v.fnd s).1 (v.fnd s).2).2)
def V.set:V→List StT→V→V×Int
  |_,[],x=>(x,0)
  |v,[s],x=>v.put s x
  |v,s::t::r,x=>if(v.fnd s).2≠0 then(.nil,(v.fnd s).2)else if(V.set (v.kid (v.fnd s).1) (t::r) x).2≠0 then(.nil,(V.set (v.kid (v.fnd s).1) (t::r) x).2)else(v.setAt (v.fnd s).1 (V.set (v.kid (v.fnd s).1) (t::r) x).1,0)
def V.setv(v:V)(p:List StT)(x:V):V×Int:=
  if v.err≠0 then(.nil,v.err)else if x.err≠0 then(.nil,x.err)else if(v.set p x).2≠0 then(.nil,(v.set p x).2)else if(v.set p x).1.err≠0 then(.nil,(v.set p x).1.err)else((v.set p x).1,0)
def V.walk:V→List StT→V×Int
  |v,[]=>(v,0)
  |v,s::r=>if(v.fnd s).2≠0 then(.nil,(v.fnd s).2)else V.walk (v.kid (v.fnd s).1) r
def V.getv(v:V)(p:List StT):V×Int:=if v.err≠0 then(.nil,v.err)else v.walk p
theorem XQ{v:V}{i:Nat}(h:i<v.items.length):v.kid i∈v.items:=by
  unfold V.kid;simp[List.getD,h]
theorem TF{v:V}{i:Nat}(h:i<v.items.length):v.kid i=v.items[i]:=by
  unfold V.kid;simp[List.getD,h]
theorem V.wf.kid{v:V}(h:v.wf){x:V}(hx:x∈v.items):x.wf:=by obtain⟨k,b,t,ks,is⟩:=v;exact h.inv.2.2.2.2.2.2 x hx
theorem Gx{v x:V}{i:Nat}(h:v.wf)(hx:x.wf):(v.setAt i x).wf:=by
  obtain⟨k,b,t,ks,is⟩:=v
  obtain⟨h1,h2,h3,h4,h5,h6,h7⟩:=h.inv
  exact .mk h1 h2 h3 h4 (by simpa[V.items]using h5) h6 fun y hy=>(List.mem_or_eq_of_mem_set hy).elim (h7 y) fun e=>e▸hx
theorem TG{v x:V}{s:StT}{i:Nat}(h:v.wf)(hf:Uc v=true)(hs:s.wf)(hx:x.wf):(v.ins s i x).wf:=by
  obtain⟨k,b,t,ks,is⟩:=v
  obtain⟨h1,h2,h3,h4,h5,h6,h7⟩:=h.inv
  obtain⟨l1,l2⟩:=Xa hf
  simp only[V.items,V.keys]at l1 l2
  refine .mk h1 h2 h3 ?_ ?_ ?_ ?_
  · simp only[V.keys]
    split
    · simp only[List.length_append,List.length_take,List.length_drop,List.length_singleton];unfold Qr;omega
    · exact h4
  · simp only[V.items,List.length_append,List.length_take,List.length_drop,List.length_singleton];unfold Qr;omega
  · simp only[V.keys]
    intro z hz
    split at hz
    · simp only[List.mem_append,List.mem_singleton]at hz
      rcases hz with (hz|rfl)|hz
      · exact h6 z (List.mem_of_mem_take hz)
      · exact hs.k
      · exact h6 z (List.mem_of_mem_drop hz)
    · exact h6 z hz
  · simp only[V.items]
    intro z hz
    simp only[List.mem_append,List.mem_singleton]at hz
    rcases hz with (hz|rfl)|hz
    · exact h7 z (List.mem_of_mem_take hz)
    · exact hx
    · exact h7 z (List.mem_of_mem_drop hz)
theorem PL{v x:V}{s:StT}(h:v.wf)(hf:Uc v=true)(hs:s.wf)(hx:x.wf):(v.put s x).1.wf:=by
  unfold V.put
  split
  · exact Gx h hx
  · split
    · exact TG h hf hs hx
    · exact V.wf_nil
theorem Me:∀{p:List StT} {v x:V},v.wf→v.Fine→(∀s∈p,s.wf)→x.wf→(v.set p x).1.wf
  |[],v,x,_,_,_,hx=>hx
  |[s],v,x,h,hf,hs,hx=>PL h hf.part (hs s (by simp)) hx
  |s::t::r,v,x,h,hf,hs,hx=>by
    unfold V.set
    split
    · exact V.wf_nil
    · rename_i he
      have hlt:=G6 hf.part (by simpa using he)
      split
      · exact V.wf_nil
      · exact Gx h (Me (h.kid (XQ hlt)) (hf.kid (XQ hlt)) (fun s hs'=>hs s (List.mem_cons_of_mem _ hs')) hx)
theorem FD{v x:V}{p:List StT}(h:v.wf)(hs:∀s∈p,s.wf)(hx:x.wf):(v.setv p x).1.wf:=by
  unfold V.setv
  split
  · exact V.wf_nil
  · rename_i he
    split
    · exact V.wf_nil
    · split
      · exact V.wf_nil
      · split
        · exact V.wf_nil
        · exact Me h (V.fine_of (by simpa using he)) hs hx

end
section
/- The order of values, as plain data. -/
def HE(a b:Int):Int:=if a<b then -1 else if b<a then 1 else 0
def XP(a b:QN):Int:=if Op.bytesLess a b then -1 else if Op.bytesLess b a then 1 else 0
def Er(a b:Int):Int:=if a≠0 then a else b
def K0:List QN→List QN→Int
  |[],[]=>0
  |[],_::_=> -1
  |_::_,[]=>1
  |x::r,y::s=>Er (XP x y) (K0 r s)
def Rk(k:Int)(b:Nat):Nat:=if k=2 then Gk b else b
mutual
def V.ord:V→V→Int
  |.mk k b t ks is,.mk k' b' t' ks' is'=>Er (HE k k') (Er (HE (Rk k b) (Rk k b')) (Er (XP t t') (Er (K0 ks ks') (Ww is is'))))
def Ww:List V→List V→Int
  |[],[]=>0
  |[],_::_=> -1
  |_::_,[]=>1
  |x::r,y::s=>Er (x.ord y) (Ww r s)
end
theorem cmpS_lt{a b:QN}:XP a b<0↔Op.bytesLess a b=true:=by
  unfold XP
  cases h:Op.bytesLess a b<;>simp
  split<;>omega
def V.cmp(a b:V):Int×Int:=if a.err≠0 then(0,a.err)else if b.err≠0 then(0,b.err)else(a.ord b,0)
def V.one(a b:V):Bool:=(a.cmp b).1==0&&(a.cmp b).2==0

end
section
/- Numbers: what can be written exactly is; the floor and what is cut off, as whole numbers. -/
theorem Nl(way:Ieee.Toward)(s:Bool)(k d:Nat):way.cut s (k*2^d) d=k:=by
  have hg:∃g,(1<<<min d ((k*2^d).log2+2)=g)∧0<g∧(k*2^d) / g=k∧(k*2^d)%g=0:=by
    refine⟨_,rfl,?_,?_⟩
    · rw[Nat.shiftLeft_eq,Nat.one_mul];exact Nat.two_pow_pos _
    · rw[Nat.shiftLeft_eq,Nat.one_mul]
      by_cases hk:k=0
      · subst hk;simp
      · have hd:d≤(k*2^d).log2:=by
          rw[Nat.le_log2 (Nat.mul_ne_zero hk (Nat.ne_of_gt (Nat.two_pow_pos _)))]
          exact Nat.le_mul_of_pos_left _ (Nat.pos_of_ne_zero hk)
        rw[Nat.min_eq_left (by omega)]
        exact⟨Nat.mul_div_cancel _ (Nat.two_pow_pos _),Nat.mul_mod_left _ _⟩
  obtain⟨g,h1,h2,h3,h4⟩:=hg
  unfold Ieee.Toward.cut
  simp only[h1,h3,h4]
  cases way<;>simp<;>omega
theorem L6(way:Ieee.Toward)(s:Bool)(k:Nat):way.cut s k 0=k:=by
  have:=Nl way s k 0
  rwa [Nat.pow_zero,Nat.mul_one]at this
theorem M3:UF 0=0:=by decide
theorem BP{r:Nat}(h:UF r=0):r=0:=Xb.2.1 (h.trans M3.symm)
theorem Dg{m i V:Nat}(hm:m≠0)(h:m*2^i=V):2^(m.log2+i)≤V∧V<2^(m.log2+i+1):=by
  have h1:2^m.log2≤m:=(Nat.le_log2 hm).1 (Nat.le_refl _)
  have h2:m<2^(m.log2+1):=(Nat.log2_lt hm).1 (by omega)
  subst h
  rw[Nat.pow_add,show m.log2+i+1=(m.log2+1)+i by omega,Nat.pow_add 2 (m.log2+1)]
  exact⟨Nat.mul_le_mul_right _ h1,Nat.mul_lt_mul_of_pos_right h2 (Nat.two_pow_pos _)⟩
theorem T4{a b:Nat}(h:2^a<2^b):a<b:=(Nat.pow_lt_pow_iff_right (by decide)).1 h
theorem HU{m i a q:Nat}(h:m*2^i=q*2^a)(ha:a≤i):m*2^(i-a)=q:=by
  have:m*2^(i-a)*2^a=q*2^a:=by rw[Nat.mul_assoc,← Nat.pow_add,Nat.sub_add_cancel ha,h]
  exact Nat.eq_of_mul_eq_mul_right (Nat.two_pow_pos _) this
theorem LS{s:Bool}{m:Nat}{i:Nat}(hm:m≠0)(a:Nat)(ha:(a:Int)=max ((m.log2:Int)+i-52) 0):
    Ieee.double.nearest s m (Ul+i)=Ieee.double.word s (min (a*2^52+Ieee.Toward.even.cut s (m*2^(i-a)) (a-i)) Ux):=by
  unfold Ieee.Format.nearest
  rw[if_neg hm]
  have hl:max (Ul+(i:Int)+(m.log2:Int)-((Ieee.double.fractionBits:Nat):Int)) Ieee.double.leastPlace=Ul+(a:Int):=by
    have e:Ieee.double.leastPlace=Ul:=by decide
    have e2:((Ieee.double.fractionBits:Nat):Int)=52:=by decide
    rw[e,e2,ha]
    omega
  simp only[hl]
  have e3:Ieee.double.leastPlace=Ul:=by decide
  rw[e3,show(Ul+(i:Int)-(Ul+(a:Int))).toNat=i-a by omega,show(Ul+(a:Int)-(Ul+(i:Int))).toNat=a-i by omega,show(Ul+(a:Int)-Ul).toNat=a by omega,Nat.shiftLeft_eq]
  rfl
theorem MC{s:Bool}{m r:Nat}(i:Nat)(h:m*2^i=UF r)(hf:r<Ux):Ieee.double.nearest s m (Ul+i)=Ieee.double.word s r:=by
  by_cases hm:m=0
  · subst hm
    rw[Nat.zero_mul]at h
    rw[BP h.symm]
    simp[Ieee.Format.nearest]
  · have hb:=Dg hm h
    by_cases h1:r<2^52
    · have hv:UF r=r:=by simp[UF,h1]
      rw[hv]at h hb
      have:m.log2+i<52:=T4 (Nat.lt_of_le_of_lt hb.1 h1)
      rw[LS hm 0 (by omega),Nat.sub_zero,Nat.zero_sub,L6,h,Nat.zero_mul,Nat.zero_add,Nat.min_eq_left (Nat.le_of_lt hf)]
    · obtain⟨a,f,hr,hff,hv⟩:∃a f,r=(a+1)*2^52+f∧f<2^52∧UF r=(2^52+f)*2^a:=
        ⟨r / 2^52-1,r%2^52,by omega,Nat.mod_lt _ (by decide),by simp[UF,h1]⟩
      rw[hv]at h hb
      have hp:=Nat.two_pow_pos a
      have e1:2^(m.log2+i)<2^(53+a):=by
        refine Nat.lt_of_le_of_lt hb.1 ?_
        rw[Nat.pow_add]
        exact Nat.mul_lt_mul_of_pos_right (by omega) hp
      have e2:2^(52+a)<2^(m.log2+i+1):=by
        refine Nat.lt_of_le_of_lt ?_ hb.2
        rw[Nat.pow_add]
        exact Nat.mul_le_mul_right _ (by omega)
      have e3:=T4 e1
      have e4:=T4 e2
      have hk:Ieee.Toward.even.cut s (m*2^(i-a)) (a-i)=2^52+f:=by
        by_cases hia:a≤i
        · rw[show a-i=0 by omega,L6,HU h hia]
        · rw[show i-a=0 by omega,Nat.pow_zero,Nat.mul_one,← HU h.symm (by omega),Nl]
      rw[LS hm a (by omega),hk,show a*2^52+(2^52+f)=r by omega,Nat.min_eq_left (Nat.le_of_lt hf)]
def uP:Nat:=1074
theorem Ee:uP=1074:=rfl
def Uz:Nat:=2^uP
theorem XW:Uz=2^uP:=rfl
theorem Gd{k:Nat}(h:k≤2^53):∃r,r<Ux∧UF r=k*Uz∧r≤1076*2^52:=by
  have hu:=XW
  by_cases h0:k=0
  · exact⟨0,by decide,by rw[h0,Nat.zero_mul];exact M3,by decide⟩
  by_cases h1:k=2^53
  · refine⟨1076*2^52,by decide,?_,Nat.le_refl _⟩
    unfold UF
    rw[if_neg (by omega),show 1076*2^52%2^52=0 by omega,show 1076*2^52 / 2^52-1=1+uP by have:=Ee;omega,Nat.add_zero,h1,hu,Nat.pow_add,← Nat.mul_assoc]
  · have hl:k.log2<53:=(Nat.log2_lt h0).2 (by omega)
    have a1:2^k.log2≤k:=(Nat.le_log2 h0).1 (Nat.le_refl _)
    have a2:k<2^(k.log2+1):=(Nat.log2_lt h0).1 (by omega)
    have b1:2^52≤k*2^(52-k.log2):=by
      have:=Nat.mul_le_mul_right (2^(52-k.log2)) a1
      rwa [← Nat.pow_add,Nat.add_sub_cancel' (show k.log2≤52 by omega)]at this
    have b2:k*2^(52-k.log2)<2^53:=by
      have:=Nat.mul_lt_mul_of_pos_right a2 (Nat.two_pow_pos (52-k.log2))
      rwa [← Nat.pow_add,show k.log2+1+(52-k.log2)=53 by omega]at this
    refine⟨(k.log2+1023)*2^52+(k*2^(52-k.log2)-2^52),?_,?_,by omega⟩
    · unfold Ux;omega
    · unfold UF
      rw[if_neg (by omega),show((k.log2+1023)*2^52+(k*2^(52-k.log2)-2^52))%2^52=k*2^(52-k.log2)-2^52 by omega,
        show((k.log2+1023)*2^52+(k*2^(52-k.log2)-2^52)) / 2^52-1=k.log2+1022 by omega,Nat.add_sub_cancel' b1,Nat.mul_assoc,← Nat.pow_add,hu]
      have e:52-k.log2+(k.log2+1022)=uP:=by rw[Ee];omega
      rw[e]
theorem GA:0<Uz:=by rw[XW];exact Nat.two_pow_pos _
theorem C2{r:Nat}(h:UF r%Uz≠0):UF r<2^52*Uz:=by
  have hu:=XW
  unfold UF at*
  split at h
  · rename_i h1
    rw[if_pos h1]
    exact Nat.lt_of_lt_of_le h1 (Nat.le_mul_of_pos_right _ GA)
  · rename_i h1
    rw[if_neg h1]
    have ha:r / 2^52-1<uP:=by
      apply Nat.lt_of_not_le
      intro hle
      apply h
      obtain⟨c,hc⟩:=Nat.exists_eq_add_of_le hle
      rw[hc,Nat.pow_add,← hu,Nat.mul_comm Uz,← Nat.mul_assoc]
      exact Nat.mul_mod_left _ _
    have hf:r%2^52<2^52:=Nat.mod_lt _ (by decide)
    obtain⟨w,hw⟩:∃w,uP=1+w:=⟨1073,rfl⟩
    calc (2^52+r%2^52)*2^(r / 2^52-1)≤(2^52+r%2^52)*2^w:=Nat.mul_le_mul_left _ (Nat.pow_le_pow_right (by decide) (by omega))
      _<(2^52*2^1)*2^w:=Nat.mul_lt_mul_of_pos_right (by omega) (Nat.two_pow_pos _)
      _=2^52*Uz:=by rw[hu,hw,Nat.pow_add 2 1 w,Nat.mul_assoc]
def YM(way:Ieee.Toward)(s:Bool)(V:Nat):Nat:=V / Uz+(way==.down&&s&&V%Uz !=0).toNat
theorem GP(way:Ieee.Toward)(hw:way=.down∨way=.zero){s:Bool}{m a:Nat}:
    (Ieee.Datum.number s m (Ul+a)).integral way=.number s (YM way s (m*2^a)) (Ul+(uP:Nat)):=by
  show Ieee.Datum.number s (way.cut s (m<<<(Ul+(a:Int)).toNat) (-(Ul+(a:Int))).toNat) 0=_
  have hp:=Ee
  have e0:Ul+((uP:Nat):Int)=0:=by decide
  rw[e0]
  congr 1
  have hu:=XW
  rw[Nat.shiftLeft_eq]
  have hl:Ul= -1074:=rfl
  by_cases h:uP≤a
  · obtain⟨c,rfl⟩:=Nat.exists_eq_add_of_le h
    rw[show(Ul+((uP+c:Nat):Int)).toNat=c by omega,show(-(Ul+((uP+c:Nat):Int))).toNat=0 by omega,L6]
    unfold YM
    have e:m*2^(uP+c)=m*2^c*Uz:=by rw[Nat.pow_add,← hu,Nat.mul_comm Uz,Nat.mul_assoc]
    rw[e,Nat.mul_div_cancel _ GA,Nat.mul_mod_left]
    simp
  · rw[show(Ul+(a:Int)).toNat=0 by omega,Nat.pow_zero,Nat.mul_one]
    obtain⟨d,hd⟩:∃d,(-(Ul+(a:Int))).toNat=d∧d+a=uP:=⟨_,rfl,by omega⟩
    rw[hd.1]
    have hU:Uz=2^d*2^a:=by rw[← Nat.pow_add,hd.2,hu]
    have q1:m*2^a / Uz=m / 2^d:=by rw[hU];exact Nat.mul_div_mul_right _ _ (Nat.two_pow_pos _)
    have q2:m*2^a%Uz=m%2^d*2^a:=by rw[hU];exact Nat.mul_mod_mul_right _ _ _
    have q3:(m*2^a%Uz !=0)=(m%2^d !=0):=by
      rw[q2,Bool.eq_iff_iff]
      have:=Nat.ne_of_gt (Nat.two_pow_pos a)
      simp only[bne_iff_ne,ne_eq,Nat.mul_eq_zero,this,or_false]
    unfold YM
    rw[q1,q3]
    unfold Ieee.Toward.cut
    have hg:∃g,1<<<min d (m.log2+2)=g∧m / g=m / 2^d∧m%g=m%2^d:=by
      refine⟨_,rfl,?_⟩
      rw[Nat.shiftLeft_eq,Nat.one_mul]
      by_cases hle:d≤m.log2+2
      · rw[Nat.min_eq_left hle];exact⟨rfl,rfl⟩
      · rw[Nat.min_eq_right (by omega)]
        have l1:m<2^(m.log2+2):=by
          by_cases hm:m=0
          · subst hm;exact Nat.two_pow_pos _
          · exact Nat.lt_trans ((Nat.log2_lt hm).1 (Nat.lt_succ_self _)) (Nat.pow_lt_pow_right (by decide) (by omega))
        have l2:m<2^d:=Nat.lt_of_lt_of_le l1 (Nat.pow_le_pow_right (by decide) (by omega))
        rw[Nat.div_eq_of_lt l1,Nat.div_eq_of_lt l2,Nat.mod_eq_of_lt l1,Nat.mod_eq_of_lt l2]
        exact⟨rfl,rfl⟩
    obtain⟨g,g1,g2,g3⟩:=hg
    simp only[g1,g2,g3]
    rcases hw with rfl|rfl
    · rfl
    · simp
theorem Gz{s:Bool}{k i r:Nat}(h:k*2^i=UF r)(hf:r<Ux):Ieee.double.write (.number s k (Ul+i))=Ieee.double.word s r:=MC i h hf
theorem MH(way:Ieee.Toward)(hw:way=.down∨way=.zero){b:Nat}(hb:Q7 b<Ux):
    ∃r,r<Ux∧Ieee.double.write ((My b).integral way)=Ieee.double.word (Kk b) r∧UF r=YM way (Kk b) (UF (Q7 b))*Uz:=by
  obtain⟨m,a,hd,hm⟩:=Y9 hb
  rw[hd,GP way hw,hm]
  have key:∃r,r<Ux∧UF r=YM way (Kk b) (UF (Q7 b))*Uz:=by
    by_cases hz:UF (Q7 b)%Uz=0
    · refine⟨Q7 b,hb,?_⟩
      unfold YM
      rw[hz]
      have:=Nat.div_add_mod (UF (Q7 b)) Uz
      rw[hz,Nat.add_zero,Nat.mul_comm]at this
      simp[this]
    · have h1:UF (Q7 b) / Uz<2^52:=(Nat.div_lt_iff_lt_mul GA).2 (C2 hz)
      have hb1:∀b:Bool,b.toNat≤1:=fun b=>by cases b<;>decide
      have h2:YM way (Kk b) (UF (Q7 b))≤2^53:=by unfold YM;have:=hb1 (way==.down&&Kk b&&UF (Q7 b)%Uz !=0);omega
      obtain⟨r,r1,r2,_⟩:=Gd h2
      exact⟨r,r1,r2⟩
  obtain⟨r,r1,r2⟩:=key
  exact⟨r,r1,Gz (by rw[r2,XW]) r1,r2⟩

end
section
/- Numbers: the laws of the floor, of whole numbers there and back, and of the page's own answers. -/
def svF(s:Bool)(V:Nat):Int:=if s then -(V:Int)else V
theorem TW{s:Bool}{r:Nat}(h:r<Ux):Q7 (Ieee.double.word s r)=r∧Kk (Ieee.double.word s r)=s∧Ieee.double.word s r<2^64:=Y1 (Nat.lt_trans h Lf)

end
section
/- Numbers: whole numbers there and back, and the page's own floor. -/
def WY(b:Nat):Prop:=UF (Q7 b)%Uz=0
instance (b:Nat):Decidable (WY b):=inferInstanceAs (Decidable (_=_))
def Kz:Nat:=1076*2^52
def YG(b:Nat):Int:=if Ux≤Q7 b∨¬WY b then 7 else if Kz<Q7 b then 4 else 0
def YP(b:Nat):Int:=if Ux≤Q7 b∨¬WY b∨Kz<Q7 b then 0 else svF (Kk b) (UF (Q7 b) / Uz)
theorem C3:UF Kz=2^53*Uz:=by
  obtain⟨r,h1,h2,h3⟩:=Gd (k:=2^53) (Nat.le_refl _)
  have hu:=XW
  rw[show Kz=1076*2^52 from rfl]
  unfold UF
  rw[if_neg (by omega),show 1076*2^52%2^52=0 by omega,show 1076*2^52 / 2^52-1=1+uP by have:=Ee;omega,Nat.add_zero,hu,Nat.pow_add,← Nat.mul_assoc]
theorem Ct{V:Nat}(h:V%Uz=0):V / Uz*Uz=V:=by
  have:=Nat.div_add_mod V Uz
  rw[h,Nat.add_zero,Nat.mul_comm]at this
  exact this
theorem HL{b:Nat}(hb:b<2^64)(hf:Q7 b<Ux):(ford b (Hh b) !=some .eq)=!decide (WY b):=by
  obtain⟨r,h1,h2,h3⟩:=MH .zero (.inr rfl) hf
  obtain⟨w1,w2,w3⟩:=TW (s:=Kk b) h1
  have e:Hh b=Ieee.double.word (Kk b) r:=h2
  have hk:YM .zero (Kk b) (UF (Q7 b))=UF (Q7 b) / Uz:=by unfold YM;simp
  rw[hk]at h3
  have n1:isNan b=false:=by rw[WF];exact decide_eq_false (by omega)
  have n2:isNan (Hh b)=false:=by rw[e];exact Gr (Nat.le_of_lt h1)
  have h4:(sr b=sr (Hh b))↔WY b:=by
    unfold sr
    rw[e,w1,w2]
    have:Q7 b=r↔WY b:=by
      constructor
      · intro h;unfold WY;rw[h,h3];exact Nat.mul_mod_left _ _
      · intro h;rw[Ct h]at h3;exact(Xb.2.1 h3).symm
    rw[← this]
    split<;>omega
  have h5:=L0 n1 n2
  rw[bne,h5]
  rw[decide_eq_decide.2 h4]
theorem CD{b:Nat}(hf:Q7 b<Ux):(FloatKind.f64.decode b).toInt .zero=some (svF (Kk b) (UF (Q7 b) / Uz)):=by
  obtain⟨m,a,hd,hm⟩:=Y9 hf
  show(My b).toInt .zero=_
  unfold Ieee.Datum.toInt
  rw[hd,GP .zero (.inr rfl),hm]
  show some (Ieee.signed (Kk b) _ 0)=_
  have hk:YM .zero (Kk b) (UF (Q7 b))=UF (Q7 b) / Uz:=by unfold YM;simp
  rw[KO,hk,Int.pow_zero,Int.mul_one];rfl
theorem HO{b:Nat}(h:Q7 b≤Kz):UF (Q7 b) / Uz≤2^53:=by
  have h1:¬UF Kz<UF (Q7 b):=fun h'=>by have:=Xb.1.1 h';omega
  rw[C3]at h1
  have:=Nat.div_le_div_right (c:=Uz) (Nat.not_lt.1 h1)
  rwa [Nat.mul_div_cancel _ GA]at this
theorem int_t{b:Nat}(h:Ux≤Q7 b∨¬WY b):YP b=0∧YG b=7:=by
  unfold YP YG
  exact⟨if_pos (h.elim .inl fun h=>.inr (.inl h)),if_pos h⟩
theorem int_r{b:Nat}(hf:Q7 b<Ux)(hw:WY b)(h:Kz<Q7 b):YP b=0∧YG b=4:=by
  unfold YP YG
  exact⟨if_pos (.inr (.inr h)),by rw[if_neg (fun h'=>h'.elim (fun h=>by omega) (fun h=>h hw)),if_pos h]⟩
theorem int_o{b:Nat}(hf:Q7 b<Ux)(hw:WY b)(h:Q7 b≤Kz):YP b=svF (Kk b) (UF (Q7 b) / Uz)∧YG b=0:=by
  unfold YP YG
  exact⟨if_neg (fun h'=>h'.elim (fun h=>by omega) (fun h'=>h'.elim (fun h=>h hw) (fun h=>by omega))),by rw[if_neg (fun h'=>h'.elim (fun h=>by omega) (fun h=>h hw)),if_neg (by omega)]⟩
theorem Se{s:Bool}{K:Nat}(h:K≤2^53): -9223372036854775808≤svF s K∧svF s K≤9223372036854775807:=by
  unfold svF;split<;>omega
theorem Db{n:Int}:FloatKind.f64.nearest n<2^64:=Gc (.number (n<0) n.natAbs 0)
theorem CY{n:Int}(h: -9007199254740992≤n∧n≤9007199254740992):∃r,r<Ux∧r≤Kz∧FloatKind.f64.nearest n=Ieee.double.word (decide (n<0)) r∧UF r=n.natAbs*Uz:=by
  obtain⟨r,h1,h2,h3⟩:=Gd (k:=n.natAbs) (by omega)
  refine⟨r,h1,h3,?_,h2⟩
  have e0:Ul+((uP:Nat):Int)=0:=by decide
  show Ieee.double.write (.number (decide (n<0)) n.natAbs 0)=_
  rw[← e0]
  exact Gz (by rw[h2,XW]) h1
/-! ### the page's own floor -/

end
section
/- Walks: the order of numbers, for the seats that reach no more of floats. -/
set_option maxRecDepth 10000
set_option maxHeartbeats 4000000
theorem RU(b:Nat)(hb:b<2^64):Fn Tryz.prog 294 [.c (.int .u64 (b:Int))] (.c (.int .u64 (Gk b:Int))):=by
  refine AC.of_J Tryz.func294 rfl Tryz.ntmps294 rfl fun w0 A0=>?_
  refine Zs (Zq rfl (QW.assign .const) (Zn (J.seq (Zs (Zm rfl (Zq rfl (QW.ext (Xx _) (.r rfl)) (Za rfl (Zn (Zs ?_)))))))))
  refine Zm rfl (Zm rfl (Zq rfl (G9 (.r rfl) (.r rfl)) (Zn ?_)))
  refine J.cond (.r rfl) (fun c1=>?_) (fun c1=>?_)
  ·
    rw[Y4]at c1
    refine Zs (Zq rfl (QW.assign .const) (Zn (J.ret (thenQ.r ?_))))
    exact⟨_,[],_,RetEv.one rfl (REv.tmp rfl lr),rfl,List.Perm.refl _,by simp[Gk,c1],rfl⟩
  ·
    rw[Y4]at c1
    refine Zk (Zs (Zm rfl (Zm rfl (Zq rfl (Yb us22 iu2 (.r rfl) rfl) (Zq rfl (QW.shr (.r rfl) .const (by decide) rfl) ?_)))))
    refine Zq rfl (Yb us2 iu22 (.r rfl) rfl) (Zq rfl (QW.or (.r rfl) .const rfl) (Zq rfl (QW.xor (.r rfl) (.r rfl) rfl) (Za rfl (Zn (J.ret ?_)))))
    exact⟨_,[],_,RetEv.one rfl (REv.tmp rfl lr),rfl,List.Perm.refl _,by rw[← T8 hb c1];rfl,rfl⟩

end
section
/- Walks: numbers (the package float): classes, operations, floors. -/
set_option maxRecDepth 10000
set_option maxHeartbeats 4000000
theorem Np{b:Nat}:YR b<4↔Q7 b<Ux:=by
  unfold YR
  rw[WF]
  by_cases h1:Ux<Q7 b
  · rw[if_pos (by simpa using h1)];omega
  · rw[if_neg (by simpa using h1)]
    by_cases h2:Q7 b=Ux
    · rw[if_pos h2];omega
    · rw[if_neg h2]
      (repeat' split)<;>omega
theorem Tu{b:Nat}:4≤YR b↔Ux≤Q7 b:=by
  have:=@Np b
  omega
theorem DQ(b:Nat)(hb:b<2^64):Fn Tryz.prog 140 [.c (Yv b)] (.c (Yv (b%2^63))):=by
  refine AC.of_J Tryz.func140 rfl Tryz.ntmps140 rfl fun w0 A0=>?_
  refine Zs (Zq rfl (QW.assign .const) (Zn (Zs (Zm rfl (Zq rfl (QW.ext (Ls _) (.r rfl)) (Zq rfl (QW.andNot (.r rfl) .const (absbits b hb)) (Zq rfl (QW.ext (Xx _) (.r rfl)) (Za rfl (Zn ?_)))))))))
  refine J.ret ?_
  exact⟨_,[],_,RetEv.one rfl (REv.tmp rfl lr),rfl,List.Perm.refl _,rfl,rfl⟩
theorem B2(b:Nat)(hb:b<2^64):Fn Tryz.prog 185 [.c (Yv b),.c (.int .i64 0)] (.c (.bool (decide (Q7 b=Ux)))):=by
  refine AC.of_J Tryz.func185 rfl Tryz.ntmps185 rfl fun w0 A0=>?_
  refine Zs (Zq rfl (QW.assign .const) (Zn (J.seq (Zs (Zm rfl (Zq rfl (QW.eql (.r rfl) .const) (Zn ?_)))))))
  refine J.cond (.r rfl) (fun c1=>?_) (fun c1=>absurd c1 (by decide))
  refine Qg (Zm rfl (Zq rfl (QW.call N3 (.cons (.r rfl) .nil) (by(apply DQ<;>first|assumption|omega))) ?_))
  refine Za rfl (Zn (Zs (Zm rfl (Zq rfl (Mp (.r rfl) .const) (Za rfl (Zn (J.ret ?_)))))))
  exact⟨_,[],_,RetEv.one rfl (REv.tmp rfl lr),rfl,List.Perm.refl _,by
      by_cases hn:isNan b=true
      · rw[Fm (by rw[KR];exact hn)]
        rw[WF]at hn;simp at hn
        congr 3;simp;omega
      · rw[KT (by rw[KR];simpa using hn) (by decide),Hi]
        rw[WF]at hn;simp at hn
        congr 3
        rw[show sr 9218868437227405311=9218868437227405311 by decide]
        simp;unfold Ux at*;omega,rfl⟩
theorem T0(b:Nat)(hb:b<2^64):Fn Tryz.prog 186 [.c (Yv b)] (.c (.bool (decide (2^63≤b)))):=by
  refine AC.of_J Tryz.func186 rfl Tryz.ntmps186 rfl fun w0 A0=>?_
  refine Zs (Zq rfl (QW.assign .const) (Zn (Zs (Zm rfl (Zq rfl (QW.ext (Ls _) (.r rfl)) (Zq rfl (Yb us22 iu2 (.r rfl) rfl) (Zq rfl (QW.lss (.r rfl) .const) (Za rfl (Zn ?_)))))))))
  refine J.ret ?_
  exact⟨_,[],_,RetEv.one rfl (REv.tmp rfl lr),rfl,List.Perm.refl _,by
      congr 3
      rw[decide_eq_decide]
      by_cases h:2^63≤b
      · rw[HJ h hb];omega
      · rw[Yy (by omega)];omega,rfl⟩
theorem PD(b:Nat)(hb:b<2^64):Fn Tryz.prog 138 [.c (.int .u64 (b:Int))] (.c (.int .i64 (YR b))):=by
  refine AC.of_J Tryz.func138 rfl Tryz.ntmps138 rfl fun w0 A0=>?_
  refine Zs (Zq rfl (QW.assign .const) (Zn (Zs (Zm rfl (Zq rfl (QW.ext (Xx _) (.r rfl)) (Za rfl (Zn (Zs (Zm rfl ?_)))))))))
  refine Zq rfl (QW.call N3 (.cons (.r rfl) .nil) (by(apply DQ<;>first|assumption|omega))) ?_
  refine Za rfl (Zn (J.seq (J.block (Zs (Zm rfl (Zm rfl (Zq rfl (G9 (.r rfl) (.r rfl)) (Za rfl (Zn ?_)))))))))
  refine J.cond (.r rfl) (fun c1=>?_) (fun c1=>?_)
  ·
    rw[Y4]at c1
    refine Zs (Zq rfl (QW.assign .const) (Zn (J.ret (blkQ.r (thenQ.r ?_)))))
    exact⟨_,[],_,RetEv.one rfl (REv.tmp rfl lr),rfl,List.Perm.refl _,by simp[YR,c1],rfl⟩
  ·
    rw[Y4]at c1
    have ha:isNan (b%2^63)=false:=by rw[KR];exact c1
    refine Zs (Zm rfl (Zq rfl (QW.call Qaz (.cons (.r rfl) (.cons (.const) .nil)) (by(apply B2<;>first|assumption|omega))) ?_))
    refine Za rfl (Zn ?_)
    refine J.cond (.r rfl) (fun c2=>?_) (fun c2=>?_)
    ·
      simp at c2
      refine Zs (Zq rfl (QW.assign .const) (Zn (J.ret (blkQ.r (thenQ.r ?_)))))
      exact⟨_,[],_,RetEv.one rfl (REv.tmp rfl lr),rfl,List.Perm.refl _,by simp[YR,c1,c2],rfl⟩
    ·
      simp at c2
      refine Zs (Zm rfl (Zq rfl (PS (.r rfl) .const) (Za rfl (Zn ?_))))
      refine J.cond (.r rfl) (fun c3=>?_) (fun c3=>?_)
      ·
        rw[KT ha (by decide),L0 ha (by decide),Hi,show sr 4503599627370496=4503599627370496 by decide]at c3;simp at c3
        refine Zs (Zq rfl (QW.assign .const) (Zn (J.ret (blkQ.r (thenQ.r ?_)))))
        exact⟨_,[],_,RetEv.one rfl (REv.tmp rfl lr),rfl,List.Perm.refl _,by unfold YR;rw[c1,if_neg (by decide),if_neg c2,if_pos (by omega)],rfl⟩
      ·
        rw[KT ha (by decide),L0 ha (by decide),Hi,show sr 4503599627370496=4503599627370496 by decide]at c3;simp at c3
        refine Zs (Zm rfl (Zq rfl (Mp (.r rfl) .const) (Za rfl (Zn ?_))))
        refine J.cond (.r rfl) (fun c4=>?_) (fun c4=>?_)
        ·
          rw[KT ha (by decide),Hi,show sr 0=0 by decide]at c4;simp at c4
          refine Zs (Zq rfl (QW.assign .const) (Zn (J.ret (blkQ.r (thenQ.r ?_)))))
          exact⟨_,[],_,RetEv.one rfl (REv.tmp rfl lr),rfl,List.Perm.refl _,by unfold YR;rw[c1,if_neg (by decide),if_neg c2,if_neg (by omega),if_pos (by omega)],rfl⟩
        ·
          rw[KT ha (by decide),Hi,show sr 0=0 by decide]at c4;simp at c4
          refine Zs (Zm rfl (Zq rfl (QW.call Qay (.cons (.r rfl) .nil) (by(apply T0<;>first|assumption|omega))) ?_))
          refine Za rfl (Zn ?_)
          refine J.cond (.r rfl) (fun c5=>?_) (fun c5=>?_)
          ·
            simp at c5
            refine Zs (Zq rfl (QW.assign .const) (Zn (J.ret (blkQ.r (thenQ.r ?_)))))
            exact⟨_,[],_,RetEv.one rfl (REv.tmp rfl lr),rfl,List.Perm.refl _,by unfold YR;rw[c1,if_neg (by decide),if_neg c2,if_neg (by omega),if_neg (by omega),if_pos (by omega)],rfl⟩
          ·
            simp at c5
            refine J.skip (blkQ.n (thenQ.n (Zs (Zq rfl (QW.assign .const) (Zn (J.ret ?_))))))
            exact⟨_,[],_,RetEv.one rfl (REv.tmp rfl lr),rfl,List.Perm.refl _,by unfold YR;rw[c1,if_neg (by decide),if_neg c2,if_neg (by omega),if_neg (by omega),if_neg (by omega)],rfl⟩
theorem NF(op:BinOp)(g:Nat)(a b:Nat)(hgo:QJ Tryz.prog g=true)(hg:FnR Tryz.prog g [.c (Yv a),.c (Yv b)] (fun z=>∃c,z=.c (Yv c)∧(UH op a b=some c∨(UH op a b=none∧Kx c)))):Fn Tryz.prog 286 [.c (.int .u64 (a:Int)),.c (.int .u64 (b:Int)),.c (.func (.func g) #[] #[])] (.c (.int .u64 (Wd op a b:Int))):=by
  refine AC.of_J Tryz.func286 rfl Tryz.ntmps286 rfl fun w0 A0=>?_
  refine Zs (Zq rfl (QW.assign .const) (Zn (Zs (Zm rfl (Zm rfl (Zq rfl (QW.ext (Xx _) (.r rfl)) (Zm rfl (Zq rfl (QW.ext (Xx _) (.r rfl)) (FL (fi:=[]) (ca:=[]) hgo rfl (.r rfl) (.cons (.r rfl) (.cons (.r rfl) .nil)) rfl (hg) ?_)))))))))
  rintro _ ⟨x12,rfl,h12⟩
  refine Zq rfl (QW.call N0 (.cons (.r rfl) .nil) (by(apply BH<;>first|assumption|omega))) ?_
  refine Za rfl (Zn (J.ret ?_))
  exact⟨_,[],_,RetEv.one rfl (REv.tmp rfl lr),rfl,List.Perm.refl _,by rw[TA h12],rfl⟩
theorem QaX(a b:Nat):FnR Tryz.prog 287 [.c (Yv a),.c (Yv b)] (fun z=>∃c,z=.c (Yv c)∧(UH .add a b=some c∨(UH .add a b=none∧Kx c))):=by
  refine AC.of_J Tryz.func287 rfl Tryz.ntmps287 rfl fun w0 A0=>?_
  refine Zs (Zq rfl (QW.assign .const) (Zn (Zs (Zm rfl (Zm rfl (KZ (by decide) (.r rfl) (.r rfl) rfl fun x7 h7=>?_))))))
  refine Za rfl (Zn (J.ret ?_))
  exact⟨_,[],_,RetEv.one rfl (REv.tmp rfl lr),rfl,List.Perm.refl _,rfl,_,rfl,⟨_,rfl,by assumption⟩⟩
theorem add_ok(a b:Nat):Fn Tryz.prog 271 [.c (.int .u64 (a:Int)),.c (.int .u64 (b:Int))] (.c (.int .u64 (Wd .add a b:Int))):=by
  refine AC.of_J Tryz.func271 rfl Tryz.ntmps271 rfl fun w0 A0=>?_
  refine Zs (Zq rfl (QW.assign .const) (Zn (Zs (Zm rfl (Zm rfl (Zq rfl (QW.call Lg (.cons (.r rfl) (.cons (.r rfl) (.cons .func .nil))) (NF .add _ _ _ S6 (QaX _ _))) (Za rfl (Zn (J.ret ?_)))))))))
  exact⟨_,[],_,RetEv.one rfl (REv.tmp rfl lr),rfl,List.Perm.refl _,rfl,rfl⟩
theorem QaK(a b:Nat):FnR Tryz.prog 288 [.c (Yv a),.c (Yv b)] (fun z=>∃c,z=.c (Yv c)∧(UH .sub a b=some c∨(UH .sub a b=none∧Kx c))):=by
  refine AC.of_J Tryz.func288 rfl Tryz.ntmps288 rfl fun w0 A0=>?_
  refine Zs (Zq rfl (QW.assign .const) (Zn (Zs (Zm rfl (Zm rfl (KZ (by decide) (.r rfl) (.r rfl) rfl fun x7 h7=>?_))))))
  refine Za rfl (Zn (J.ret ?_))
  exact⟨_,[],_,RetEv.one rfl (REv.tmp rfl lr),rfl,List.Perm.refl _,rfl,_,rfl,⟨_,rfl,by assumption⟩⟩
theorem sub_ok(a b:Nat):Fn Tryz.prog 272 [.c (.int .u64 (a:Int)),.c (.int .u64 (b:Int))] (.c (.int .u64 (Wd .sub a b:Int))):=by
  refine AC.of_J Tryz.func272 rfl Tryz.ntmps272 rfl fun w0 A0=>?_
  refine Zs (Zq rfl (QW.assign .const) (Zn (Zs (Zm rfl (Zm rfl (Zq rfl (QW.call Lg (.cons (.r rfl) (.cons (.r rfl) (.cons .func .nil))) (NF .sub _ _ _ S5 (QaK _ _))) (Za rfl (Zn (J.ret ?_)))))))))
  exact⟨_,[],_,RetEv.one rfl (REv.tmp rfl lr),rfl,List.Perm.refl _,rfl,rfl⟩
theorem QaV(a b:Nat):FnR Tryz.prog 289 [.c (Yv a),.c (Yv b)] (fun z=>∃c,z=.c (Yv c)∧(UH .mul a b=some c∨(UH .mul a b=none∧Kx c))):=by
  refine AC.of_J Tryz.func289 rfl Tryz.ntmps289 rfl fun w0 A0=>?_
  refine Zs (Zq rfl (QW.assign .const) (Zn (Zs (Zm rfl (Zm rfl (KZ (by decide) (.r rfl) (.r rfl) rfl fun x7 h7=>?_))))))
  refine Za rfl (Zn (J.ret ?_))
  exact⟨_,[],_,RetEv.one rfl (REv.tmp rfl lr),rfl,List.Perm.refl _,rfl,_,rfl,⟨_,rfl,by assumption⟩⟩
theorem mul_ok(a b:Nat):Fn Tryz.prog 273 [.c (.int .u64 (a:Int)),.c (.int .u64 (b:Int))] (.c (.int .u64 (Wd .mul a b:Int))):=by
  refine AC.of_J Tryz.func273 rfl Tryz.ntmps273 rfl fun w0 A0=>?_
  refine Zs (Zq rfl (QW.assign .const) (Zn (Zs (Zm rfl (Zm rfl (Zq rfl (QW.call Lg (.cons (.r rfl) (.cons (.r rfl) (.cons .func .nil))) (NF .mul _ _ _ S4 (QaV _ _))) (Za rfl (Zn (J.ret ?_)))))))))
  exact⟨_,[],_,RetEv.one rfl (REv.tmp rfl lr),rfl,List.Perm.refl _,rfl,rfl⟩
theorem QaL(a b:Nat):FnR Tryz.prog 290 [.c (Yv a),.c (Yv b)] (fun z=>∃c,z=.c (Yv c)∧(UH .quo a b=some c∨(UH .quo a b=none∧Kx c))):=by
  refine AC.of_J Tryz.func290 rfl Tryz.ntmps290 rfl fun w0 A0=>?_
  refine Zs (Zq rfl (QW.assign .const) (Zn (Zs (Zm rfl (Zm rfl (KZ (by decide) (.r rfl) (.r rfl) rfl fun x7 h7=>?_))))))
  refine Za rfl (Zn (J.ret ?_))
  exact⟨_,[],_,RetEv.one rfl (REv.tmp rfl lr),rfl,List.Perm.refl _,rfl,_,rfl,⟨_,rfl,by assumption⟩⟩
theorem quo_ok(a b:Nat):Fn Tryz.prog 274 [.c (.int .u64 (a:Int)),.c (.int .u64 (b:Int))] (.c (.int .u64 (Wd .quo a b:Int))):=by
  refine AC.of_J Tryz.func274 rfl Tryz.ntmps274 rfl fun w0 A0=>?_
  refine Zs (Zq rfl (QW.assign .const) (Zn (Zs (Zm rfl (Zm rfl (Zq rfl (QW.call Lg (.cons (.r rfl) (.cons (.r rfl) (.cons .func .nil))) (NF .quo _ _ _ S3 (QaL _ _))) (Za rfl (Zn (J.ret ?_)))))))))
  exact⟨_,[],_,RetEv.one rfl (REv.tmp rfl lr),rfl,List.Perm.refl _,rfl,rfl⟩
theorem Fp:Extern.find Tryz.f291=some (Extern.MathFloor.toIntegral "math.archFloor" .down):=by kernel_rfl
theorem Pp(b:Nat)(w:World):(callFunc 291 #[Yv b]).run Tryz.prog w=((Extern.MathFloor.toIntegral "math.archFloor" .down #[Yv b]).run Tryz.prog w).andThen fun v w=>.ok (.value v) w:=
  G1 Tryz.func291 (by kernel_rfl) (by kernel_rfl) (by kernel_rfl) Fp _ _
theorem C1(b:Nat):FnR Tryz.prog 275 [.c (Yv b)] (fun z=>∃c,z=.c (Yv c)∧((isNan b=false∧c=Dx b)∨(isNan b=true∧isNan c=true))):=by
  refine AC.of_J Tryz.func275 rfl Tryz.ntmps275 rfl fun w0 A0=>?_
  refine Zs (Zq rfl (QW.assign .const) (Zn (J.seq ?_)))
  refine J.cond .const (fun c1=>?_) (fun c1=>absurd c1 (by decide))
  refine Zs (Zm rfl (Cp Pp (.r rfl) rfl fun x4 h4=>Za rfl (Zn (J.ret (thenQ.r ?_)))))
  exact⟨_,[],_,RetEv.one rfl (REv.tmp rfl lr),rfl,List.Perm.refl _,rfl,_,rfl,⟨_,rfl,h4⟩⟩
theorem Pk(b:Nat):Fn Tryz.prog 260 [.c (.int .u64 (b:Int))] (.c (.int .u64 (Ka b:Int))):=by
  refine AC.of_J Tryz.func260 rfl Tryz.ntmps260 rfl fun w0 A0=>?_
  refine Zs (Zq rfl (QW.assign .const) (Zn (Zs (Zm rfl (Zq rfl (QW.ext (Xx _) (.r rfl)) (PX Qaa rfl (.cons (.r rfl) .nil) (C1 _) ?_))))))
  rintro _ ⟨x5,rfl,h5⟩
  refine Zq rfl (QW.call N0 (.cons (.r rfl) .nil) (by(apply BH<;>first|assumption|omega))) ?_
  refine Za rfl (Zn (J.ret ?_))
  exact⟨_,[],_,RetEv.one rfl (REv.tmp rfl lr),rfl,List.Perm.refl _,by
      rcases h5 with ⟨h1,rfl⟩|⟨h1,h2⟩
      · simp[Ka,h1,UT,Dx,XV (Kg h1 .down)]
      · simp[Ka,h1,UT,h2],rfl⟩
def nearN(n:Int):Nat:=FloatKind.f64.nearest n
def SF(n:Int):Nat:=if n< -9007199254740992∨9007199254740992<n then 0 else nearN n
def ofE(n:Int):Int:=if n< -9007199254740992∨9007199254740992<n then 4 else 0
theorem Et{n:Int}(h: -9223372036854775808≤n∧n≤9223372036854775807):
    ((decide (9007199254740992<if IntKind.i64.wrap (0-n)>n then IntKind.i64.wrap (0-n)else n))||((n==IntKind.i64.wrap (0-n))&&(n !=0)))=decide (n< -9007199254740992∨9007199254740992<n):=by
  by_cases hm:n= -9223372036854775808
  · subst hm;decide
  · rw[Yy (by omega)]
    by_cases h0:n=0-n
    · have:n=0:=by omega
      subst this;decide
    · have h1:(n==0-n)=false:=by simpa using h0
      rw[h1,Bool.false_and,Bool.or_false,decide_eq_decide]
      split<;>omega
theorem BI(n:Int)(h: -9223372036854775808≤n∧n≤9223372036854775807):Fn Tryz.prog 27 [.c (.int .i64 n)] (.tup [.c (.int .u64 (SF n:Int)),.c (.int .i64 (ofE n))]):=by
  refine AC.of_J Tryz.func27 rfl Tryz.ntmps27 rfl fun w0 A0=>?_
  refine Zs (Zq rfl (QW.assign .const) (Zq rfl (QW.assign .const) (Zn (J.seq (Zs (Zm rfl (Zm rfl (Zq rfl (QW.neg (.r rfl) rfl) (Zq rfl (QW.max2 (.r rfl) (.r rfl)) ?_)))))))))
  refine Zq rfl (QW.gtr (.r rfl) .const) (Zm rfl (Zg rfl (fun hg=>(QW.move (.r rfl))) (Zg rfl (fun hg=>(QW.move (.r rfl))) (Zg rfl (fun hg=>QW.neg (.when rfl hg) rfl) (Zg rfl (fun hg=>(QW.eql (.when rfl hg) (.when rfl hg))) (Zg rfl (fun hg=>(QW.move (.when rfl hg))) (JL.gg rfl rfl rfl rfl rfl (fun hg=>(QW.move (.r rfl))) (JL.gg rfl rfl rfl rfl rfl (fun hg=>(QW.neq (.when rfl hg) .const)) (Zg rfl (fun hg=>(YZ hg (.when rfl hg) (.r rfl))) ?_)))))))))
  refine Zq rfl (QW.pick_or (.r rfl) (.r rfl)) (Zn ?_)
  refine J.cond (.r rfl) (fun c1=>?_) (fun c1=>?_)
  ·
    rw[Et h]at c1;simp at c1
    refine Zs (Zq rfl (QW.assign .const) (Zq rfl (QW.assign .const) (Zn (J.ret (thenQ.r ?_)))))
    exact⟨_,[],_,Qt rfl (REv.tmp rfl lr) (REv.tmp rfl lr),rfl,List.Perm.refl _,by simp[SF,ofE,c1],rfl⟩
  ·
    rw[Et h]at c1;simp at c1
    refine Zk (Zs (Zm rfl (Zq rfl (D2 us3 fl144 (.r rfl)) (Zq rfl (QW.ext (Ls _) (.r rfl)) (Za rfl (Zq rfl (QW.assign .const) (Zn (J.ret ?_))))))))
    exact⟨_,[],_,Qt rfl (REv.tmp rfl lr) (REv.tmp rfl lr),rfl,List.Perm.refl _,by rw[SF,ofE,if_neg (by omega),if_neg (by omega)];rfl,rfl⟩

end
section
/- Walks: the whole number that a number is. -/
set_option maxRecDepth 10000
set_option maxHeartbeats 4000000
theorem Fo:Extern.find Tryz.f187=some (Extern.MathFloor.toIntegral "math.archTrunc" .zero):=by kernel_rfl
theorem Po(b:Nat)(w:World):(callFunc 187 #[Yv b]).run Tryz.prog w=((Extern.MathFloor.toIntegral "math.archTrunc" .zero #[Yv b]).run Tryz.prog w).andThen fun v w=>.ok (.value v) w:=
  G1 Tryz.func187 (by kernel_rfl) (by kernel_rfl) (by kernel_rfl) Fo _ _
theorem G0{b:Nat}(h:¬4≤YR b):isNan b=false:=by
  rw[Tu]at h
  rw[WF];exact decide_eq_false (by omega)
theorem TE{b:Nat}(hn:isNan b=false):(ford (b%2^63) 4845873199050653696==some .gt)=decide (Kz<Q7 b):=by
  rw[KT (by rw[KR];exact hn) (by decide),Hi,show sr 4845873199050653696=4845873199050653696 by decide,decide_eq_decide]
  unfold Kz;omega
theorem C0(b:Nat)(hn:isNan b=false):Fn Tryz.prog 139 [.c (Yv b)] (.c (Yv (Hh b))):=by
  refine AC.of_J Tryz.func139 rfl Tryz.ntmps139 rfl fun w0 A0=>?_
  refine Zs (Zq rfl (QW.assign .const) (Zn (J.seq ?_)))
  refine J.cond .const (fun c1=>?_) (fun c1=>absurd c1 (by decide))
  refine Zs (Zm rfl (Cp Po (.r rfl) rfl fun x4 h4=>?_))
  obtain rfl:x4=Hh b:=by rcases h4 with ⟨_,h⟩|⟨h,_⟩;exact h;rw[hn]at h;cases h
  refine Za rfl (Zn (J.ret (thenQ.r ?_)))
  exact⟨_,[],_,RetEv.one rfl (REv.tmp rfl lr),rfl,List.Perm.refl _,rfl,rfl⟩
theorem B3(b:Nat)(hb:b<2^64):Fn Tryz.prog 93 [.c (.int .u64 (b:Int))] (.tup [.c (.int .i64 (YP b)),.c (.int .i64 (YG b))]):=by
  refine AC.of_J Tryz.func93 rfl Tryz.ntmps93 rfl fun w0 A0=>?_
  refine Zs (Zq rfl (QW.assign .const) (Zq rfl (QW.assign .const) (Zn (Zs (Zm rfl (Zq rfl (QW.ext (Xx _) (.r rfl)) (Za rfl (Zn (J.seq ?_)))))))))
  refine J.block (Zs (Zm rfl (Zq rfl (QW.call QaG (.cons (.r rfl) .nil) (by(apply PD<;>first|assumption|omega))) ?_)))
  refine Zq rfl (QW.geq (.r rfl) .const) (Zm rfl (Zg rfl (fun hg=>(QW.move (.r rfl))) (Zg rfl (fun hg=>(QW.move (.r rfl))) (Zg rfl (fun hg=>QW.call QaF (.cons (.when rfl hg) .nil) (C0 b (G0 (by simp at hg;omega)))) ?_))))
  refine Zg rfl (fun hg=>(G9 (.when rfl hg) (.when rfl hg))) (Zq rfl (QW.pick_or (.r rfl) (.r rfl)) (Za rfl (Zn ?_)))
  refine J.cond (.r rfl) (fun c1=>?_) (fun c1=>?_)
  ·
    have hT:Ux≤Q7 b∨¬WY b:=by
      by_cases hf:Q7 b<Ux
      · rw[HL hb hf]at c1
        have:=Np.2 hf
        simp at c1
        rcases c1 with h|h
        · omega
        · exact .inr h
      · exact .inl (by omega)
    refine Zs (Zq rfl (QW.assign .const) (Zq rfl (QW.assign .const) (Zn (J.ret (blkQ.r (thenQ.r ?_))))))
    exact⟨_,[],_,Qt rfl (REv.tmp rfl lr) (REv.tmp rfl lr),rfl,List.Perm.refl _,by rw[(int_t hT).1,(int_t hT).2],rfl⟩
  ·
    have hc:¬4≤YR b:=by intro h;rw[decide_eq_true (by omega),Bool.true_or]at c1;cases c1
    have hf:Q7 b<Ux:=by rw[Tu]at hc;omega
    have hn:=G0 hc
    have hw:WY b:=by
      rw[HL hb hf]at c1
      simp at c1
      exact c1.2
    refine Zs (Zm rfl (Zq rfl (QW.call N3 (.cons (.r rfl) .nil) (by(apply DQ<;>first|assumption|omega))) ?_))
    refine Zq rfl (Mp (.r rfl) .const) (Za rfl (Zn ?_))
    refine J.cond (.r rfl) (fun c2=>?_) (fun c2=>?_)
    ·
      rw[TE hn]at c2;simp at c2
      refine Zs (Zq rfl (QW.assign .const) (Zq rfl (QW.assign .const) (Zn (J.ret (blkQ.r (thenQ.r ?_))))))
      exact⟨_,[],_,Qt rfl (REv.tmp rfl lr) (REv.tmp rfl lr),rfl,List.Perm.refl _,by rw[(int_r hf hw c2).1,(int_r hf hw c2).2],rfl⟩
    ·
      rw[TE hn]at c2;simp at c2
      have hK:=Se (s:=Kk b) (HO c2)
      refine J.skip (blkQ.n (thenQ.n (Zs (Zm rfl (Zq rfl (D3 us144 iu3 (.r rfl) (CD hf) hK) (Za rfl (Zq rfl (QW.assign .const) (Zn (J.ret ?_)))))))))
      exact⟨_,[],_,Qt rfl (REv.tmp rfl lr) (REv.tmp rfl lr),rfl,List.Perm.refl _,by rw[(int_o hf hw c2).1,(int_o hf hw c2).2],rfl⟩

end
section
/- What expressions come to, as plain data. -/
def V.tr(b:Bool):V:=.mk 1 (if b then 1 else 0) [] [] []
def V.nu(b:Nat):V:=.mk 2 b [] [] []
def V.tx(t:QN):V:=.mk 3 0 t [] []
def V.li(l:List V):V:=.mk 4 0 [] [] l
structure ScT where
  st:V
  ev:V
  it:V
def Gm(n:Nat):QN:=if n<10 then [UInt8.ofNat (48+n)]else Gm (n / 10)++[UInt8.ofNat (48+n%10)]
termination_by n
decreasing_by omega
def Ht(n:Int):QN:=if n<0 then 45::Gm n.natAbs else Gm n.natAbs
def DO(o:Int)(a b:Nat):Nat:=if o=11 then Wd .add a b else if o=12 then Wd .sub a b else if o=13 then Wd .mul a b else Wd .quo a b
def K5(v:V):Except Int V:=if v.err=0 then .ok v else .error 84
def La(v:V)(s:StT):Except Int V:=if(v.getv [s]).2=0 then .ok (v.getv [s]).1 else .error (v.getv [s]).2
def NJ(v:V)(s:StT)(x:V):Except Int V:=if(v.setv [s] x).2=0 then .ok (v.setv [s] x).1 else .error 84
def BG(o:Int)(t:QN)(a:V):Except Int V:=
  if o=8 then La a ⟨true,t,0⟩
  else if o=10 then(if a.kind<3 then .error 81 else .ok (.nu (SF ((a.text.length:Int)+(a.items.length:Int)))))
  else if o=15 then(if a.kind=2 then .ok (.nu (Ka a.bits))else .error 81)
  else if o=20 then(if a.kind=1 then .ok (.tr (a.bits==0))else .error 81)
  else if a.kind≠2 then .error 81 else if YG a.bits≠0 then .error 7 else .ok (.tx (Ht (YP a.bits)))
def F3(o:Int)(t:QN)(a b:V):Except Int V:=
  if o=9 then(if a.kind≠4∨b.kind≠2 then .error 81 else if YG b.bits≠0 then .error 82 else La a ⟨false,[],YP b.bits⟩)
  else if o=16 then .ok (.tr (a.ord b==0))
  else if o=17 then(if b.kind=a.kind then .ok (.tr (decide (a.ord b<0)))else .error 81)
  else if o=22 then(if a.kind≠3∨b.kind≠3 then .error 81 else if 128<a.text.length+b.text.length then .error 84 else .ok (.tx (a.text++b.text)))
  else if o=24 then(if a.kind≠4 then .error 81 else NJ a ⟨false,[],a.items.length⟩ b)
  else if o=25 then(if a.kind≠5 then .error 81 else NJ a ⟨true,t,0⟩ b)
  else if a.kind≠2∨b.kind≠2 then .error 81 else .ok (.nu (DO o a.bits b.bits))
def UI(o:Int)(t:QN)(l:List V):Except Int V:=
  if o=23 then K5 (.li l)else
  match l with
  |[a]=>BG o t a
  |[a,b]=>F3 o t a b
  |_=>.error 0
abbrev ER(α:Type):=Except Int (α×Int)
def Wa(r:ER V):ER Bool:=match r with
  |.error e=>.error e
  |.ok (v,f)=>if v.kind=1 then .ok (v.bits==1,f)else .error 81
def Hm(g:V→Int→ER V):List V→Int→ER (List V)
  |[],f=>.ok ([],f)
  |x::r,f=>match g x f with
    |.error e=>.error e
    |.ok (y,f1)=>match Hm g r f1 with
      |.error e=>.error e
      |.ok (l,f2)=>.ok (y::l,f2)
def HB(g:V→Int→ER Bool):List V→Int→ER (List V)
  |[],f=>.ok ([],f)
  |x::r,f=>match g x f with
    |.error e=>.error e
    |.ok (b,f1)=>match HB g r f1 with
      |.error e=>.error e
      |.ok (l,f2)=>.ok (if b then x::l else l,f2)
def Rc(g:V→Int→ER Bool):List V→Int→ER V
  |[],f=>.error 71
  |x::r,f=>match g x f with
    |.error e=>.error e
    |.ok (b,f1)=>if b then .ok (x,f1)else Rc g r f1
def Xq(r:ER (List V)):ER V:=match r with
  |.error e=>.error e
  |.ok (l,f)=>match K5 (.li l)with
    |.error e=>.error e
    |.ok v=>.ok (v,f)
def XK(o:Int)(g:V→Int→ER V)(r:ER V):ER V:=match r with
  |.error e=>.error e
  |.ok (v,f)=>if v.kind≠4 then .error 81
    else if o=27 then Xq (Hm g v.items f)
    else if o=28 then Xq (HB (fun x f=>Wa (g x f)) v.items f)
    else Rc (fun x f=>Wa (g x f)) v.items f
mutual
/-- An expression's value, and the fuel that is left; or the error. -/
def EX.ev:EX→ScT→Int→ER V
  |.mk o b t l,s,f=>
    if f<1 then .error 83
    else if o=0 then .ok (.nil,f-1)
    else if o=1 then .ok (.tr false,f-1)
    else if o=2 then .ok (.tr true,f-1)
    else if o=3 then .ok (.nu b,f-1)
    else if o=4 then .ok (.tx t,f-1)
    else if o=5 then .ok (s.st,f-1)
    else if o=6 then .ok (s.ev,f-1)
    else if o=7 then .ok (s.it,f-1)
    else if o=18 then UX false l s (f-1)
    else if o=19 then UX true l s (f-1)
    else if o=21 then Wn l s (f-1)
    else if o=27∨o=28∨o=29 then Yp o l s (f-1)
    else match Uy l s (f-1)with
      |.error e=>.error e
      |.ok (vs,f1)=>match UI o t vs with
        |.error e=>.error e
        |.ok v=>.ok (v,f1)
def Uy:List EX→ScT→Int→ER (List V)
  |[],s,f=>.ok ([],f)
  |x::r,s,f=>match x.ev s f with
    |.error e=>.error e
    |.ok (v,f1)=>match Uy r s f1 with
      |.error e=>.error e
      |.ok (vs,f2)=>.ok (v::vs,f2)
def UX(k:Bool):List EX→ScT→Int→ER V
  |x::y::_,s,f=>match Wa (x.ev s f)with
    |.error e=>.error e
    |.ok (b1,f1)=>if b1=k then .ok (.tr k,f1)else match Wa (y.ev s f1)with
      |.error e=>.error e
      |.ok (b2,f2)=>.ok (.tr b2,f2)
  |_,_,_=>.error 0
def Wn:List EX→ScT→Int→ER V
  |x::y::z::_,s,f=>match Wa (x.ev s f)with
    |.error e=>.error e
    |.ok (b1,f1)=>if b1 then y.ev s f1 else z.ev s f1
  |_,_,_=>.error 0
def Yp(o:Int):List EX→ScT→Int→ER V
  |x::y::_,s,f=>XK o (fun it f=>y.ev {s with it} f) (x.ev s f)
  |_,_,_=>.error 0
end
def MA(e:EX)(s:ScT)(f:Int):V×Int×Int:=match e.ev s f with
  |.error c=>(.nil,0,c)
  |.ok (v,f1)=>(v,f1,0)

end
section
/- Walks: whole numbers compared; lists of them. -/
set_option maxRecDepth 10000
set_option maxHeartbeats 4000000
def eI64:U7:=⟨1,8⟩
def Wt(l:List Int):List (List AV):=l.map fun n=>[.c (.int .i64 n)]
theorem Yz(l:List Int):(Wt l).length=l.length:=by simp[Wt]
theorem H0{l:List Int}{i:Nat}(h:i<l.length):(Wt l)[i]? =some [.c (.int .i64 l[i])]:=by simp[Wt,h]
theorem fdiv2{lo hi:Nat}:((lo:Int)+(hi:Int)).fdiv (2^(min (1:Int).toNat IntKind.u64.bits))=(((lo+hi) / 2:Nat):Int):=by
  rw[show(2:Int)^(min (1:Int).toNat IntKind.u64.bits)=2 from rfl,Int.fdiv_eq_ediv_of_nonneg _ (by decide)]
  omega
theorem M1(n:Int):Fn Tryz.prog 312 [.c (.int .i64 n)] (.c (.bool false)):=by
  refine AC.of_J Tryz.func312 rfl Tryz.ntmps312 rfl fun w0 A0=>?_
  exact Zs (Zq rfl (QW.assign .const) (Zn (Zs (Zm rfl (Zm rfl (Zq rfl (QW.neq (.r rfl) (.r rfl)) (Za rfl (Zn (J.ret (Zr [] (RetEv.one rfl (REv.tmp rfl lr)) rfl ⟨U0 (by simp),rfl⟩))))))))))
theorem Fw(a b:Int):Fn Tryz.prog 293 [.c (.int .i64 a),.c (.int .i64 b)] (.c (.int .i64 (if a<b then -1 else if b<a then 1 else 0))):=by
  refine AC.of_J Tryz.func293 rfl Tryz.ntmps293 rfl fun w0 A0=>?_
  refine Zs (Zq rfl (QW.assign .const) (Zn (Zs (Zm rfl (Zq rfl (QW.call EI (.cons (.r rfl) .nil) (M1 _)) (Za rfl (Zn (Zs (Zm rfl ?_)))))))))
  refine Zq rfl (QW.call EI (.cons (.r rfl) .nil) (M1 _)) (Za rfl (Zn (J.seq (Zs (Zm rfl (Zn ?_))))))
  refine J.cond (.r rfl) (fun c1=>absurd c1 (by simp)) (fun c1=>?_)
  refine Zk (J.seq (Zs (Zm rfl (Zn ?_))))
  refine J.cond (.r rfl) (fun c2=>absurd c2 (by simp)) (fun c2=>?_)
  refine Zk (J.seq (Zs (Zm rfl (Zm rfl (Zq rfl (QW.lss (.r rfl) (.r rfl)) (Zn ?_))))))
  refine J.cond (.r rfl) (fun c3=>?_) (fun c3=>?_)
  · skip
    simp at c3
    exact Zs (Zq rfl (QW.assign .const) (Zn (J.ret (thenQ.r (Zr [] (RetEv.one rfl (REv.tmp rfl lr)) rfl ⟨by rw[if_pos c3],rfl⟩)))))
  simp at c3
  refine Zk (J.seq (Zs (Zm rfl (Zm rfl (Zq rfl (QW.gtr (.r rfl) (.r rfl)) (Zn ?_))))))
  refine J.cond (.r rfl) (fun c4=>?_) (fun c4=>?_)
  · skip
    simp at c4
    exact Zs (Zq rfl (QW.assign .const) (Zn (J.ret (thenQ.r (Zr [] (RetEv.one rfl (REv.tmp rfl lr)) rfl ⟨by rw[if_neg (by omega),if_pos (by omega)],rfl⟩)))))
  simp at c4
  exact Zk (Zs (Zq rfl (QW.assign .const) (Zn (J.ret (Zr [] (RetEv.one rfl (REv.tmp rfl lr)) rfl ⟨by rw[if_neg (by omega),if_neg (by omega)],rfl⟩)))))

end
section
/- Walks: steps into values: what is found, what is got. -/
set_option maxRecDepth 10000
set_option maxHeartbeats 4000000
theorem M0(s:QN):Fn Tryz.prog 305 [.c (Q4 s)] (.c (.bool false)):=by
  refine AC.of_J Tryz.func305 rfl Tryz.ntmps305 rfl fun w0 A0=>?_
  exact Zs (Zq rfl (QW.assign .const) (Zn (Zs (Zm rfl (Zm rfl (Zq rfl (Wp (.r rfl) (.r rfl)) (Za rfl (Zn (J.ret (Zr [] (RetEv.one rfl (REv.tmp rfl lr)) rfl ⟨U0 (by simp),rfl⟩))))))))))
theorem Kd(s:QN):Fn Tryz.prog 129 [.c (Q4 s)] (.c (.bool false)):=by
  refine AC.of_J Tryz.func129 rfl Tryz.ntmps129 rfl fun w0 A0=>?_
  exact Zs (Zq rfl (QW.assign .const) (Zn (Zs (Zm rfl (Zm rfl (Zq rfl (Wp (.r rfl) (.r rfl)) (Za rfl (Zn (J.ret (Zr [] (RetEv.one rfl (REv.tmp rfl lr)) rfl ⟨U0 (by simp),rfl⟩))))))))))
theorem Dh(a b:QN):Fn Tryz.prog 304 [.c (Q4 a),.c (Q4 b)] (.c (.bool (Op.bytesLess a b))):=by
  refine AC.of_J Tryz.func304 rfl Tryz.ntmps304 rfl fun w0 A0=>?_
  refine Zs (Zq rfl (QW.assign .const) (Zn (Zs (Zm rfl (Zq rfl (QW.call Lj (.cons (.r rfl) .nil) (Kd _)) (Zm rfl (Zg rfl (fun hg=>(QW.move (.r rfl))) (Zg rfl (fun hg=>(QW.call Lj (.cons (.when rfl hg) .nil) (Kd _))) (Zg rfl (fun hg=>(QW.not (.when rfl hg))) ?_)))))))))
  exact Zq rfl (QW.pick_and (.r rfl) (.r rfl)) (Zm rfl (Zg rfl (fun hg=>(QW.move (.r rfl))) (Zg rfl (fun hg=>(QW.move (.r rfl))) (Zg rfl (fun hg=>(TN (.when rfl hg) (.when rfl hg))) (Zq rfl (QW.pick_or (.r rfl) (.r rfl)) (Za rfl (Zn (J.ret (Zr [] (RetEv.one rfl (REv.tmp rfl lr)) rfl ⟨U0 (by simp),rfl⟩)))))))))
theorem Pg{l:List QN}{k:Nat}{s:QN}:(decide (l[k]? =some s))=(decide ((k:Int)<(l.length:Int))&&((l.getD k [])==s||false&&false)):=by
  by_cases hk:k<l.length
  · rw[Bool.eq_iff_iff];simp[hk,List.getD]
  · rw[Bool.eq_iff_iff];simp[hk]
theorem bs_ok{fr c:Bool}{l:List QN}{s:QN}{k:Nat}(hl:l.length≤1000)(hk:k≤l.length)(h1:∀i (h:i<l.length),i<k→Op.bytesLess l[i] s=true)(h2:∀i (h:i<l.length),k≤i→Op.bytesLess l[i] s=false):Fn Tryz.prog 283 [.sl fr c Wz (QP l),.c (Q4 s)] (.tup [.c (.int .i64 (k:Int)),.c (.bool (decide (l[k]? =some s)))]):=by
  refine AC.of_J Tryz.func283 rfl Tryz.ntmps283 rfl fun w0 A0=>?_
  refine Zs (Zq rfl (QW.assign .const) (Zq rfl (QW.assign .const) (Zn (Zs (Zm rfl (Zq rfl (Qh Ue (.r rfl) (Qp _)) (Za rfl (Zn (Zs ?_)))))))))
  refine Zm rfl (Zq rfl (QW.assign .const) (Za rfl (Zn (J.seq (J.block (Ua (ι:=Nat×Nat) [0,1,4,5,6] (fun⟨lo,hi⟩=>[(7,.c (.int .i64 (lo:Int))),(8,.c (.int .i64 (hi:Int)))]) (fun _ oo=>oo) (fun⟨lo,hi⟩=>lo≤k∧k≤hi∧hi≤l.length) (fun⟨lo,hi⟩=>hi-lo) ⟨0,l.length⟩ (⟨Nat.zero_le _,hk,Nat.le_refl _⟩) (QQ (.cons rfl lr (.cons rfl lr (.cons rfl lr (.cons rfl lr (.cons rfl lr (.cons rfl lr (.cons rfl lr .nil))))))) (Reown.refl _) (fun _ h=>by first|exact h|simp[h])) ?_))))))
  intro⟨lo,hi⟩ ⟨ha,hb,hc⟩
  refine J.conv (by(try simp only[nl,Qj,QA,QC,Qy,QZ,AV.cellsOf,Qc,Qd,Nat.reduceAdd]);rfl) ?_
  refine J.seq (Zs (Zm rfl (Zm rfl (Zq rfl (QW.lss (.r rfl) (.r rfl)) (Zn ?_)))))
  refine J.cond (.r rfl) (fun c1=>?_) (fun c1=>?_)
  · skip
    have hlt:lo<hi:=by simpa using c1
    refine Zk (J.block (Zs (Zm rfl (Zm rfl (Zq rfl (QW.add (.r rfl) (.r rfl) (U6 rfl (by omega))) (Zq rfl (Yb us3 iu247 (.r rfl) (wu64 (by omega))) (Zq rfl (QW.shr (.r rfl) .const (by decide) fdiv2) ?_)))))))
    refine Zq rfl (Yb us247 iu3 (.r rfl) (U6 rfl (by omega))) (Za rfl (Zn (Zs (Zm rfl (Zm rfl (Zq rfl (Qi Ue UO rfl (.r rfl) (.r rfl) rfl (by exact WE (ks:=l) (i:=(lo+hi) / 2) (by omega))) ?_))))))
    refine Zt UO rfl (Zm rfl (Zq rfl (QW.call SW (.cons (.r rfl) (.cons (.r rfl) .nil)) (Dh _ _)) (Zn ?_)))
    refine J.cond (.r rfl) (fun c2=>?_) (fun c2=>?_)
    · skip
      have hm:Op.bytesLess (l[(lo+hi) / 2]'(by omega)) s=true:=c2
      refine Qg (Zm rfl (Zq rfl (QW.add (.r rfl) .const (Yy (by omega))) (Za rfl (JL.nil (blkQ.n (thenQ.n ?_))))))
      exact⟨⟨(lo+hi) / 2+1,hi⟩,⟨Nat.lt_of_not_le fun h=>absurd (h2 _ (by omega) h) (by rw[hm];decide),hb,hc⟩,by show hi-((lo+hi) / 2+1)<hi-lo;omega,QQ (.cons rfl lr (.cons rfl lr (.cons rfl lr (.cons rfl lr (.cons rfl lr (.cons rfl lr (.cons rfl lr .nil))))))) (Reown.refl _) (fun _ h=>by first|exact h|simp[h])⟩
    have hm:Op.bytesLess (l[(lo+hi) / 2]'(by omega)) s=false:=c2
    refine Qg (Zm rfl (Za rfl (JL.nil (blkQ.n (thenQ.n ?_)))))
    exact⟨⟨lo,(lo+hi) / 2⟩,⟨ha,Nat.le_of_not_lt fun h=>absurd (h1 _ (by omega) h) (by rw[hm];decide),by omega⟩,by show(lo+hi) / 2-lo<hi-lo;omega,QQ (.cons rfl lr (.cons rfl lr (.cons rfl lr (.cons rfl lr (.cons rfl lr (.cons rfl lr (.cons rfl lr .nil))))))) (Reown.refl _) (fun _ h=>by first|exact h|simp[h])⟩
  have hge:hi≤lo:=by simpa using c1
  refine J.exit (Qz (Qz (QY (thenQ.n (Zs (Zm rfl (Zm rfl (Zm rfl (Zq rfl (QW.lss (.r rfl) (.r rfl)) ?_)))))))))
  refine Zm rfl (Zg rfl (fun hg=>(QW.move (.r rfl))) (Zg rfl (fun hg=>(QW.move (.r rfl))) (Zg rfl (fun hg=>(Qi Ue UO rfl (.when rfl hg) (.when rfl hg) rfl (by exact Xr (by simp at hg;omega)))) ?_)))
  refine Zg rfl (fun hg=>(Qv UO (.when rfl hg) rfl)) (Zg rfl (fun hg=>(QW.move (.r rfl))) (Zg rfl (fun hg=>(WJ (.when rfl hg) (.when rfl hg))) (Zg rfl (fun hg=>(QW.move (.when rfl hg))) (JL.gg rfl rfl rfl rfl rfl (fun hg=>(QW.move (.r rfl))) (JL.gg rfl rfl rfl rfl rfl (fun hg=>(QW.move (.r rfl))) (JL.gg rfl rfl rfl rfl rfl (fun hg=>(Qi Ue UO rfl (.when rfl hg) (.when rfl hg) rfl (by exact Xr (by simp at hg;omega)))) ?_))))))
  refine JL.gg rfl rfl rfl rfl rfl (fun hg=>(Qv UO (.when rfl hg) rfl)) (JL.gg rfl rfl rfl rfl rfl (fun hg=>(QW.call EJ (.cons (.when rfl hg) .nil) (M0 _))) (JL.gg rfl rfl rfl rfl rfl (fun hg=>(QW.move (.when rfl hg))) (JL.gg rfl rfl rfl rfl rfl (fun hg=>(QW.move (.r rfl))) (JL.gg rfl rfl rfl rfl rfl (fun hg=>(QW.call EJ (.cons (.when rfl hg) .nil) (M0 _))) (JL.gg rfl rfl rfl rfl rfl (fun hg=>(YZ hg (.when rfl hg) (.r rfl))) (Zg rfl (fun hg=>(TM hg (.when rfl hg) (.r rfl))) (Zq rfl (QW.pick_and (.r rfl) (.r rfl)) (Za rfl (Za rfl ?_)))))))))
  refine Zn (J.ret ?_)
  obtain rfl:lo=k:=by omega
  exact Zr [] (Qt rfl (REv.tmp rfl lr) (REv.tmp rfl lr)) rfl ⟨by rw[Pg],rfl⟩
def Cb(v:V)(s:StT):AV:=.tup [.c (.int .i64 ((v.fnd s).1:Int)),.c (.int .i64 (v.fnd s).2)]
theorem XN{v:V}{s:StT}{i:Nat}{e:Int}(h:v.fnd s=(i,e)):Cb v s=.tup [.c (.int .i64 (i:Int)),.c (.int .i64 e)]:=by rw[Cb,h]
theorem Cc{fr:Bool}{v:V}{s:StT}{ys zs:List AV}(hv:Vc fr v ys)(hs:Sc s zs)(hp:Uc v=true)(hsw:s.wf):Fn Tryz.prog 269 [.agg ys,.agg zs] (Cb v s):=by
  obtain⟨k,b,t,ks,is⟩:=v
  subst hv
  obtain⟨sk,key,ix⟩:=s
  subst hs
  obtain⟨l1,l2⟩:=Xa hp
  have hsi:=hsw.i
  simp only[V.items,V.keys]at l1 l2 hsi
  refine AC.of_J Tryz.func269 rfl Tryz.ntmps269 rfl fun w0 A0=>?_
  refine Zs (Qs (.r rfl) rfl fun b2=>Qs (.r rfl) rfl fun b3=>Zq rfl (QW.assign .const) (Zq rfl (QW.assign .const) (Zn (J.seq (J.block (J.seq (Zs ?_)))))))
  refine Zd Lk rfl (Zl 0 P1 rfl (Zm rfl (Zg rfl (fun hg=>(Qf UZ (.r rfl) rfl)) (Zg rfl (fun hg=>(Qb 1 UA (.when rfl hg) rfl rfl)) (Zg rfl (fun hg=>(QW.neq (.when rfl hg) .const)) (Zq rfl (QW.pick_and (.r rfl) (.r rfl)) (Za rfl (Zn ?_))))))))
  refine J.cond (.r rfl) (fun c1=>?_) (fun c1=>?_)
  · skip
    skip
    refine Zk ?_
    refine J.cond (.r rfl) (fun c2=>?_) (fun c2=>absurd c2 (by rw[c1];decide))
    exact Zs (Zq rfl (QW.assign .const) (Zq rfl (QW.assign .const) (Zn (J.ret (blkQ.r (thenQ.r (Zr [.k,.k] (Qt rfl (REv.tmp rfl lr) (REv.tmp rfl lr)) rfl ⟨congrArg Wl.ret (XN (i:=0) (e:=81) (by simp at c1;obtain⟨rfl,h5⟩:=c1;simp[V.fnd,V.kind,h5])).symm,rfl⟩)))))))
  skip
  refine Qg (Zd Lk rfl (Zl 0 P1 rfl (Zq rfl (QW.not (.r rfl)) (Zm rfl (Zg rfl (fun hg=>(Qf UZ (.r rfl) rfl)) (Zg rfl (fun hg=>(Qb 1 UA (.when rfl hg) rfl rfl)) (Zg rfl (fun hg=>(QW.neq (.when rfl hg) .const)) (Zq rfl (QW.pick_and (.r rfl) (.r rfl)) (Za rfl ?_)))))))))
  refine Zn ?_
  refine J.cond (.r rfl) (fun c2=>?_) (fun c2=>?_)
  · skip
    skip
    exact Zs (Zq rfl (QW.assign .const) (Zq rfl (QW.assign .const) (Zn (J.ret (blkQ.r (thenQ.r (Zr [.k,.k] (Qt rfl (REv.tmp rfl lr) (REv.tmp rfl lr)) rfl ⟨congrArg Wl.ret (XN (i:=0) (e:=81) (by simp at c1 c2;obtain⟨rfl,h5⟩:=c2;simp[V.fnd,V.kind,h5])).symm,rfl⟩)))))))
  skip
  refine Zs (Zd Lk rfl (Zl 0 P1 rfl (Za rfl (Zn ?_))))
  refine J.cond (.r rfl) (fun c3=>?_) (fun c3=>?_)
  · skip
    simp at c1 c2
    subst c3
    simp at c1
    subst c1
    have hsrt:Rm ks:=ME (X0 hp rfl).2
    refine Zs (Zd YQ rfl (Zl 1 Ge rfl (Zd N7 rfl (Zl 0 UO rfl (Zq rfl (QW.call S9 (.cons (.r rfl) (.cons (.r rfl) .nil)) (bs_ok (k:=M5 ks key) (by omega) (Df _ _) (fun i h hi=>BQ h hi) (fun i h hi=>low_ge hsrt h hi))) (Zm rfl (Zx rfl (Zx rfl (Za rfl ?_)))))))))
    refine Za rfl (Zn (J.seq (Zs (Zm rfl (Zq rfl (QW.not (.r rfl)) (Zn ?_))))))
    refine J.cond (.r rfl) (fun c4=>?_) (fun c4=>?_)
    · skip
      skip
      exact Zs (Zm rfl (Za rfl (Zq rfl (QW.assign .const) (Zn (J.ret (thenQ.r (blkQ.r (thenQ.r (Zr [.k,.k] (Qt rfl (REv.tmp rfl lr) (REv.tmp rfl lr)) rfl ⟨congrArg Wl.ret (XN (i:=M5 ks key) (e:=71) (by simp at c4;simp[V.fnd,V.kind,V.keys,c4])).symm,rfl⟩)))))))))
    skip
    exact Zk (Zs (Zm rfl (Za rfl (Zq rfl (QW.assign .const) (Zn (J.ret (blkQ.r (thenQ.r (Zr [.k,.k] (Qt rfl (REv.tmp rfl lr) (REv.tmp rfl lr)) rfl ⟨congrArg Wl.ret (XN (i:=M5 ks key) (e:=0) (by simp at c4;simp[V.fnd,V.kind,V.keys,c4])).symm,rfl⟩)))))))))
  simp at c1 c2
  subst c3
  simp at c2
  subst c2
  refine Zs (Zd GT rfl (Zl 0 UA rfl (Zq rfl (QW.lss (.r rfl) .const) (Zm rfl (Zg rfl (fun hg=>(Qf GT (.r rfl) rfl)) (Zg rfl (fun hg=>(Qb 0 UA (.when rfl hg) rfl rfl)) (Zg rfl (fun hg=>(Qf Uv (.r rfl) rfl)) (Zg rfl (fun hg=>(Qb 1 WP (.when rfl hg) rfl rfl)) (Zg rfl (fun hg=>(Qh QU (.when rfl hg) wl)) ?_)))))))))
  refine Zg rfl (fun hg=>(QW.geq (.when rfl hg) (.when rfl hg))) (Zq rfl (QW.pick_or (.r rfl) (.r rfl)) (Za rfl (Zn ?_)))
  refine J.cond (.r rfl) (fun c4=>?_) (fun c4=>?_)
  · skip
    skip
    exact Zs (Zq rfl (QW.assign .const) (Zq rfl (QW.assign .const) (Zn (J.ret (blkQ.r (thenQ.r (Zr [.k,.k] (Qt rfl (REv.tmp rfl lr) (REv.tmp rfl lr)) rfl ⟨congrArg Wl.ret (XN (i:=0) (e:=82) (by unfold V.fnd;rw[if_neg (by simp),if_pos (show(V.mk 4 b t ks is).kind=4 from rfl),if_pos (by simpa[V.items]using c4)])).symm,rfl⟩)))))))
  skip
  refine J.skip (blkQ.n (thenQ.n (Zs (Zd GT rfl (Zl 0 UA rfl (Za rfl (Zq rfl (QW.assign .const) (Zn (J.ret ?_)))))))))
  simp at c4
  obtain⟨m,rfl⟩:=Int.eq_ofNat_of_zero_le (a:=ix) (by omega)
  exact Zr [.k,.k] (Qt rfl (REv.tmp rfl lr) (REv.tmp rfl lr)) rfl ⟨congrArg Wl.ret (XN (i:=m) (e:=0) (by simp[V.fnd,V.kind,V.items];omega)).symm,rfl⟩
def Pd(v:V)(p:List StT):AV:=.tup [.agg ((v.getv p).1.cs true),.c (.int .i64 (v.getv p).2)]
theorem LZ{v u:V}{p:List StT}{e:Int}(h:v.getv p=(u,e)):Pd v p=.tup [.agg (u.cs true),.c (.int .i64 e)]:=by rw[Pd,h]
theorem V.cs_it(fr:Bool)(u:V):(u.cs fr)[0+4]? =some (.sl fr false eV (V.css fr u.items)):=by cases u;rfl
theorem Lt{α:Type}{l:List α}{j:Nat}(h:j<l.length):l.drop j=l[j]::l.drop (j+1):=List.drop_eq_getElem_cons h
theorem get_ok{fr fr2 c2:Bool}{v:V}{p:List StT}{ys:List AV}(hv:Vc fr v ys)(hw:v.wf)(hp:p.length*32≤Qr∧∀s∈p,s.wf):Fn Tryz.prog 299 [.agg ys,.sl fr2 c2 eSt (StT.css p)] (Pd v p):=by
  obtain⟨hp80,hpw⟩:=hp
  have hpl:p.length≤4398046511104:=by unfold Qr at hp80;omega
  subst hv
  refine AC.of_J Tryz.func299 rfl Tryz.ntmps299 rfl fun w0 A0=>?_
  refine Zs (Qs (.r rfl) rfl fun b2=>JL.alloc Yd rfl rfl fun b4=>Zq rfl (QW.assign .const) (Zn (J.seq (Zs (Zq rfl (Qe 1 Ql (.r rfl) rfl (Qo vl rfl) vl) (Zq rfl (QW.call X5 (.cons (.r rfl) .nil) (Yl Vc.self hw)) (Za rfl ?_)))))))
  refine Zn (Zs (Zm rfl (Zq rfl (QW.neq (.r rfl) .const) (Zn ?_))))
  refine J.cond (.r rfl) (fun c1=>?_) (fun c1=>?_)
  · skip
    simp at c1
    exact Zs (Zq rfl (QW.build (idx:=[]) Kj Yd rfl .nil rfl rfl rfl rfl) (Zm rfl (Qa 0 Ql (.r rfl) rfl (.r rfl) rfl rfl rfl rfl (Za rfl (Zn (J.ret (thenQ.r (Zr [.k,.k] (Qt rfl (REv.cell 0 Ql rfl rfl rfl rfl (.aggL (.cons lr (.cons lr (.cons lr (.cons (.nil true false _) (.cons (.nil true false _) .nil))))))) (REv.tmp rfl lr)) rfl ⟨congrArg Wl.ret (LZ (u:=.nil) (e:=v.err) (by rw[V.getv,if_pos c1])).symm,rfl⟩))))))))
  simp at c1
  have hfv:=V.fine_of c1
  refine Zk (J.seq (Zs (Zm rfl (Zq rfl (Qh HP (.r rfl) (StT.css_length _)) (Zq rfl (QW.move .const) (Zn (J.block (Ua (ι:=Nat×V) [2,4,17,18] (fun⟨j,u⟩=>[(19,.c (.int .i64 (j:Int)))]) (fun⟨j,u⟩ oo=>List.set oo 1 (.box b2 (u.cs fr))) (fun⟨j,u⟩=>j≤p.length∧u.Fine∧u.wf∧v.walk p=u.walk (p.drop j)) (fun⟨j,u⟩=>p.length-j) ⟨0,v⟩ (⟨Nat.zero_le _,hfv,hw,rfl⟩) (QQ (.cons rfl lr (.cons rfl lr (.cons rfl lr (.cons rfl lr (.cons rfl lr .nil))))) (Reown.refl _) (fun _ h=>by first|exact h|simp[h])) ?_))))))))
  intro⟨j,u⟩ ⟨hj,hf,huw,hwk⟩
  refine J.conv (by(try simp only[nl,Qj,QA,QC,Qy,QZ,AV.cellsOf,Qc,Qd,Nat.reduceAdd]);rfl) ?_
  refine Zs (Zq rfl (QW.lss (.r rfl) (.r rfl)) (Zn (J.seq ?_)))
  refine J.cond (.r rfl) (fun c2=>?_) (fun c2=>?_)
  · skip
    have hlt:j<p.length:=by simpa using c2
    refine Zk (J.seq (J.block (Zs (Zq rfl (Qi HP K2 rfl (.r rfl) (.r rfl) rfl (by exact StT.css_getE hlt)) ?_))))
    refine Zq rfl (Qm K2 (.r rfl) rfl rfl) (JL.alloc ND rfl rfl fun b8=>Qa 0 K2 (.r rfl) rfl (.r rfl) rfl rfl rfl rfl (Zn (Zs (Zq rfl (Qe 2 Ql (.r rfl) rfl (Qo vl rfl) vl) (Zq rfl (Qe 0 K2 (.r rfl) rfl rfl rfl) (Zq rfl (QW.call EN (.cons (.r rfl) (.cons (.r rfl) .nil)) (Cc Vc.self Sc.self hf.part (hpw _ (List.getElem_mem hlt)))) (Zm rfl (Zx rfl ?_))))))))
    refine Zx rfl (Za rfl (Za rfl (Zn (J.seq (Zs (Zm rfl (Zq rfl (QW.neq (.r rfl) .const) (Zn ?_))))))))
    refine J.cond (.r rfl) (fun c3=>?_) (fun c3=>?_)
    · skip
      simp at c3
      refine Zs (Zq rfl (QW.build (idx:=[]) Kj Yd rfl .nil rfl rfl rfl rfl) (Zm rfl (Qa 1 Ql (.r rfl) rfl (.r rfl) rfl rfl rfl rfl (Za rfl (Zn (J.ret (thenQ.r (blkQ.r (thenQ.r ?_)))))))))
      exact thenQ.r (blkQ.r (thenQ.r (Zr [.k,.k,.k] (Qt rfl (REv.cell 1 Ql rfl rfl rfl rfl (.aggL (.cons lr (.cons lr (.cons lr (.cons (.nil true false _) (.cons (.nil true false _) .nil))))))) (REv.tmp rfl lr)) rfl ⟨congrArg Wl.ret (LZ (u:=.nil) (e:=(u.fnd (p[j]'hlt)).2) (by rw[V.getv,if_neg (by simp[c1]),hwk,Lt hlt,V.walk,if_pos c3])).symm,rfl⟩)))
    simp at c3
    have hil:=G6 hf.part c3
    have hcn:(if(u.fnd (p[j]'hlt)).2=0 then((u.fnd (p[j]'hlt)).1:Int)else -1)=((u.fnd (p[j]'hlt)).1:Int):=if_pos c3
    refine Zk (Qg (Zd Uv rfl (Zq rfl (Qb 2 WP (.r rfl) rfl (V.cs_it fr u)) (Zm rfl (Zq rfl (Qi QU Ql rfl (.r rfl) (.r rfl) rfl (by exact(V.css_getE fr hil).trans (by rw[← TF hil]))) ?_)))))
    refine Zq rfl (Qm Ql (.r rfl) (QF vl rfl) vl) (Qa 2 Ql (.r rfl) rfl (.r rfl) rfl vl vl rfl (JL.nil (blkQ.n (thenQ.n (Qg (Zq rfl (QW.add (.r rfl) .const (Yy (by omega))) (Zm rfl (Zn ?_))))))))
    exact⟨⟨j+1,u.kid (u.fnd (p[j]'hlt)).1⟩,⟨hlt,hf.kid (XQ hil),huw.kid (XQ hil),by rw[hwk,Lt hlt,V.walk,if_neg (by simpa using c3)]⟩,by show p.length-(j+1)<p.length-j;omega,QQ (.cons rfl lr (.cons rfl lr (.cons rfl lr (.cons rfl lr (.cons rfl lr .nil))))) (Q3 1 _ rfl) (fun _ h=>by first|exact h|simp[h])⟩
  have hge:p.length≤j:=by simpa using c2
  refine J.exit (Qz (Qz (QY (thenQ.n (Zs (Zq rfl (Qe 1 Ql (.r rfl) rfl (Qo vl rfl) vl) (Zq rfl (QW.call LX (.cons (.r rfl) .nil) (Tq Vc.self huw)) (Qa 0 Ql (.r rfl) rfl (.r rfl) rfl vl rfl rfl (Zq rfl (QW.assign .const) ?_)))))))))
  refine Zn (J.ret ?_)
  rw[List.drop_of_length_le hge]at hwk
  exact Zr [.k,.k] (Qt rfl (REv.cell 0 Ql rfl rfl (Qo vl rfl) vl lr) (REv.tmp rfl lr)) rfl ⟨congrArg Wl.ret (LZ (u:=u) (e:=0) (by rw[V.getv,if_neg (by simp[c1]),hwk];rfl)).symm,rfl⟩

end
end Go.Proofs.YtammalmlbabpbaaGreat.J
