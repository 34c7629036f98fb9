/- Texts of this proof, laid together. -/
import Derived.WalkKit
import Derived.Orders
import Derived.Defers
import Derived.Recover
import Derived.Below
import Derived.RangeFuncIn
import Derived.OrdersIn
import Derived.Deep.AppendSrc
import Derived.Great.BuildSlice
import Derived.SizedLaws
import Derived.OpenShut
import Derived.WideKeyArgs
import Derived.ChangeArms
import Derived.ChangeSame
set_option linter.unusedVariables false
set_option linter.unusedSimpArgs false
namespace Go.Proofs.YtammalmlbabpbaaGreat.J
open Go Go.RowKit
section
/- The states of a call, read as plain values: what a concrete value reads as (Rd), what a call owns (Own), and what holds of a frame and a world (Sat). -/
structure U7 where
  sz:Nat
  bytes:Nat
inductive AV where
  |c (v:Value)
  |sl (fr clip:Bool) (e:U7) (xs:List (List AV))
  |ref (fr:Bool) (ys:List AV)
  |agg (ys:List AV)
  |tup (ys:List AV)
  |wh (t:Bool) (x:AV)
  |gp (v:Value) (off:Nat)
abbrev QS:=Bool→Nat→Prop
def Qr:Nat:=140737488351232
inductive Rd(w:World)(A:QS):Value→AV→Prop
  |c (v:Value):Rd w A v (.c v)
  |emp (fr clip:Bool) (e:U7) (a:Option Addr) (cap:Nat) (hc:clip=true→cap=0):Rd w A (.slice a 0 cap) (.sl fr clip e [])
  |sl (fr clip:Bool) (e:U7) (xs:List (List AV)) (b off cap:Nat) (cs:Array Value) (t:TypeId) (fz:Nat×Nat) (u:Nat→Value)
      (hA:A fr b) (hb:w.heap[b]? =some (.cells cs t fz)) (hcap:xs.length≤cap) (hclip:clip=true→cap=xs.length)
      (hsz:∀x∈xs,x.length=e.sz) (hreach:xs.length*e.bytes≤Qr)
      (hu:∀k y,xs.flatten[k]? =some y→cs[off+k]? =some (u k)∧(u k).oneCell'=true) (hr:∀k y,xs.flatten[k]? =some y→Rd w A (u k) y):
      Rd w A (.slice (some ⟨b,off,none⟩) xs.length cap) (.sl fr clip e xs)
  |ref (fr:Bool) (ys:List AV) (b off:Nat) (cs:Array Value) (t:TypeId) (fz:Nat×Nat) (u:Nat→Value)
      (hA:A fr b) (hb:w.heap[b]? =some (.cells cs t fz))
      (hu:∀k y,ys[k]? =some y→cs[off+k]? =some (u k)∧(u k).oneCell'=true) (hr:∀k y,ys[k]? =some y→Rd w A (u k) y):
      Rd w A (.pointer (some ⟨b,off,none⟩)) (.ref fr ys)
  |agg (vs:Array Value) (ys:List AV) (u:Nat→Value) (hn:vs.size=ys.length)
      (hu:∀k y,ys[k]? =some y→vs[k]? =some (u k)∧(u k).oneCell'=true) (hr:∀k y,ys[k]? =some y→Rd w A (u k) y):Rd w A (.agg vs) (.agg ys)
  |tup (vs:Array Value) (ys:List AV) (u:Nat→Value) (hn:vs.size=ys.length)
      (hu:∀k y,ys[k]? =some y→vs[k]? =some (u k)) (hr:∀k y,ys[k]? =some y→Rd w A (u k) y):Rd w A (.tuple vs) (.tup ys)
  |wh (t:Bool) (v:Value) (x:AV) (h:t=true→Rd w A v x) (h0:t=false→v=undef):Rd w A v (.wh t x)
  |gp (b o n cap off:Nat):Rd w A (.pointer (some ⟨b,o+off,none⟩)) (.gp (.slice (some ⟨b,o,none⟩) n cap) off)
theorem Rd.of_wh{w:World}{A:QS}{v:Value}{t:Bool}{x:AV}(h:Rd w A v (.wh t x))(ht:t=true):Rd w A v x:=by
  generalize hy:AV.wh t x=y at h
  cases h<;>cases hy
  rename_i h h0
  first|exact h ht|exact h0 ht
theorem Rd.of_wh0{w:World}{A:QS}{v:Value}{t:Bool}{x:AV}(h:Rd w A v (.wh t x))(ht:t=false):v=undef:=by
  generalize hy:AV.wh t x=y at h
  cases h<;>cases hy
  rename_i h h0
  first|exact h ht|exact h0 ht
theorem Rd.eq{w:World}{A:QS}{v u:Value}(h:Rd w A v (.c u)):v=u:=by cases h;rfl
theorem X4{w:World}{b:Nat}{o:Obj}(h:w.heap[b]? =some o):b<w.heap.size:=(Array.getElem?_eq_some_iff.1 h).1
theorem Rd.move{w w':World}{A A':QS}{v:Value}{x:AV}(h:Rd w A v x)
    (hA:∀fr b,A fr b→b<w.heap.size→A' fr b) (hw:∀fr b,A fr b→b<w.heap.size→w'.heap[b]? =w.heap[b]?):Rd w' A' v x:=by
  induction h with
  |c v=>exact .c v
  |emp fr clip e a cap hc=>exact .emp fr clip e a cap hc
  |sl fr clip e xs b off cap cs t fz u hA' hb hcap hclip hsz hreach hu _ ih=>
    exact .sl fr clip e xs b off cap cs t fz u (hA _ _ hA' (X4 hb)) (by rw[hw _ _ hA' (X4 hb)];exact hb) hcap hclip hsz hreach hu ih
  |ref fr ys b off cs t fz u hA' hb hu _ ih=>
    exact .ref fr ys b off cs t fz u (hA _ _ hA' (X4 hb)) (by rw[hw _ _ hA' (X4 hb)];exact hb) hu ih
  |agg vs ys u hn hu _ ih=>exact .agg vs ys u hn hu ih
  |tup vs ys u hn hu _ ih=>exact .tup vs ys u hn hu ih
  |wh t v x _ h0 ih=>exact .wh t v x ih h0
  |gp b o n cap off=>exact .gp b o n cap off
inductive Own where
  |box (b:Nat) (ys:List AV)
  |arr (v:Value) (e:U7) (xs:List (List AV))
  |grp (l:List Own)
  |mp (b:Nat) (ks:List Value)
def KH:Value→List Nat
  |.slice (some a) _ (_+1)=>[a.block]
  |_=>[]
mutual
def Own.fp:Own→List Nat
  |.box b _=>[b]
  |.arr v _ _=>KH v
  |.grp l=>Yn l
  |.mp b _=>[b]
def Yn:List Own→List Nat
  |[]=>[]
  |o::l=>o.fp++Yn l
end
def UM(l:List Own):List Nat:=l.flatMap Own.fp
def Cells(w:World)(A:QS)(us:Array Value)(off:Nat)(ys:List AV):Prop:=∀k y,ys[k]? =some y→∃u,us[off+k]? =some u∧u.oneCell'=true∧Rd w A u y
theorem Cells.move{w w':World}{A A':QS}{us:Array Value}{off:Nat}{ys:List AV}(h:Cells w A us off ys)
    (hA:∀fr b,A fr b→b<w.heap.size→A' fr b) (hw:∀fr b,A fr b→b<w.heap.size→w'.heap[b]? =w.heap[b]?):Cells w' A' us off ys:=
  fun k y hk=>let ⟨u,h1,h0,h2⟩:=h k y hk;⟨u,h1,h0,h2.move hA hw⟩
structure RowOf(us:Array Value)(n:Nat):Prop where
  size:us.size=n
  one:∀(k:Nat) (u:Value),us[k]? =some u→u.oneCell'=true
mutual
def Own.ok(w:World)(A:QS):Own→Prop
  |.box b ys=>∃us t,w.heap[b]? =some (.cells us t (0,0))∧us.size=ys.length∧Cells w A us 0 ys
  |.arr v e xs=>(∃a,v=.slice a 0 0∧xs=[])∨
      ∃b cap us t,v=.slice (some ⟨b,0,none⟩) xs.length (cap+1)∧w.heap[b]? =some (.cells us t (0,0))∧xs.length≤cap+1∧RowOf us ((cap+1)*e.sz)∧
        (∀x∈xs,x.length=e.sz)∧Cells w A us 0 xs.flatten
  |.grp l=>Own.okl w A l
  |.mp b ks=>∃es ck,w.heap[b]? =some (.map es ck)∧es.toList.map (fun e=>(e.key,e.val))=ks.map fun k=>(k,Value.bool true)
def Own.okl(w:World)(A:QS):List Own→Prop
  |[]=>True
  |o::l=>o.ok w A∧Own.okl w A l
end
mutual
theorem Own.ok.move{w w':World}{A A':QS}:∀{o:Own},o.ok w A→
    (∀fr b,A fr b→b<w.heap.size→A' fr b)→(∀fr b,A fr b→b<w.heap.size→w'.heap[b]? =w.heap[b]?)→
    (∀b∈o.fp,w'.heap[b]? =w.heap[b]?)→o.ok w' A'
  |.box b ys,h,hA,hw,ho=>by
    simp only[Own.ok]at h⊢
    obtain⟨us,t,h1,h2,h3⟩:=h
    exact⟨us,t,by rw[ho b (by simp[Own.fp])];exact h1,h2,h3.move hA hw⟩
  |.arr v e xs,h,hA,hw,ho=>by
    simp only[Own.ok]at h⊢
    rcases h with h|⟨b,cap,us,t,hv,h1,h2,h3,h4,h5⟩
    · exact .inl h
    · exact .inr ⟨b,cap,us,t,hv,by rw[ho b (by simp[Own.fp,hv,KH])];exact h1,h2,h3,h4,h5.move hA hw⟩
  |.grp l,h,hA,hw,ho=>by
    simp only[Own.ok]at h⊢
    exact Own.okl.move h hA hw (by simpa[Own.fp]using ho)
  |.mp b ks,h,hA,hw,ho=>by
    simp only[Own.ok]at h⊢
    rw[ho b (by simp[Own.fp])];exact h
theorem Own.okl.move{w w':World}{A A':QS}:∀{l:List Own},Own.okl w A l→
    (∀fr b,A fr b→b<w.heap.size→A' fr b)→(∀fr b,A fr b→b<w.heap.size→w'.heap[b]? =w.heap[b]?)→
    (∀b∈Yn l,w'.heap[b]? =w.heap[b]?)→Own.okl w' A' l
  |[],_,_,_,_=>by simp[Own.okl]
  |o::l,h,hA,hw,ho=>by
    simp only[Own.okl]at h⊢
    exact⟨Own.ok.move h.1 hA hw (fun b hb=>ho b (by simp[Yn,hb])),Own.okl.move h.2 hA hw (fun b hb=>ho b (by simp[Yn,hb]))⟩
end
structure Keep(fp:List Nat)(w w':World):Prop where
  os:w'.os=w.os
  tape:w'.tape=w.tape
  output:w'.output=w.output
  size:w.heap.size≤w'.heap.size
  block:∀k,k<w.heap.size→k∉fp→w'.heap[k]? =w.heap[k]?
theorem Keep.refl(fp:List Nat)(w:World):Keep fp w w:=⟨rfl,rfl,rfl,Nat.le_refl _,fun _ _ _=>rfl⟩
theorem Keep.below{w w':World}(h:Keep [] w w'):Below w.heap.size w w':=⟨h.os,h.tape,h.output,h.size,fun k hk=>h.block k hk (by simp)⟩
theorem Keep.trans{fp fp':List Nat}{a b c:World}(h:Keep fp a b)(k:Keep fp' b c)(hf:∀x∈fp',x∈fp∨a.heap.size≤x):Keep fp a c:=
  ⟨k.os.trans h.os,k.tape.trans h.tape,k.output.trans h.output,Nat.le_trans h.size k.size,fun i hi hn=>by
    rw[k.block i (Nat.lt_of_lt_of_le hi h.size) (fun hm=>(hf i hm).elim hn (fun hle=>by omega)),h.block i hi hn]⟩
structure Hp(n0:Nat)(fp0:List Nat)(A0:QS)(own:List Own)(w:World)(A:QS):Prop where
  mono:∀b,A true b→A false b
  sup:∀fr b,A0 fr b→A fr b
  sub:∀fr b,A fr b→A0 fr b∨n0≤b
  lt:∀fr b,A fr b→b<w.heap.size
  fp:∀b∈UM own,b<w.heap.size∧(b∈fp0∨n0≤b)∧∀fr,¬A fr b
  nodup:(UM own).Nodup
  own:∀o∈own,o.ok w A
inductive Wl where
  |ret (x:AV)
  |pan (v:Value)
def RdE(w:World)(A:QS)(e:Ending):Wl→Prop
  |.ret x=>∃v,e=.returned v∧Rd w A v x
  |.pan v=>e=.panicked [{v,recovered:=false}]
def RdL(w:World)(A:QS)(vs:Array Value)(xs:List AV):Prop:=vs.size=xs.length∧∀i x,xs[i]? =some x→Rd w A (vs.getD i undef) x
def AC(P:Program)(f:FuncId)(own:List Own)(xs:List AV)(R:Wl→List Own→Prop):Prop:=
  ∀(w:World) (A0:QS) (vs:Array Value),Hp w.heap.size (UM own) A0 own w A0→RdL w A0 vs xs→
    Calls P f vs w fun e w'=>∃r own' A,R r own'∧Keep (UM own) w w'∧Hp w.heap.size (UM own) A0 own' w' A∧RdE w' A e r
abbrev Fn(P:Program)(f:FuncId)(xs:List AV)(x:AV):Prop:=AC P f [] xs fun r own'=>r=.ret x∧own'=[]
/-! ### States -/
def lk:List (Nat×AV)→Nat→Option AV
  |[],_=>none
  |(j,x)::l,i=>match Nat.beq j i with|true=>some x|false=>lk l i
structure St where
  n:Nat
  env:List (Nat×AV)
  own:List Own
  facts:List (Value×AV)
  dfs:List Deferred
structure Wy where
  w0:World
  fp0:List Nat
  A0:QS
  rd:Option Nat
def XG(r:Option Nat):Fence:={Fence.wide with round:=r}
theorem Tv{n:Nat}{P:Program}{r:Option Nat}{f:FuncId}{args:Array Value}{w:World}{R:Ending→World→Prop}:CallsIn (XG r) n P f args w R↔Calls P f args w R:=
  (callsIn_wide (n:=n):CallsIn Fence.wide n P f args w R↔_)
theorem Hd{P:Program}{r:Option Nat}{o:Oper}{a:Act}{w:World}{K:Act→World→Prop}{Q:Exit→Act→World→Prop}(hnd:∀c,o.op≠ .defer c)(h:o.wp P a w K Q):o.wpIn (XG r) 0 P a w K Q:=by
  refine⟨fun _ _=>trivial,?_⟩
  rw[Oper.semAt_eq _ _ _ hnd]
  unfold Oper.wp at h
  generalize (execOp a.eval o).run P w=res at*
  cases res with
  |ok n w'=>
    cases n<;>simp only[Oper.upon,Oper.uponIn]at h⊢ <;>first|exact h|skip
    · exact⟨fun h=>(by cases h),Tv.2 h⟩
    · refine⟨fun h=>(by cases h),fun c cs _=>?_⟩
      obtain⟨v,w'',hr,hs⟩:=h c cs
      exact⟨v,w'',hr,stepsIn_wide.2 hs⟩
  |halt x w'=>cases x<;>simp only[Oper.upon,Oper.uponIn]at h⊢ <;>first|exact h|skip
structure SatA(E:Wy)(A:QS)(st:St)(a:Act)(w:World):Prop where
  size:a.tmps.size=st.n
  defers:a.defers=st.dfs
  keep:Keep E.fp0 E.w0 w
  hp:Hp E.w0.heap.size E.fp0 E.A0 st.own w A
  env:∀i x,lk st.env i=some x→Rd w A (a.tmps.getD i undef) x
  facts:∀p∈st.facts,Rd w A p.1 p.2
def Sat(E:Wy)(st:St)(a:Act)(w:World):Prop:=∃A,SatA E A st a w
def Wh(E:Wy)(Q:Exit→St→Prop):Exit→Act→World→Prop:=fun e a w=>∃st,Q e st∧Sat E st a w
def J(P:Program)(E:Wy)(c:Code)(st:St)(Q:Exit→St→Prop):Prop:=∀a w,Sat E st a w→c.wpIn (XG E.rd) 0 P (Wh E Q) a w
def JL(P:Program)(E:Wy)(ops:Array Oper)(l:List Oper)(st:St)(Q:Exit→St→Prop):Prop:=∀a w,Sat E st a w→wpListIn (XG E.rd) 0 P ops (Wh E Q) l a w
def Wk(s s':St):Prop:=∀E a w,Sat E s a w→Sat E s' a w
theorem J.weak{P:Program}{E:Wy}{c:Code}{s s':St}{Q:Exit→St→Prop}(hw:Wk s s')(h:J P E c s' Q):J P E c s Q:=fun a w hs=>h a w (hw E a w hs)
/-! ### Rules for code -/
section
variable {P:Program} {E:Wy} {st:St} {Q:Exit→St→Prop}
def thenQ(K:St→Prop)(Q:Exit→St→Prop):Exit→St→Prop
  |.normal,s=>K s
  |e,s=>Q e s
theorem J.mono{c:Code}{Q':Exit→St→Prop}(h:J P E c st Q)(hq:∀e s,Q e s→Q' e s):J P E c st Q':=
  fun a w hs=>wpIn_mono (h a w hs) fun _ _ _ ⟨s,q,r⟩=>⟨s,hq _ _ q,r⟩
theorem J.seq{x y:Code}(h:J P E x st (thenQ (fun s=>J P E y s Q) Q)):J P E (.seq x y) st Q:=fun a w hs=>
  wpIn_seq (wpIn_mono (h a w hs) fun e a' w' ⟨s,q,r⟩=>by
    cases e<;>first|exact q _ _ r|exact⟨s,q,r⟩)
theorem J.skip(h:Q .normal st):J P E .skip st Q:=fun _ _ hs=>wpIn_skip ⟨st,h,hs⟩
theorem J.exit{id:Nat}(h:Q (.exit id) st):J P E (.exit id) st Q:=fun _ _ hs=>wpIn_exit ⟨st,h,hs⟩
theorem J.ret(h:Q .ret st):J P E .ret st Q:=fun _ _ hs=>wpIn_ret ⟨st,h,hs⟩
def blkQ(id:Nat)(Q:Exit→St→Prop):Exit→St→Prop
  |.exit id',s=>match Nat.beq id' id with|true=>Q .normal s|false=>Q (.exit id') s
  |e,s=>Q e s
theorem J.block{id:Nat}{c:Code}(h:J P E c st (blkQ id Q)):J P E (.block id c) st Q:=fun a w hs=>
  wpIn_block (wpIn_mono (h a w hs) fun e a' w' ⟨s,q,r⟩=>by
    cases e with
    |exit id'=>
      simp only[Exit.inBlock]
      simp only[blkQ]at q
      split at q
      · rename_i hb
        rw[if_pos (Nat.eq_of_beq_eq_true hb)]
        exact⟨s,q,r⟩
      · rename_i hb
        rw[if_neg (fun hh=>by subst hh;simp at hb)]
        exact⟨s,q,r⟩
    |_=>exact⟨s,q,r⟩)
theorem J.loop{ι:Type}{c:Code}(I:ι→St)(p:ι→Prop)(μ:ι→Nat)(i0:ι)(h0:p i0)(hw:Wk st (I i0))
    (round:∀i,p i→J P E c (I i) (thenQ (fun s=>∃j,p j∧μ j<μ i∧Wk s (I j)) Q)):J P E (.loop c) st Q:=by
  intro a w hs b k cs hro hb hr
  have key:∀n i a w,μ i=n→p i→Sat E (I i) a w→
      ∃e a' w',Wh E Q e a' w'∧ArrivesIn (Machine.fenced P (XG E.rd)) P (lone (b.atR a (.code c::.inLoop c::k)) cs w) b k cs e a' w':=by
    intro n
    induction n using Nat.strongRecOn with
    |_ n ih=>
      intro i a w hn hp hsat
      obtain⟨e,a₁,w₁,⟨s,hq,hss⟩,harr⟩:=round i hp a w hsat b (.inLoop c::k) cs hro hb hr
      cases e with
      |normal=>
        obtain⟨j,hpj,hlt,hwk⟩:=hq
        obtain⟨e₂,a₂,w₂,hq₂,harr₂⟩:=ih (μ j) (hn▸hlt) j a₁ w₁ rfl hpj (hwk E _ _ hss)
        exact⟨e₂,a₂,w₂,hq₂,.of_steps (StepsIn.trans harr (.one (fenced_calm hb hr rfl) stepR_inLoop)) harr₂⟩
      |exit id=>exact⟨_,a₁,w₁,⟨s,hq,hss⟩,.pass (x:=.inLoop c) rfl (fun _ _=>.inl (by simp)) harr⟩
      |goto l=>exact⟨_,a₁,w₁,⟨s,hq,hss⟩,.pass (x:=.inLoop c) rfl (fun _ _=>.inl (by simp)) harr⟩
      |ret=>exact⟨_,a₁,w₁,⟨s,hq,hss⟩,.pass (x:=.inLoop c) rfl (fun _ _=>.inl (by simp)) harr⟩
      |panic ch=>exact⟨_,a₁,w₁,⟨s,hq,hss⟩,.pass (x:=.inLoop c) rfl (fun _ _=>.inl (by simp)) harr⟩
      |outgrown=>exact⟨_,a₁,w₁,⟨s,hq,hss⟩,.pass (x:=.inLoop c) rfl (fun _ _=>.inl (by simp)) harr⟩
  obtain⟨e,a',w',hq,harr⟩:=key _ i0 a w rfl h0 (hw E a w hs)
  exact⟨e,a',w',hq,.of_steps (.one (fenced_calm hb hr rfl) stepR_loop) harr⟩
/-! ### Operands -/
def Ev(E:Wy)(st:St)(x:Operand)(y:AV):Prop:=∀A a w,SatA E A st a w→Rd w A (a.eval x) y
theorem Ev.tmp{i:Nat}{y:AV}(h:lk st.env i=some y):Ev E st (.tmp i) y:=fun _ _ _ hs=>hs.env i y h
theorem Ev.const{v:Value}:Ev E st (.const v) (.c v):=fun _ _ _ _=>.c v
theorem Ev.func{f:FuncId}:Ev E st (.func f) (.c (.func (.func f) #[] #[])):=fun _ _ _ _=>.c _
theorem Ev.when{i:Nat}{t:Bool}{y:AV}(h:lk st.env i=some (.wh t y))(ht:t=true):Ev E st (.tmp i) y:=fun _ _ _ hs=>(hs.env i _ h).of_wh ht
theorem Ev.eq{x:Operand}{v:Value}(h:Ev E st x (.c v)){A:QS}{a:Act}{w:World}(hs:SatA E A st a w):a.eval x=v:=(h A a w hs).eq
theorem J.cond{c:Operand}{x y:Code}{t:Bool}(hc:Ev E st c (.c (.bool t)))(h1:t=true→J P E x st Q)(h2:t=false→J P E y st Q):
    J P E (.cond c x y) st Q:=fun a w hs=>by
  obtain⟨A,hA⟩:=hs
  exact wpIn_cond_split (hc.eq hA) (fun ht=>h1 ht a w ⟨A,hA⟩) (fun ht=>h2 ht a w ⟨A,hA⟩)
/-! ### Lists of operations -/
theorem Qg{id:Nat}{l:List Oper}(h:JL P E l.toArray l st Q):J P E (.region id l.toArray false) st Q:=fun a w hs=>wpIn_region_lit (h a w hs)
theorem JL.nil{ops:Array Oper}(h:Q .normal st):JL P E ops [] st Q:=fun _ _ hs=>wpListIn_nil ⟨st,h,hs⟩
def Frm(w:World)(A:QS)(w':World)(A':QS):Prop:=∀u y,Rd w A u y→Rd w' A' u y
theorem Frm.refl(w:World)(A:QS):Frm w A w A:=fun _ _ h=>h
def QW(P:Program)(E:Wy)(st:St)(o:Oper)(x:AV):Prop:=
  ∀A a w,SatA E A st a w→∀(K:Act→World→Prop) (Qx:Exit→Act→World→Prop),
    (∀v w' A',Frm w A w' A'→SatA E A' st a w'→Rd w' A' v x→K (a.put o.dst v) w')→o.wpIn (XG E.rd) 0 P a w K Qx
def Step(P:Program)(E:Wy)(ops:Array Oper)(st:St)(o:Oper)(x:AV):Prop:=
  ∀A a w,SatA E A st a w→∀(K:Act→World→Prop) (Qx:Exit→Act→World→Prop),
    (∀v w' A',Frm w A w' A'→SatA E A' st a w'→Rd w' A' v x→K (a.put o.dst v) w')→
    if Region.wanted o (yielded ops a.tmps)then o.wpIn (XG E.rd) 0 P a w K Qx else K (a.put o.dst undef) w
theorem Ui{a b:Nat}(h:Nat.blt a b=true):a<b:=by simp[Nat.blt]at h;omega
theorem Wr{a:Act}{d:Nat}{v:Value}(h:d<a.tmps.size):(a.put (some d) v).tmps.getD d undef=v:=by
  simp[Act.put,Array.getD_eq_getD_getElem?,h]
theorem WC{a:Act}{d i:Nat}{v:Value}(h:d≠i):(a.put (some d) v).tmps.getD i undef=a.tmps.getD i undef:=by
  simp[Act.put,Array.getD_eq_getD_getElem?,Array.getElem?_setIfInBounds_ne h]
theorem WX{j:Nat}{x:AV}{l:List (Nat×AV)}{i:Nat}{y:AV}(h:lk ((j,x)::l) i=some y):(j=i∧y=x)∨(j≠i∧lk l i=some y):=by
  unfold lk at h
  split at h
  · rename_i hb;exact .inl ⟨Nat.eq_of_beq_eq_true hb,by simpa using h.symm⟩
  · rename_i hb;exact .inr ⟨fun e=>by subst e;simp at hb,h⟩
theorem SatA.put{A:QS}{a:Act}{w:World}{n:Nat}{env:List (Nat×AV)}{own:List Own}{F:List (Value×AV)}{D:List Deferred}
    (h:SatA E A ⟨n,env,own,F,D⟩ a w) {d:Nat} {v:Value} {x:AV} (hd:d<n) (hr:Rd w A v x):
    SatA E A ⟨n,(d,x)::env,own,F,D⟩ (a.put (some d) v) w:=
  ⟨by have:=h.size;simp[Act.put,this],h.defers,h.keep,h.hp,fun i y hl=>by
    rcases WX hl with ⟨rfl,rfl⟩|⟨hne,hl⟩
    · rw[Wr (by have:=h.size;simp only at this;rw[this];exact hd)];exact hr
    · rw[WC hne];exact h.env i y hl,h.facts⟩
section
variable {n:Nat} {env:List (Nat×AV)} {own:List Own} {F:List (Value×AV)} {D:List Deferred}
theorem JL.step{ops:Array Oper}{o:Oper}{rest:List Oper}{d:Nat}{x:AV}(hd:o.dst=some d)(hn:Nat.blt d n=true)(hq:Step P E ops ⟨n,env,own,F,D⟩ o x)
    (h:JL P E ops rest ⟨n,(d,x)::env,own,F,D⟩ Q):JL P E ops (o::rest) ⟨n,env,own,F,D⟩ Q:=fun a w ⟨A,hA⟩=>
  wpListIn_step fun K hK=>by
    have h1:=hq A a w hA K (Wh E Q) fun v w' A' _ hA' hr=>hK _ _ (by
      rw[hd]
      exact h _ _ ⟨A',hA'.put (Ui hn) hr⟩)
    split
    · rename_i hw;rw[if_pos hw]at h1;exact h1
    · rename_i hw;rw[if_neg hw]at h1;exact⟨fun _ _=>trivial,h1⟩
end
theorem Step.q{ops:Array Oper}{o:Oper}{x:AV}(hg:o.guard=none)(hq:QW P E st o x):Step P E ops st o x:=fun A a w hA K Qx hK=>by
  rw[if_pos (by simp[Region.wanted,hg])]
  exact hq A a w hA K Qx hK
theorem Step.g{ops:Array Oper}{o:Oper}{j s:Nat}{want g:Bool}{x:AV}(hg:o.guard=some (j,want))
    (hs:(ops[j]?).bind (·.dst)=some s) (hl:lk st.env s=some (.c (.bool g))) (hq:(g==want)=true→QW P E st o x):Step P E ops st o (.wh (g==want) x):=fun A a w hA K Qx hK=>by
  have hy:yielded ops a.tmps j=some g:=by
    have h1:=(hA.env s _ hl).eq
    unfold yielded
    rw[hs]
    simp only[Option.bind_some]
    rw[Array.getD_eq_getD_getElem?]at h1
    cases h2:a.tmps[s]? with
    |none=>rw[h2]at h1;simp[undef]at h1
    |some v=>rw[h2]at h1;simp at h1;subst h1;rfl
  cases hb:(g==want)with
  |true=>
    rw[if_pos (by simp only[Region.wanted,hg,hy];simpa using hb)]
    refine hq hb A a w hA K _ fun v w' A' hf hA' hr=>hK v w' A' hf hA' ?_
    rw[hb]
    exact .wh _ _ _ (fun _=>hr) fun ht=>by cases ht
  |false=>
    rw[if_neg (by simp only[Region.wanted,hg,hy];simpa using hb)]
    refine hK undef w A (.refl _ _) hA ?_
    rw[hb]
    exact .wh _ _ _ (fun ht=>by cases ht) fun _=>rfl
theorem andL{a b:Bool}(h:(a&&b)=true):a=true:=by cases a<;>simp at h⊢
theorem andR{a b:Bool}(h:(a&&b)=true):b=true:=by cases a<;>simp at h⊢;exact h
theorem Step.gg{ops:Array Oper}{o:Oper}{j s:Nat}{want g t:Bool}{x:AV}(hg:o.guard=some (j,want))
    (hs:(ops[j]?).bind (·.dst)=some s) (hl:lk st.env s=some (.wh t (.c (.bool g)))) (hq:(t&&(g==want))=true→QW P E st o x):Step P E ops st o (.wh (t&&(g==want)) x):=fun A a w hA K Qx hK=>by
  have hy:yielded ops a.tmps j=if t then some g else none:=by
    have h0:=hA.env s _ hl
    unfold yielded
    rw[hs]
    simp only[Option.bind_some]
    rw[Array.getD_eq_getD_getElem?]at h0
    cases t with
    |true=>
      have h1:=(h0.of_wh rfl).eq
      cases h2:a.tmps[s]? with
      |none=>rw[h2]at h1;simp[undef]at h1
      |some v=>rw[h2]at h1;simp at h1;subst h1;rfl
    |false=>
      have h1:=h0.of_wh0 rfl
      cases h2:a.tmps[s]? with
      |none=>rfl
      |some v=>rw[h2]at h1;simp at h1;subst h1;rfl
  cases hb:(t&&(g==want))with
  |true=>
    rw[if_pos (by simp only[Region.wanted,hg,hy];rw[andL hb];simpa using andR hb)]
    refine hq hb A a w hA K _ fun v w' A' hf hA' hr=>hK v w' A' hf hA' ?_
    rw[hb]
    exact .wh _ _ _ (fun _=>hr) fun ht=>by cases ht
  |false=>
    have hw:¬Region.wanted o (yielded ops a.tmps)=true:=by
      simp only[Region.wanted,hg,hy]
      cases t with
      |true=>simpa using hb
      |false=>simp
    rw[if_neg hw]
    refine hK undef w A (.refl _ _) hA ?_
    rw[hb]
    exact .wh _ _ _ (fun ht=>by cases ht) fun _=>rfl
section
variable {n:Nat} {env:List (Nat×AV)} {own:List Own} {F:List (Value×AV)} {D:List Deferred}
theorem JL.q{ops:Array Oper}{o:Oper}{rest:List Oper}{d:Nat}{x:AV}(hg:o.guard=none)(hd:o.dst=some d)(hn:Nat.blt d n=true)(hq:QW P E ⟨n,env,own,F,D⟩ o x)
    (h:JL P E ops rest ⟨n,(d,x)::env,own,F,D⟩ Q):JL P E ops (o::rest) ⟨n,env,own,F,D⟩ Q:=.step hd hn (.q hg hq) h
theorem JL.g{ops:Array Oper}{o:Oper}{rest:List Oper}{d j s:Nat}{want g:Bool}{x:AV}(hg:o.guard=some (j,want))(hd:o.dst=some d)(hn:Nat.blt d n=true)
    (hs:(ops[j]?).bind (·.dst)=some s) (hl:lk env s=some (.c (.bool g))) (hq:(g==want)=true→QW P E ⟨n,env,own,F,D⟩ o x)
    (h:JL P E ops rest ⟨n,(d,.wh (g==want) x)::env,own,F,D⟩ Q):JL P E ops (o::rest) ⟨n,env,own,F,D⟩ Q:=.step hd hn (.g hg hs hl hq) h
theorem JL.gg{ops:Array Oper}{o:Oper}{rest:List Oper}{d j s:Nat}{want g t:Bool}{x:AV}(hg:o.guard=some (j,want))(hd:o.dst=some d)(hn:Nat.blt d n=true)
    (hs:(ops[j]?).bind (·.dst)=some s) (hl:lk env s=some (.wh t (.c (.bool g)))) (hq:(t&&(g==want))=true→QW P E ⟨n,env,own,F,D⟩ o x)
    (h:JL P E ops rest ⟨n,(d,.wh (t&&(g==want)) x)::env,own,F,D⟩ Q):JL P E ops (o::rest) ⟨n,env,own,F,D⟩ Q:=.step hd hn (.gg hg hs hl hq) h
end
theorem QW.pure{o:Oper}{x:AV}(h:∀A a w,SatA E A st a w→∃v,(execOp a.eval o).run P w=.ok (.value v) w∧Rd w A v x)(hnd:∀c,o.op≠ .defer c:=by(intro c h;cases h)):QW P E st o x:=fun A a w hA K Qx hK=>by
  obtain⟨v,hr,hx⟩:=h A a w hA
  refine Hd (by first|assumption|(intro c h;cases h)) ?_
  unfold Oper.wp
  rw[hr,Oper.upon_value]
  exact hK v w A (.refl _ _) hA hx
theorem QW.conv{o:Oper}{x y:AV}(h:QW P E st o x)(he:x=y):QW P E st o y:=he▸h
end

end
section
/- From a contract to the calls of a row: the contract of a law that owns nothing, as the statement's own form asks for it. -/
theorem PY(w:World)(A0:QS)(hm:∀b,A0 true b→A0 false b)(hlt:∀fr b,A0 fr b→b<w.heap.size):Hp w.heap.size (UM []) A0 [] w A0:=
  ⟨hm,fun _ _ h=>h,fun _ _ h=>.inl h,hlt,fun b hb=>by simp[UM]at hb,by simp[UM],fun o ho=>by cases ho⟩
abbrev Md(w:World):QS:=fun fr b=>fr=false∧b<w.heap.size
theorem FO{P:Program}{f:FuncId}{xs:List AV}{b:Bool}(h:Fn P f xs (.c (.bool b)))(w:World)(vs:Array Value)(hr:RdL w (Md w) vs xs):
    Calls P f vs w fun e w'=>e=.returned (.bool b)∧Below w.heap.size w w':=by
  refine(h w (Md w) vs (PY w _ (fun _ h=>by cases h.1) (fun _ _ h=>h.2)) hr).mono fun e w' ⟨r,o,A,⟨h1,h2⟩,h3,h4,h5⟩=>?_
  subst h1
  obtain⟨v,rfl,hv⟩:=h5
  rw[hv.eq]
  exact⟨rfl,h3.below⟩
theorem RdL.nil{w:World}{A:QS}:RdL w A #[] []:=⟨rfl,fun i x h=>by simp at h⟩

end
section
/- The rules for quiet operations: loads, addresses, arithmetic, lengths, slicing, conversions. -/
def Dk:TypeDesc→Bool
  |.struct _|.array _ _=>true
  |_=>false
def Un(P:Program)(t:TypeId):Option (Bool×Nat×Nat):=
  match P.info? t,P.underlying t with
  |some i,some d=>some (Dk d,i.size,i.bytes)
  |_,_=>none
def Qu(P:Program)(s:TypeId)(f:Nat):Option Nat:=
  match P.underlying s with
  |some (.struct fs)=>match fs[f]? with
    |some fd=>if P.info? fd.type|>.any (·.size≠0)then some fd.offset else none
    |none=>none
  |_=>none
section
variable {P:Program} {E:Wy} {st:St} {t:TypeId} {g:Bool} {n B:Nat} {w:World}
theorem MS(h:Un P t=some (g,n,B)):∃i d,P.info? t=some i∧P.underlying t=some d∧i.size=n∧i.bytes=B∧Dk d=g:=by
  unfold Un at h
  split at h
  · rename_i i d h1 h2
    simp only[Option.some.injEq,Prod.mk.injEq]at h
    exact⟨i,d,h1,h2,h.2.1,h.2.2,h.1⟩
  · cases h
theorem Qq(d:TypeDesc)(h:P.underlying t=some d):(underlying t).run P w=.ok d w:=by
  simp[underlying,h]
theorem Yg{i:TypeInfo}(h:P.info? t=some i):(typeInfo t).run P w=.ok i w:=by
  simp[typeInfo,h]
theorem Y2(h:Un P t=some (g,n,B)):(isAgg t).run P w=.ok g w:=by
  obtain⟨i,d,_,h2,_,_,h5⟩:=MS h
  simp only[isAgg,Sem.run_bind,Qq d h2,Result.andThen_ok]
  cases d<;>simp_all [Dk]
theorem Us(h:Un P t=some (g,n,B)):(sizeOf t).run P w=.ok n w:=by
  obtain⟨i,d,h1,_,h3,_,_⟩:=MS h
  simp[sizeOf,Yg h1,h3]
theorem Wv(b off i:Nat):Addr.add ⟨b,off,none⟩ i=⟨b,off+i,none⟩:=by
  unfold Addr.add
  split
  · rename_i h;subst h;rfl
  · rfl
theorem Xy{b off:Nat}{cs:Array Value}{ty:TypeId}{fz:Nat×Nat}(h:w.heap[b]? =some (.cells cs ty fz)):w.cell? ⟨b,off,none⟩=cs[off]? :=by
  simp[World.cell?,h]
theorem HR{b off:Nat}{cs:Array Value}{ty:TypeId}{fz:Nat×Nat}{v:Value}(h:w.heap[b]? =some (.cells cs ty fz))(hv:cs[off]? =some v):
    (load ⟨b,off,none⟩).run P w=.ok v w:=by
  have:w.cell? ⟨b,off,none⟩=some v:=by rw[Xy h];exact hv
  simp[this]
theorem K4{b:Nat}{cs:Array Value}{ty:TypeId}{fz:Nat×Nat}(h:w.heap[b]? =some (.cells cs ty fz)):∀(n off i:Nat) (acc:Array Value) (u:Nat→Value),
    (∀k,k<n→cs[off+i+k]? =some (u k))→(loadCellsFrom ⟨b,off,none⟩ i n acc).run P w=.ok (acc++(Array.range n).map u) w:=by
  intro n
  induction n with
  |zero=>intro off i acc u _;simp[loadCellsFrom]
  |succ n ih=>
    intro off i acc u hu
    have h0:cs[off+i]? =some (u 0):=hu 0 (by omega)
    simp only[loadCellsFrom,Sem.run_bind,Wv,HR h h0,Result.andThen_ok]
    rw[ih off (i+1) (acc.push (u 0)) (fun k=>u (k+1)) (fun k hk=>by have:=hu (k+1) (by omega);rw[show off+(i+1)+k=off+i+(k+1) by omega];exact this)]
    congr 1
    apply Array.ext'
    simp[List.range_succ_eq_map,Function.comp_def]
theorem Xn{b off:Nat}{cs:Array Value}{ty:TypeId}{fz:Nat×Nat}{A:QS}{ys:List AV}(hT:Un P t=some (true,n,B))
    (h:w.heap[b]? =some (.cells cs ty fz)) (hc:Cells w A cs off ys) (hl:ys.length=n):
    ∃v,(loadVar t ⟨b,off,none⟩).run P w=.ok v w∧Rd w A v (.agg ys):=by
  have hu:∀k,k<n→∃u,(cs[off+k]? =some u∧u.oneCell'=true)∧∀y,ys[k]? =some y→Rd w A u y:=fun k hk=>by
    obtain⟨y,hy⟩:∃y,ys[k]? =some y:=⟨ys[k]'(by omega),List.getElem?_eq_getElem _⟩
    obtain⟨u,h1,h0,h2⟩:=hc k y hy
    exact⟨u,⟨h1,h0⟩,fun y' hy'=>by rw[hy]at hy';cases hy';exact h2⟩
  let u:Nat→Value:=fun k=>if hk:k<n then Classical.choose (hu k hk)else undef
  have hus:∀k,k<n→(cs[off+k]? =some (u k)∧(u k).oneCell'=true)∧∀y,ys[k]? =some y→Rd w A (u k) y:=fun k hk=>by
    have:=Classical.choose_spec (hu k hk)
    simp only[u,dif_pos hk]
    exact this
  refine⟨.agg ((Array.range n).map u),?_,.agg _ _ u (by simp[hl]) (fun k y hk=>?_) (fun k y hk=>?_)⟩
  · simp only[loadVar,Sem.run_bind,Y2 hT,Result.andThen_ok,if_true,Us hT,loadCells]
    rw[K4 h n off 0 #[] u (fun k hk=>by simpa using (hus k hk).1.1)]
    simp
  · have hk':k<n:=by rw[← hl];exact(List.getElem?_eq_some_iff.1 hk).1
    exact⟨by simp[hk'],(hus k hk').1.2⟩
  · have hk':k<n:=by rw[← hl];exact(List.getElem?_eq_some_iff.1 hk).1
    exact(hus k hk').2 y hk
theorem XZ{b off:Nat}{cs:Array Value}{ty:TypeId}{fz:Nat×Nat}{A:QS}{y:AV}(hT:Un P t=some (false,n,B))
    (h:w.heap[b]? =some (.cells cs ty fz)) {u:Value} (hc:cs[off]? =some u) (hr:Rd w A u y):
    ∃v,(loadVar t ⟨b,off,none⟩).run P w=.ok v w∧Rd w A v y:=
  ⟨u,by simp only[loadVar,Sem.run_bind,Y2 hT,Result.andThen_ok,Bool.false_eq_true,if_false,HR h hc],hr⟩
theorem Rd.of_ref{A:QS}{v:Value}{fr:Bool}{ys:List AV}(h:Rd w A v (.ref fr ys)):
    ∃b off cs t fz,v=.pointer (some ⟨b,off,none⟩)∧A fr b∧w.heap[b]? =some (.cells cs t fz)∧Cells w A cs off ys:=by
  cases h with
  |ref _ _ b off cs t fz u hA hb hu hr=>exact⟨b,off,cs,t,fz,rfl,hA,hb,fun k y hk=>⟨u k,(hu k y hk).1,(hu k y hk).2,hr k y hk⟩⟩
theorem Cells.drop{A:QS}{us:Array Value}{off:Nat}{ys:List AV}(h:Cells w A us off ys)(k:Nat):Cells w A us (off+k) (ys.drop k):=fun j y hj=>by
  rw[List.getElem?_drop]at hj
  obtain⟨u,h1,h0,h2⟩:=h _ _ hj
  exact⟨u,by rw[Nat.add_assoc];exact h1,h0,h2⟩
theorem Cells.take{A:QS}{us:Array Value}{off:Nat}{ys:List AV}(h:Cells w A us off ys)(k:Nat):Cells w A us off (ys.take k):=fun j y hj=>by
  rw[List.getElem?_take]at hj
  split at hj
  · exact h _ _ hj
  · cases hj
theorem Rd.mk_ref{A:QS}{fr:Bool}{ys:List AV}{b off:Nat}{cs:Array Value}{ty:TypeId}{fz:Nat×Nat}(hA:A fr b)(hb:w.heap[b]? =some (.cells cs ty fz))(hc:Cells w A cs off ys):
    Rd w A (.pointer (some ⟨b,off,none⟩)) (.ref fr ys):=by
  refine .ref fr ys b off cs ty fz (fun k=>cs.getD (off+k) undef) hA hb (fun k y hk=>?_) (fun k y hk=>?_)
  · obtain⟨u,h1,h0,_⟩:=hc k y hk
    simp[Array.getD_eq_getD_getElem?,h1,h0]
  · obtain⟨u,h1,_,h2⟩:=hc k y hk
    simpa[Array.getD_eq_getD_getElem?,h1]using h2
/-! ### quiet operations -/
section
variable {d:Option Tmp} {ty:TypeId} {pos:String} {af:Array Edge} {gd:Option (Nat×Bool)} {x y z:Operand} {v u:AV}
theorem QW.move(h:Ev E st x v):QW P E st ⟨d,.move x,ty,pos,af,gd⟩ v:=.pure fun A a w hs=>⟨_,rfl,h A a w hs⟩
theorem QW.assign(h:Ev E st x v):QW P E st ⟨d,.assign x,ty,pos,af,gd⟩ v:=.pure fun A a w hs=>⟨_,rfl,h A a w hs⟩
theorem Qm{fr:Bool}{ys zs:List AV}(hT:Un P t=some (true,n,B))(h:Ev E st x (.ref fr ys))(hz:ys.take n=zs)(hl:zs.length=n):
    QW P E st ⟨d,.load t x,ty,pos,af,gd⟩ (.agg zs):=.pure fun A a w hs=>by
  obtain⟨b,off,cs,t',fz,hv,_,hb,hc⟩:=(h A a w hs).of_ref
  subst hz
  obtain⟨v,h1,h2⟩:=Xn hT hb (hc.take n) hl
  exact⟨v,by simp only[execOp,Instr.loadAt,hv,Instr.sureAddr,Sem.run_bind,Sem.run_pure,Result.andThen_ok,h1],h2⟩
theorem Qv{fr:Bool}{ys:List AV}(hT:Un P t=some (false,n,B))(h:Ev E st x (.ref fr ys))(hy:ys[0]? =some v):
    QW P E st ⟨d,.load t x,ty,pos,af,gd⟩ v:=.pure fun A a w hs=>by
  obtain⟨b,off,cs,t',fz,hv,_,hb,hc⟩:=(h A a w hs).of_ref
  obtain⟨u,h3,_,h4⟩:=hc 0 _ hy
  obtain⟨v,h1,h2⟩:=XZ hT hb (by simpa using h3) h4
  exact⟨v,by simp only[execOp,Instr.loadAt,hv,Instr.sureAddr,Sem.run_bind,Sem.run_pure,Result.andThen_ok,h1],h2⟩
theorem SatA.box{A:QS}{a:Act}(hs:SatA E A st a w){b:Nat}{ys:List AV}(i:Nat)(ho:st.own[i]? =some (.box b ys)):
    ∃us t,w.heap[b]? =some (.cells us t (0,0))∧us.size=ys.length∧Cells w A us 0 ys:=hs.hp.own _ (List.mem_of_getElem? ho)
theorem Qe(i:Nat){b off:Nat}{ys zs:List AV}(hT:Un P t=some (true,n,B))(h:Ev E st x (.c (.pointer (some ⟨b,off,none⟩))))(ho:st.own[i]? =some (.box b ys))
    (hz:(ys.drop off).take n=zs) (hl:zs.length=n):QW P E st ⟨d,.load t x,ty,pos,af,gd⟩ (.agg zs):=.pure fun A a w hs=>by
  obtain⟨us,t',hb,_,hc⟩:=hs.box i ho
  subst hz
  obtain⟨v,h1,h2⟩:=Xn hT hb ((hc.drop off).take n) hl
  rw[Nat.zero_add]at h1
  exact⟨v,by simp only[execOp,Instr.loadAt,h.eq hs,Instr.sureAddr,Sem.run_bind,Sem.run_pure,Result.andThen_ok,h1],h2⟩
theorem Qb(i:Nat){b off:Nat}{ys:List AV}(hT:Un P t=some (false,n,B))(h:Ev E st x (.c (.pointer (some ⟨b,off,none⟩))))(ho:st.own[i]? =some (.box b ys))
    (hy:ys[off]? =some v):QW P E st ⟨d,.load t x,ty,pos,af,gd⟩ v:=.pure fun A a w hs=>by
  obtain⟨us,t',hb,_,hc⟩:=hs.box i ho
  obtain⟨u,h3,_,h4⟩:=hc _ _ hy
  obtain⟨v,h1,h2⟩:=XZ hT hb (by simpa using h3) h4
  exact⟨v,by simp only[execOp,Instr.loadAt,h.eq hs,Instr.sureAddr,Sem.run_bind,Sem.run_pure,Result.andThen_ok,h1],h2⟩
theorem GU{f o:Nat}(h:Qu P t f=some o)(b off:Nat):(Instr.fieldAt t (.pointer (some ⟨b,off,none⟩)) f).run P w=.ok (.pointer (some ⟨b,off+o,none⟩)) w:=by
  unfold Qu at h
  split at h
  · rename_i fs hfs
    split at h
    · rename_i fd hfd
      split at h
      · rename_i hany
        cases h
        have:∃i,P.info? fd.type=some i∧i.size≠0:=by
          cases hi:P.info? fd.type with
          |none=>simp[hi]at hany
          |some i=>exact⟨i,rfl,by simpa[hi]using hany⟩
        obtain⟨i,hi,hne⟩:=this
        simp only[Instr.fieldAt,Sem.run_bind,Qq _ hfs,Result.andThen_ok,hfd,Instr.sureAddr,Sem.run_pure,fieldPlace,sizeOf,Yg hi,if_neg hne,Wv]
      · cases h
    · cases h
  · cases h
theorem QL{fr:Bool}{ys zs:List AV}{f o:Nat}(hF:Qu P t f=some o)(h:Ev E st x (.ref fr ys))(hz:ys.drop o=zs):
    QW P E st ⟨d,.fieldAddr t x f,ty,pos,af,gd⟩ (.ref fr zs):=.pure fun A a w hs=>by
  obtain⟨b,off,cs,t',fz,hv,hA,hb,hc⟩:=(h A a w hs).of_ref
  subst hz
  exact⟨_,by simp only[execOp,hv,Sem.run_bind,GU hF,Result.andThen_ok,Sem.run_pure],.mk_ref hA hb (hc.drop o)⟩
theorem Qf{b off f o o':Nat}(hF:Qu P t f=some o)(h:Ev E st x (.c (.pointer (some ⟨b,off,none⟩))))(ho:off+o=o'):
    QW P E st ⟨d,.fieldAddr t x f,ty,pos,af,gd⟩ (.c (.pointer (some ⟨b,o',none⟩))):=.pure fun A a w hs=>by
  subst ho
  exact⟨_,by simp only[execOp,h.eq hs,Sem.run_bind,GU hF,Result.andThen_ok,Sem.run_pure],.c _⟩
theorem W6{a:Addr}(h:Ev E st x (.c (.pointer (some a)))):QW P E st ⟨d,.nilCheck x,ty,pos,af,gd⟩ (.c (.pointer (some a))):=.pure fun A a w hs=>
  ⟨_,by simp[execOp,h.eq hs],.c _⟩
theorem Rd.of_sl{A:QS}{v:Value}{fr clip:Bool}{e:U7}{xs:List (List AV)}(h:Rd w A v (.sl fr clip e xs)):
    ∃a cap,v=.slice a xs.length cap∧(clip=true→cap=xs.length)∧xs.length≤cap∧((xs=[])∨∃b off cs t fz,a=some ⟨b,off,none⟩∧A fr b∧w.heap[b]? =some (.cells cs t fz)∧
      (∀x∈xs,x.length=e.sz)∧xs.length*e.bytes≤Qr∧Cells w A cs off xs.flatten):=by
  cases h with
  |emp _ _ _ a cap hc=>exact⟨a,cap,rfl,hc,by simp,.inl rfl⟩
  |sl _ _ _ _ b off cap cs t fz u hA hb hcap hclip hsz hreach hu hr=>
    exact⟨_,cap,rfl,hclip,hcap,.inr ⟨b,off,cs,t,fz,rfl,hA,hb,hsz,hreach,fun k y hk=>⟨u k,(hu k y hk).1,(hu k y hk).2,hr k y hk⟩⟩⟩
theorem KF{α:Type}{sz:Nat}:∀(xs:List (List α)),(∀x∈xs,x.length=sz)→∀(i:Nat) (x:List α),xs[i]? =some x→∀j (y:α),x[j]? =some y→xs.flatten[i*sz+j]? =some y
  |[],_,i,x,h,_,_,_=>by simp at h
  |a::xs,hs,0,x,h,j,y,hj=>by
    simp at h;subst h
    simp only[List.flatten_cons,Nat.zero_mul,Nat.zero_add]
    rw[List.getElem?_append_left (List.getElem?_eq_some_iff.1 hj).1];exact hj
  |a::xs,hs,i+1,x,h,j,y,hj=>by
    have ha:a.length=sz:=hs a (by simp)
    have:=KF xs (fun x hx=>hs x (by simp[hx])) i x (by simpa using h) j y hj
    simp only[List.flatten_cons]
    rw[List.getElem?_append_right (by rw[ha,Nat.succ_mul];omega),ha,show(i+1)*sz+j-sz=i*sz+j by rw[Nat.succ_mul];omega]
    exact this
theorem Qi{fr clip:Bool}{e:U7}{xs:List (List AV)}{ys:List AV}{et:TypeId}{k:IntKind}{i:Int}{m:Nat}(hU:P.underlying t=some (.slice et))(hT:Un P et=some (g,n,B))(hn:e.sz=n)
    (h:Ev E st x (.sl fr clip e xs)) (hi:Ev E st y (.c (.int k i))) (him:i=(m:Int)) (hx:xs[m]? =some ys):
    QW P E st ⟨d,.indexAddr t x y,ty,pos,af,gd⟩ (.ref fr ys):=.pure fun A a w hs=>by
  obtain⟨a',cap,hv,_,_,hc⟩:=(h A a w hs).of_sl
  rcases hc with rfl|⟨b,off,cs,t',fz,rfl,hA,hb,hsz,_,hc⟩
  · simp at hx
  · subst him
    have hlt:m<xs.length:=(List.getElem?_eq_some_iff.1 hx).1
    refine⟨.pointer (some ⟨b,off+m*n,none⟩),?_,.mk_ref hA hb ?_⟩
    · simp only[execOp,hv,hi.eq hs,Instr.indexAt,asIntOf,Sem.run_bind,Sem.run_pure,Result.andThen_ok,Qq _ hU]
      rw[if_pos (by omega)]
      simp[Us hT,Wv]
    · subst hn
      intro j y hj
      obtain⟨u,h1,h0,h2⟩:=hc _ _ (KF xs hsz m ys hx j y hj)
      exact⟨u,by rw[Nat.add_assoc];exact h1,h0,h2⟩
theorem Qw{fr clip:Bool}{e:U7}{xs:List (List AV)}{et:TypeId}(hU:P.underlying t=some (.slice et))(h:Ev E st x (.sl fr clip e xs)):
    QW P E st ⟨d,.call ⟨.builtin .len,#[x],#[t]⟩,ty,pos,af,gd⟩ (.c (.int .i64 (xs.length:Int))):=.pure fun A a w hs=>by
  obtain⟨a',cap,hv,_,_,_⟩:=(h A a w hs).of_sl
  exact⟨_,by simp[execOp,resolve,invoke,builtin,Builtin.len_,Qq _ hU,hv,goInt],.c _⟩
theorem DZ{s:ByteArray}(hU:P.underlying t=some .string)(h:Ev E st x (.c (.string s))):
    QW P E st ⟨d,.call ⟨.builtin .len,#[x],#[t]⟩,ty,pos,af,gd⟩ (.c (.int .i64 (s.size:Int))):=.pure fun A a w hs=>
  ⟨_,by simp[execOp,resolve,invoke,builtin,Builtin.len_,Qq _ hU,h.eq hs,goInt],.c _⟩
theorem SatA.arr{A:QS}{a:Act}(hs:SatA E A st a w){v:Value}{e:U7}{xs:List (List AV)}(i:Nat)(ho:st.own[i]? =some (.arr v e xs)):
    (∃a,v=.slice a 0 0∧xs=[])∨∃b cap us t,v=.slice (some ⟨b,0,none⟩) xs.length (cap+1)∧w.heap[b]? =some (.cells us t (0,0))∧xs.length≤cap+1∧RowOf us ((cap+1)*e.sz)∧
        (∀x∈xs,x.length=e.sz)∧Cells w A us 0 xs.flatten:=hs.hp.own _ (List.mem_of_getElem? ho)
theorem W7(i:Nat){v:Value}{e:U7}{xs:List (List AV)}{et:TypeId}(hU:P.underlying t=some (.slice et))(h:Ev E st x (.c v))(ho:st.own[i]? =some (.arr v e xs)):
    QW P E st ⟨d,.call ⟨.builtin .len,#[x],#[t]⟩,ty,pos,af,gd⟩ (.c (.int .i64 (xs.length:Int))):=.pure fun A a w hs=>by
  rcases hs.arr i ho with ⟨a0,hv,hx⟩|⟨b,cap,us,t',hv,_⟩
  · subst hx
    exact⟨.int .i64 0,by simp[execOp,resolve,invoke,builtin,Builtin.len_,Qq _ hU,h.eq hs,hv,goInt],.c _⟩
  · exact⟨_,by simp[execOp,resolve,invoke,builtin,Builtin.len_,Qq _ hU,h.eq hs,hv,goInt],.c _⟩
/-! operations on plain values: the value is told by a run -/
theorem QW.bin{op:BinOp}{yt:TypeId}{a b r:Value}(hx:Ev E st x (.c a))(hy:Ev E st y (.c b))(h1:∀w,(eqGuard op t x y a b).run P w=.ok () w)(h2:∀w,(binOp op t a b).run P w=.ok r w):
    QW P E st ⟨d,.binOp op t x y yt,ty,pos,af,gd⟩ (.c r):=.pure fun A a w hs=>
  ⟨_,by simp only[execOp,hx.eq hs,hy.eq hs,Sem.run_bind,h1,h2,Result.andThen_ok,Sem.run_pure],.c _⟩
theorem UG{op:BinOp}{k:IntKind}{a:Int}{b:Value}(w:World):(eqGuard op t x y (.int k a) b).run P w=.ok () w:=by
  cases op<;>simp[eqGuard]
theorem Yu{op:BinOp}{a:ByteArray}{b:Value}(w:World):(eqGuard op t x y (.string a) b).run P w=.ok () w:=by
  cases op<;>simp[eqGuard]
theorem Xv{op:BinOp}{k:FloatKind}{a:Nat}{b:Value}(w:World):(eqGuard op t x y (.float k a) b).run P w=.ok () w:=by
  cases op<;>simp[eqGuard]
section
variable {yt:TypeId} {k:IntKind} {a b:Int}
theorem QW.eql(hx:Ev E st x (.c (.int k a)))(hy:Ev E st y (.c (.int k b))):QW P E st ⟨d,.binOp .eql t x y yt,ty,pos,af,gd⟩ (.c (.bool (a==b))):=.bin hx hy UG (fun w=>by simp[binOp,Op.intCmp])
theorem QW.neq(hx:Ev E st x (.c (.int k a)))(hy:Ev E st y (.c (.int k b))):QW P E st ⟨d,.binOp .neq t x y yt,ty,pos,af,gd⟩ (.c (.bool (a !=b))):=.bin hx hy UG (fun w=>by simp[binOp,Op.intCmp])
theorem QW.lss(hx:Ev E st x (.c (.int k a)))(hy:Ev E st y (.c (.int k b))):QW P E st ⟨d,.binOp .lss t x y yt,ty,pos,af,gd⟩ (.c (.bool (decide (a<b)))):=.bin hx hy UG (fun w=>by simp[binOp,Op.intCmp])
theorem QW.leq(hx:Ev E st x (.c (.int k a)))(hy:Ev E st y (.c (.int k b))):QW P E st ⟨d,.binOp .leq t x y yt,ty,pos,af,gd⟩ (.c (.bool (decide (a≤b)))):=.bin hx hy UG (fun w=>by simp[binOp,Op.intCmp])
theorem QW.gtr(hx:Ev E st x (.c (.int k a)))(hy:Ev E st y (.c (.int k b))):QW P E st ⟨d,.binOp .gtr t x y yt,ty,pos,af,gd⟩ (.c (.bool (decide (b<a)))):=.bin hx hy UG (fun w=>by simp[binOp,Op.intCmp])
theorem QW.geq(hx:Ev E st x (.c (.int k a)))(hy:Ev E st y (.c (.int k b))):QW P E st ⟨d,.binOp .geq t x y yt,ty,pos,af,gd⟩ (.c (.bool (decide (b≤a)))):=.bin hx hy UG (fun w=>by simp[binOp,Op.intCmp])
theorem QW.add(hx:Ev E st x (.c (.int k a)))(hy:Ev E st y (.c (.int k b))){c:Int}(hc:k.wrap (a+b)=c):QW P E st ⟨d,.binOp .add t x y yt,ty,pos,af,gd⟩ (.c (.int k c)):=hc▸ .bin hx hy UG (fun w=>by simp[binOp,Op.intArith])
theorem QW.sub(hx:Ev E st x (.c (.int k a)))(hy:Ev E st y (.c (.int k b))){c:Int}(hc:k.wrap (a-b)=c):QW P E st ⟨d,.binOp .sub t x y yt,ty,pos,af,gd⟩ (.c (.int k c)):=hc▸ .bin hx hy UG (fun w=>by simp[binOp,Op.intArith])
theorem QW.quo(hx:Ev E st x (.c (.int k a)))(hy:Ev E st y (.c (.int k b))){c:Int}(hb:b≠0)(hc:k.wrap (a.tdiv b)=c):QW P E st ⟨d,.binOp .quo t x y yt,ty,pos,af,gd⟩ (.c (.int k c)):=hc▸ .bin hx hy UG (fun w=>by simp[binOp,Op.intDiv,hb])
theorem QW.rem(hx:Ev E st x (.c (.int k a)))(hy:Ev E st y (.c (.int k b))){c:Int}(hb:b≠0)(hc:a.tmod b=c):QW P E st ⟨d,.binOp .rem t x y yt,ty,pos,af,gd⟩ (.c (.int k c)):=hc▸ .bin hx hy UG (fun w=>by simp[binOp,Op.intDiv,hb])
def YS(op:BinOp)(k:IntKind)(a b:Int):Int:=
  match op with
  |.and=>k.wrap (BitVec.ofInt k.bits a&&& BitVec.ofInt k.bits b).toNat
  |.or=>k.wrap (BitVec.ofInt k.bits a|||BitVec.ofInt k.bits b).toNat
  |.xor=>k.wrap (BitVec.ofInt k.bits a^^^BitVec.ofInt k.bits b).toNat
  |_=>k.wrap (BitVec.ofInt k.bits a&&& ~~~ BitVec.ofInt k.bits b).toNat
theorem QW.or(hx:Ev E st x (.c (.int k a)))(hy:Ev E st y (.c (.int k b))){c:Int}(hc:YS .or k a b=c):QW P E st ⟨d,.binOp .or t x y yt,ty,pos,af,gd⟩ (.c (.int k c)):=hc▸ .bin hx hy UG (fun w=>by simp[binOp,Op.intBits,YS])
theorem QW.xor(hx:Ev E st x (.c (.int k a)))(hy:Ev E st y (.c (.int k b))){c:Int}(hc:YS .xor k a b=c):QW P E st ⟨d,.binOp .xor t x y yt,ty,pos,af,gd⟩ (.c (.int k c)):=hc▸ .bin hx hy UG (fun w=>by simp[binOp,Op.intBits,YS])
theorem QW.andNot(hx:Ev E st x (.c (.int k a)))(hy:Ev E st y (.c (.int k b))){c:Int}(hc:YS .andNot k a b=c):QW P E st ⟨d,.binOp .andNot t x y yt,ty,pos,af,gd⟩ (.c (.int k c)):=hc▸ .bin hx hy UG (fun w=>by simp[binOp,Op.intBits,YS])
end
section
variable {yt:TypeId} {k k':IntKind} {a b:Int}
theorem QW.shr(hx:Ev E st x (.c (.int k a)))(hy:Ev E st y (.c (.int k' b))){c:Int}(hb:0≤b)(hc:a.fdiv (2^(min b.toNat k.bits))=c):QW P E st ⟨d,.binOp .shr t x y yt,ty,pos,af,gd⟩ (.c (.int k c)):=hc▸ .bin hx hy UG (fun w=>by
  simp[binOp,Op.shift,show ¬b<0 by omega])
end
section
variable {yt:TypeId} {a b:ByteArray}
theorem QW.seql(hx:Ev E st x (.c (.string a)))(hy:Ev E st y (.c (.string b))):QW P E st ⟨d,.binOp .eql t x y yt,ty,pos,af,gd⟩ (.c (.bool (a.toList==b.toList))):=.bin hx hy Yu (fun w=>by simp[binOp,Op.stringOp])
theorem QW.sneq(hx:Ev E st x (.c (.string a)))(hy:Ev E st y (.c (.string b))):QW P E st ⟨d,.binOp .neq t x y yt,ty,pos,af,gd⟩ (.c (.bool (a.toList !=b.toList))):=.bin hx hy Yu (fun w=>by simp[binOp,Op.stringOp,bne])
theorem QW.slss(hx:Ev E st x (.c (.string a)))(hy:Ev E st y (.c (.string b))):QW P E st ⟨d,.binOp .lss t x y yt,ty,pos,af,gd⟩ (.c (.bool (Op.bytesLess a.toList b.toList))):=.bin hx hy Yu (fun w=>by simp[binOp,Op.stringOp])
theorem QW.sleq(hx:Ev E st x (.c (.string a)))(hy:Ev E st y (.c (.string b))):QW P E st ⟨d,.binOp .leq t x y yt,ty,pos,af,gd⟩ (.c (.bool (Op.bytesLess a.toList b.toList||a.toList==b.toList))):=.bin hx hy Yu (fun w=>by simp[binOp,Op.stringOp])
theorem QW.sgtr(hx:Ev E st x (.c (.string a)))(hy:Ev E st y (.c (.string b))):QW P E st ⟨d,.binOp .gtr t x y yt,ty,pos,af,gd⟩ (.c (.bool (!(Op.bytesLess a.toList b.toList||a.toList==b.toList)))):=.bin hx hy Yu (fun w=>by simp[binOp,Op.stringOp])
theorem QW.sgeq(hx:Ev E st x (.c (.string a)))(hy:Ev E st y (.c (.string b))):QW P E st ⟨d,.binOp .geq t x y yt,ty,pos,af,gd⟩ (.c (.bool (!Op.bytesLess a.toList b.toList))):=.bin hx hy Yu (fun w=>by simp[binOp,Op.stringOp])
end
theorem QW.not{b:Bool}(hx:Ev E st x (.c (.bool b))):QW P E st ⟨d,.unOp .not t x,ty,pos,af,gd⟩ (.c (.bool (!b))):=.pure fun A a w hs=>
  ⟨_,by simp only[execOp,hx.eq hs,Op.unary,Sem.run_bind,Sem.run_pure,Result.andThen_ok],.c _⟩
theorem QW.neg{k:IntKind}{a c:Int}(hx:Ev E st x (.c (.int k a)))(hc:k.wrap (0-a)=c):QW P E st ⟨d,.unOp .neg t x,ty,pos,af,gd⟩ (.c (.int k c)):=.pure fun A a w hs=>
  ⟨_,by simp only[execOp,hx.eq hs,Op.unary,Op.intArith,Sem.run_bind,Sem.run_pure,Result.andThen_ok,hc],.c _⟩
theorem QW.pick_and{a b:Bool}(hx:Ev E st x (.c (.bool a)))(hy:Ev E st y (.wh (a==true) (.c (.bool b)))):QW P E st ⟨d,.pick x y (.const (.bool false)),ty,pos,af,gd⟩ (.c (.bool (a&&b))):=.pure fun A a' w hs=>by
  refine⟨_,by simp only[execOp,hx.eq hs,asBool,Sem.run_bind,Sem.run_pure,Result.andThen_ok];rfl,?_⟩
  cases a with
  |true=>rw[if_pos rfl,((hy A a' w hs).of_wh rfl).eq];exact .c _
  |false=>simp[Act.eval];exact .c _
theorem QW.pick_or{a b:Bool}(hx:Ev E st x (.c (.bool a)))(hy:Ev E st y (.wh (a==false) (.c (.bool b)))):QW P E st ⟨d,.pick x (.const (.bool true)) y,ty,pos,af,gd⟩ (.c (.bool (a||b))):=.pure fun A a' w hs=>by
  refine⟨_,by simp only[execOp,hx.eq hs,asBool,Sem.run_bind,Sem.run_pure,Result.andThen_ok];rfl,?_⟩
  cases a with
  |false=>simp only[Bool.false_eq_true,if_false];rw[((hy A a' w hs).of_wh rfl).eq];exact .c _
  |true=>simp[Act.eval];exact .c _
theorem YZ{t1 a b:Bool}(ht:t1=true)(hx:Ev E st x (.c (.bool a)))(hy:Ev E st y (.wh (t1&&(a==true)) (.c (.bool b)))):QW P E st ⟨d,.pick x y (.const (.bool false)),ty,pos,af,gd⟩ (.c (.bool (a&&b))):=
  .pick_and hx (by subst ht;simpa using hy)
theorem TM{t1 a b:Bool}(ht:t1=true)(hx:Ev E st x (.c (.bool a)))(hy:Ev E st y (.wh (t1&&(a==false)) (.c (.bool b)))):QW P E st ⟨d,.pick x (.const (.bool true)) y,ty,pos,af,gd⟩ (.c (.bool (a||b))):=
  .pick_or hx (by subst ht;simpa using hy)
theorem Yb{k k':IntKind}{a c:Int}{s:TypeId}(hs:(P.underlying s).isSome=true)(hU:P.underlying t=some (.int k'))(hx:Ev E st x (.c (.int k a)))(hc:k'.wrap a=c):
    QW P E st ⟨d,.convert s t x,ty,pos,af,gd⟩ (.c (.int k' c)):=.pure fun A a w hs'=>by
  obtain⟨ds,hds⟩:=Option.isSome_iff_exists.1 hs
  exact⟨_,by simp only[execOp,hx.eq hs',Go.convert,Sem.run_bind,Qq _ hds,Qq _ hU,Result.andThen_ok,Conv.intToInt,Sem.run_pure,hc],.c _⟩
theorem Yx(hU:∃dd,P.underlying t=some dd∧∀ms,dd≠ .interface ms){v:Value}(hx:Ev E st x (.c v)):QW P E st ⟨d,.makeInterface t x,ty,pos,af,gd⟩ (.c (.iface t v)):=.pure fun A a w hs=>by
  obtain⟨dd,h1,h2⟩:=hU
  refine⟨_,?_,.c _⟩
  simp only[execOp,hx.eq hs,Instr.makeInterface,Sem.run_bind,Qq _ h1,Result.andThen_ok]
  cases dd<;>first|rfl|exact absurd rfl (h2 _)
theorem Rd.of_tup{A:QS}{v:Value}{ys:List AV}(h:Rd w A v (.tup ys)):∃vs:Array Value,v=.tuple vs∧vs.size=ys.length∧∀(k:Nat) (y:AV),ys[k]? =some y→∃u,vs[k]? =some u∧Rd w A u y:=by
  cases h with
  |tup vs _ u hn hu hr=>exact⟨vs,rfl,hn,fun k y hk=>⟨u k,hu k y hk,hr k y hk⟩⟩
theorem Rd.of_agg{A:QS}{v:Value}{ys:List AV}(h:Rd w A v (.agg ys)):∃vs:Array Value,v=.agg vs∧vs.size=ys.length∧Cells w A vs 0 ys:=by
  cases h with
  |agg vs _ u hn hu hr=>exact⟨vs,rfl,hn,fun k y hk=>⟨u k,by rw[Nat.zero_add];exact(hu k y hk).1,(hu k y hk).2,hr k y hk⟩⟩
theorem Rd.mk_agg{A:QS}{vs:Array Value}{ys:List AV}(hn:vs.size=ys.length)(h:Cells w A vs 0 ys):Rd w A (.agg vs) (.agg ys):=
  .agg vs ys (fun k=>vs.getD k undef) hn (fun k y hk=>by obtain⟨u,h1,h0,_⟩:=h k y hk;rw[Nat.zero_add]at h1;simp[Array.getD_eq_getD_getElem?,h1,h0]) (fun k y hk=>by obtain⟨u,h1,_,h2⟩:=h k y hk;rw[Nat.zero_add]at h1;simpa[Array.getD_eq_getD_getElem?,h1]using h2)
theorem Rd.mk_tup{A:QS}{vs:Array Value}{ys:List AV}(hn:vs.size=ys.length)(h:∀(k:Nat) (y:AV),ys[k]? =some y→∃u,vs[k]? =some u∧Rd w A u y):Rd w A (.tuple vs) (.tup ys):=
  .tup vs ys (fun k=>vs.getD k undef) hn (fun k y hk=>by obtain⟨u,h1,_⟩:=h k y hk;simp[Array.getD_eq_getD_getElem?,h1]) (fun k y hk=>by obtain⟨u,h1,h2⟩:=h k y hk;simpa[Array.getD_eq_getD_getElem?,h1]using h2)
theorem QW.extract{ys:List AV}{i:Nat}(hx:Ev E st x (.tup ys))(hi:ys[i]? =some v):QW P E st ⟨d,.extract x i,ty,pos,af,gd⟩ v:=.pure fun A a w hs=>by
  obtain⟨vs,hv,hn,hr⟩:=(hx A a w hs).of_tup
  obtain⟨u,h1,h2⟩:=hr i v hi
  exact⟨u,by simp[execOp,hv,Instr.extract,h1],h2⟩
end
end

end
section
/- The rules for operations that make or write memory, for calls, and a function's contract out of its body. -/
section
variable {P:Program} {E:Wy} {Q:Exit→St→Prop} {n:Nat} {env:List (Nat×AV)} {own:List Own} {F:List (Value×AV)} {D:List Deferred}
variable {A:QS} {a:Act} {w w':World}
theorem SatA.step{A':QS}{own':List Own}(h:SatA E A ⟨n,env,own,F,D⟩ a w)(hk:Keep (UM own) w w')(hA:∀fr b,A fr b→A' fr b)
    (hp:Hp E.w0.heap.size E.fp0 E.A0 own' w' A'):SatA E A' ⟨n,env,own',F,D⟩ a w':=
  have hm:∀{v x},Rd w A v x→Rd w' A' v x:=fun hr=>hr.move (fun fr b hb _=>hA fr b hb) fun fr b hb hlt=>hk.block b hlt fun hm=>(h.hp.fp b hm).2.2 fr hb
  ⟨h.size,h.defers,h.keep.trans hk fun x hx=>(h.hp.fp x hx).2.1,hp,fun i x hl=>hm (h.env i x hl),fun p hp=>hm (h.facts p hp)⟩
def QH(w:World)(o:Obj):World:={w with heap:=w.heap.push o}
theorem Keep.push(fp:List Nat)(w:World)(o:Obj):Keep fp w (QH w o):=
  ⟨rfl,rfl,rfl,by show _≤(w.heap.push o).size;rw[Array.size_push];omega,fun k hk _=>by show(w.heap.push o)[k]? =_;rw[Array.getElem?_push,if_neg (by omega)]⟩
theorem Ya(w:World)(o:Obj):(QH w o).heap[w.heap.size]? =some o:=by show(w.heap.push o)[w.heap.size]? =_;rw[Array.getElem?_push,if_pos rfl]
theorem WA(w:World)(o:Obj):(QH w o).heap.size=w.heap.size+1:=by show(w.heap.push o).size=_;rw[Array.size_push]
theorem Cells.keep{us:Array Value}{off:Nat}{ys:List AV}(h:Cells w A us off ys)(hw:∀fr b,A fr b→b<w.heap.size→w'.heap[b]? =w.heap[b]?):Cells w' A us off ys:=
  h.move (fun _ _ h _=>h) hw
theorem Ur{o:Own}{b:Nat}(ho:o∈own)(hb:b∈o.fp):b∈UM own:=List.mem_flatMap.2 ⟨o,ho,hb⟩
theorem Hp.push{n0:Nat}{fp0:List Nat}{A0:QS}(h:Hp n0 fp0 A0 own w A)(hn:n0≤w.heap.size){o:Own}{ob:Obj}(hfp:o.fp=[w.heap.size])(ho:o.ok (QH w ob) A):
    Hp n0 fp0 A0 (o::own) (QH w ob) A where
  mono:=h.mono
  sup:=h.sup
  sub:=h.sub
  lt:=fun fr b hb=>by have:=h.lt fr b hb;rw[WA];omega
  fp:=fun b hb=>by
    simp only[UM,List.flatMap_cons,hfp,List.mem_append,List.mem_singleton]at hb
    rcases hb with rfl|hb
    · exact⟨by rw[WA];omega,.inr hn,fun fr hA=>by have:=h.lt fr _ hA;omega⟩
    · obtain⟨h1,h2,h3⟩:=h.fp b hb
      exact⟨by rw[WA];omega,h2,h3⟩
  nodup:=by
    simp only[UM,List.flatMap_cons,hfp,List.singleton_append,List.nodup_cons]
    exact⟨fun hm=>by have:=(h.fp _ hm).1;omega,h.nodup⟩
  own:=fun x hx=>by
    rcases List.mem_cons.1 hx with rfl|hx
    · exact ho
    · have hk:=Keep.push (UM own) w ob
      exact(h.own x hx).move (fun _ _ h _=>h) (fun fr b hb hlt=>hk.block b hlt fun hm=>(h.fp b hm).2.2 fr hb)
        fun b hb=>(Keep.push [] w ob).block b (h.fp b (Ur hx hb)).1 (by simp)
theorem Hp.push_box{n0:Nat}{fp0:List Nat}{A0:QS}(h:Hp n0 fp0 A0 own w A)(hn:n0≤w.heap.size){us:Array Value}{t:TypeId}{ys:List AV}(hl:us.size=ys.length)(hc:Cells w A us 0 ys):
    Hp n0 fp0 A0 (.box w.heap.size ys::own) (QH w (.cells us t)) A:=
  h.push hn rfl ⟨us,t,Ya _ _,hl,hc.keep fun fr b _ hlt=>(Keep.push [] w _).block b hlt (by simp)⟩
def Q9(w:World):World:={w with drawn:=w.drawn+1}
theorem Keep.draw(fp:List Nat)(w:World):Keep fp w (Q9 w):=⟨rfl,rfl,rfl,Nat.le_refl _,fun _ _ _=>rfl⟩
theorem TR{o:Own}(h:o.ok w A):o.ok (Q9 w) A:=h.move (fun _ _ h _=>h) (fun _ _ _ _=>rfl) (fun _ _=>rfl)
theorem Hp.draw{n0:Nat}{fp0:List Nat}{A0:QS}(h:Hp n0 fp0 A0 own w A):Hp n0 fp0 A0 own (Q9 w) A:=
  ⟨h.mono,h.sup,h.sub,h.lt,h.fp,h.nodup,fun o ho=>TR (h.own o ho)⟩
theorem SatA.draw(h:SatA E A ⟨n,env,own,F,D⟩ a w):SatA E A ⟨n,env,own,F,D⟩ a (Q9 w):=h.step (.draw _ _) (fun _ _ h=>h) h.hp.draw
/-! ### boxes -/
def QO(P:Program)(t:TypeId):Option (List Value):=(P.info? t).bind fun i=>i.zero.map fun v=>v.cells.toList
variable {d:Nat} {ty t:TypeId} {pos:String} {af:Array Edge} {x y:Operand} {ops:Array Oper} {rest:List Oper} {g:Bool} {m B:Nat}
theorem Cells.const{vs:List Value}(h:vs.all (·.oneCell')=true):Cells w A vs.toArray 0 (vs.map AV.c):=fun k y hk=>by
  rw[List.getElem?_map]at hk
  cases hv:vs[k]? with
  |none=>rw[hv]at hk;cases hk
  |some v=>
    rw[hv]at hk;cases hk
    exact⟨v,by simp[hv],(List.all_eq_true.1 h) v (List.mem_of_getElem? hv),.c v⟩
theorem JL.alloc{vs:List Value}(hz:QO P t=some vs)(h1:vs.all (·.oneCell')=true)(hd:Nat.blt d n=true)
    (h:∀b,JL P E ops rest ⟨n,(d,.c (.pointer (some ⟨b,0,none⟩)))::env,.box b (vs.map AV.c)::own,F,D⟩ Q):
    JL P E ops (⟨some d,.alloc t,ty,pos,af,none⟩::rest) ⟨n,env,own,F,D⟩ Q:=fun a w ⟨A,hA⟩=>by
  refine wpListIn_plain rfl fun K hK=>?_
  refine Hd (by intro c h;cases h) ?_
  unfold Oper.wp
  obtain⟨i,zv,h2,h3,h4⟩:∃i zv,P.info? t=some i∧i.zero=some zv∧zv.cells.toList=vs:=by
    unfold QO at hz
    cases hi:P.info? t with
    |none=>rw[hi]at hz;cases hz
    |some i=>
      rw[hi]at hz
      cases hzz:i.zero with
      |none=>simp[hzz]at hz
      |some zv=>exact⟨i,zv,rfl,hzz,by simpa[hzz]using hz⟩
  have hr:(execOp a.eval ⟨some d,.alloc t,ty,pos,af,none⟩).run P w=.ok (.value (.pointer (some ⟨w.heap.size,0,none⟩))) (QH w (.cells vs.toArray t)):=by
    subst h4
    simp[execOp,Instr.alloc,zeroValue,Yg h2,h3,newVar,newRow,QH]
  rw[hr,Oper.upon_value]
  refine hK _ _ (h w.heap.size _ _ ⟨A,?_⟩)
  have hs:=hA.step (.push _ _ _) (fun _ _ h=>h) (hA.hp.push_box (us:=vs.toArray) (t:=t) hA.keep.size (by simp) (.const h1))
  exact hs.put (Ui hd) (.c _)
def AV.one:AV→Bool
  |.agg _|.tup _|.wh .. =>false
  |.c v=>v.oneCell'
  |_=>true
theorem Fz{v:Value}(h:v.oneCell'=true):v.cells= #[v]:=by cases v<;>first|rfl|simp[Value.oneCell']at h
theorem Rd.one{v:Value}{y:AV}(h:Rd w A v y)(hy:y.one=true):v.cells= #[v]∧v.oneCell'=true:=by
  have:v.oneCell'=true:=by
    cases h<;>first|rfl|exact hy|simp[AV.one]at hy
  exact⟨Fz this,this⟩
theorem Qs{ys:List AV}(hx:Ev E ⟨n,env,own,F,D⟩ x (.agg ys))(hd:Nat.blt d n=true)
    (h:∀b,JL P E ops rest ⟨n,(d,.c (.pointer (some ⟨b,0,none⟩)))::env,.box b ys::own,F,D⟩ Q):
    JL P E ops (⟨some d,.box t x,ty,pos,af,none⟩::rest) ⟨n,env,own,F,D⟩ Q:=fun a w ⟨A,hA⟩=>by
  refine wpListIn_plain rfl fun K hK=>?_
  refine Hd (by intro c h;cases h) ?_
  unfold Oper.wp
  obtain⟨vs,hv,hl,hc⟩:=(hx A a w hA).of_agg
  have hr:(execOp a.eval ⟨some d,.box t x,ty,pos,af,none⟩).run P w=.ok (.value (.pointer (some ⟨w.heap.size,0,none⟩))) (QH w (.cells vs t)):=by
    simp[execOp,Instr.box,newVar,newRow,QH,hv,Value.cells]
  rw[hr,Oper.upon_value]
  refine hK _ _ (h w.heap.size _ _ ⟨A,?_⟩)
  exact(hA.step (.push _ _ _) (fun _ _ h=>h) (hA.hp.push_box (us:=vs) (t:=t) hA.keep.size hl hc)).put (Ui hd) (.c _)
theorem Cells.single{u:Value}{y:AV}(h0:u.oneCell'=true)(h:Rd w A u y):Cells w A #[u] 0 [y]:=fun k z hk=>by
  cases k with
  |zero=>simp at hk;subst hk;exact⟨u,rfl,h0,h⟩
  |succ k=>simp at hk
theorem D4{z:AV}(hx:Ev E ⟨n,env,own,F,D⟩ x z)(hz:z.one=true)(hd:Nat.blt d n=true)
    (h:∀b,JL P E ops rest ⟨n,(d,.c (.pointer (some ⟨b,0,none⟩)))::env,.box b [z]::own,F,D⟩ Q):
    JL P E ops (⟨some d,.box t x,ty,pos,af,none⟩::rest) ⟨n,env,own,F,D⟩ Q:=fun a w ⟨A,hA⟩=>by
  refine wpListIn_plain rfl fun K hK=>?_
  refine Hd (by intro c h;cases h) ?_
  unfold Oper.wp
  have hrd:=hx A a w hA
  obtain⟨hv,h0⟩:=hrd.one hz
  have hr:(execOp a.eval ⟨some d,.box t x,ty,pos,af,none⟩).run P w=.ok (.value (.pointer (some ⟨w.heap.size,0,none⟩))) (QH w (.cells #[a.eval x] t)):=by
    simp[execOp,Instr.box,newVar,newRow,QH,hv]
  rw[hr,Oper.upon_value]
  refine hK _ _ (h w.heap.size _ _ ⟨A,?_⟩)
  exact(hA.step (.push _ _ _) (fun _ _ h=>h) (hA.hp.push_box (us:= #[a.eval x]) (t:=t) hA.keep.size rfl (.single h0 hrd))).put (Ui hd) (.c _)
/-! ### stores -/
def Q1{α:Type}(ys:List α)(off:Nat)(zs:List α):List α:=ys.take off++zs++ys.drop (off+zs.length)
theorem T3{b off:Nat}{us:Array Value}{v:Value}(hb:w.heap[b]? =some (.cells us t (0,0)))(hlt:off<us.size)(h0:v.oneCell'=true):
    ∃w',(store ⟨b,off,none⟩ v).run P w=.ok () w'∧Keep [b] w w'∧w'.heap.size=w.heap.size∧w'.heap[b]? =some (.cells (us.setIfInBounds off v) t (0,0)):=by
  refine⟨w.setCell ⟨b,off,none⟩ v,?_,⟨rfl,rfl,rfl,by simp[World.setCell],fun k _ hk=>?_⟩,by simp[World.setCell],?_⟩
  · rw[run_store P w _ v _ h0]
    have:w.cell? ⟨b,off,none⟩=some us[off]:=by rw[Xy hb];simp[hlt]
    have hf:w.frozen? ⟨b,off,none⟩=false:=by simp[World.frozen?,hb]
    simp[this,hf]
  · exact Below.heap_setCell _ _ _ _ (by simpa using hk)
  · have hlt':=X4 hb
    simp only[World.setCell,Array.getElem?_modify,if_true,hb,Option.map_some]
    simp
theorem WB{b off:Nat}:∀(vs:List Value) (i:Nat) (us:Array Value) (w:World),w.heap[b]? =some (.cells us t (0,0))→off+i+vs.length≤us.size→vs.all (·.oneCell')=true→
    ∃w' us',(storeCells ⟨b,off,none⟩ vs i).run P w=.ok () w'∧Keep [b] w w'∧w'.heap.size=w.heap.size∧w'.heap[b]? =some (.cells us' t (0,0))∧us'.size=us.size∧
      ∀k,us'[k]? =if off+i≤k∧k<off+i+vs.length then vs[k-(off+i)]? else us[k]?
  |[],i,us,w,hb,_,_=>⟨w,us,rfl,.refl _ _,rfl,hb,rfl,fun k=>by rw[if_neg (by simp)]⟩
  |v::vs,i,us,w,hb,hl,h0=>by
    simp only[List.length_cons]at hl
    simp only[List.all_cons,Bool.and_eq_true]at h0
    obtain⟨w1,hr1,hk1,hz1,hb1⟩:=T3 (P:=P) (v:=v) hb (show off+i<us.size by omega) h0.1
    obtain⟨w2,us2,hr2,hk2,hz2,hb2,hs2,hc2⟩:=WB (b:=b) (off:=off) vs (i+1) (us.setIfInBounds (off+i) v) w1 hb1 (by simp;omega) h0.2
    refine⟨w2,us2,?_,hk1.trans hk2 (fun x hx=>.inl hx),by omega,hb2,by simpa using hs2,fun k=>?_⟩
    · simp only[storeCells,Sem.run_bind,Wv,hr1,Result.andThen_ok,hr2]
    · rw[hc2 k]
      simp only[List.length_cons]
      by_cases h1:k=off+i
      · subst h1
        rw[if_neg (by omega),if_pos (by omega)]
        simp[show off+i<us.size by omega]
      · by_cases h2:off+(i+1)≤k∧k<off+(i+1)+vs.length
        · rw[if_pos h2,if_pos (by omega),show k-(off+i)=(k-(off+(i+1)))+1 by omega];simp
        · rw[if_neg h2,if_neg (by omega)]
          rw[Array.getElem?_setIfInBounds_ne (by omega)]
theorem Y7{α:Type}{ys zs:List α}{off:Nat}(h:off+zs.length≤ys.length)(k:Nat):
    (Q1 ys off zs)[k]? =if off≤k∧k<off+zs.length then zs[k-off]? else ys[k]? :=by
  unfold Q1
  by_cases h1:k<off
  · rw[if_neg (by omega),List.append_assoc,List.getElem?_append_left (by simp;omega),List.getElem?_take,if_pos h1]
  · by_cases h2:k<off+zs.length
    · rw[if_pos (by omega),List.append_assoc,List.getElem?_append_right (by simp;omega),List.getElem?_append_left (by simp;omega)]
      congr 1
      simp;omega
    · rw[if_neg (by omega),List.getElem?_append_right (by simp;omega),List.getElem?_drop]
      congr 1
      simp;omega
theorem QG{α:Type}{ys zs:List α}{off:Nat}(h:off+zs.length≤ys.length):(Q1 ys off zs).length=ys.length:=by
  simp[Q1];omega
theorem Cells.spliced{us us':Array Value}{ys zs:List AV}{vs:List Value}{off:Nat}(h:Cells w A us 0 ys)(hz:Cells w A vs.toArray 0 zs)(hl:vs.length=zs.length)(ho:off+zs.length≤ys.length)
    (hu:∀k,us'[k]? =if off≤k∧k<off+vs.length then vs[k-off]? else us[k]?):Cells w A us' 0 (Q1 ys off zs):=fun k y hk=>by
  rw[Y7 ho]at hk
  rw[Nat.zero_add,hu k,hl]
  split at hk
  · rename_i hc
    rw[if_pos hc]
    obtain⟨u,h1,h2⟩:=hz _ _ hk
    exact⟨u,by simpa using h1,h2⟩
  · rename_i hc
    rw[if_neg hc]
    obtain⟨u,h1,h2⟩:=h _ _ hk
    exact⟨u,by simpa using h1,h2⟩
theorem Nb:∀(own:List Own),(UM own).Nodup→∀{i j:Nat} {o o':Own} {b:Nat},own[i]? =some o→own[j]? =some o'→b∈o.fp→b∈o'.fp→i=j
  |[],_,i,_,_,_,_,h,_,_,_=>by simp at h
  |x::l,hn,i,j,o,o',b,hi,hj,hb,hb'=>by
    simp only[UM,List.flatMap_cons,List.nodup_append]at hn
    obtain⟨_,hn2,hn3⟩:=hn
    cases i with
    |zero=>
      cases j with
      |zero=>rfl
      |succ j=>
        simp at hi hj;subst hi
        exact absurd rfl (hn3 b hb b (List.mem_flatMap.2 ⟨o',List.mem_of_getElem? hj,hb'⟩))
    |succ i=>
      cases j with
      |zero=>
        simp at hi hj;subst hj
        exact absurd rfl (hn3 b hb' b (List.mem_flatMap.2 ⟨o,List.mem_of_getElem? hi,hb⟩))
      |succ j=>
        simp at hi hj
        rw[Nb l hn2 hi hj hb hb']
theorem Hp.upd{n0:Nat}{fp0:List Nat}{A0:QS}(h:Hp n0 fp0 A0 own w A){i:Nat}{o o':Own}(hi:own[i]? =some o)(hfp:o'.fp=o.fp)(hk:Keep o.fp w w')(hz:w'.heap.size=w.heap.size)
    (ho:o'.ok w' A):Hp n0 fp0 A0 (own.set i o') w' A:=by
  have hmem:=List.mem_of_getElem? hi
  have hlt:=(List.getElem?_eq_some_iff.1 hi).1
  have hf:UM (own.set i o')=UM own:=by
    simp only[UM,List.flatMap,List.map_set,hfp]
    congr 1
    apply List.ext_getElem?
    intro k
    rw[List.getElem?_set]
    split
    · rename_i hik
      subst hik
      simp only[List.length_map,hlt,if_true,List.getElem?_map,hi,Option.map_some]
    · rfl
  refine⟨h.mono,h.sup,h.sub,fun fr b hb=>by rw[hz];exact h.lt fr b hb,fun b hb=>by rw[hf]at hb;rw[hz];exact h.fp b hb,by rw[hf];exact h.nodup,fun x hx=>?_⟩
  obtain⟨j,hj⟩:=List.getElem?_of_mem hx
  rw[List.getElem?_set]at hj
  split at hj
  · rename_i hij
    subst hij
    cases hj;exact ho
  · rename_i hij
    have hxm:=List.mem_of_getElem? hj
    refine(h.own x hxm).move (fun _ _ h _=>h) (fun fr b hb hl=>hk.block b hl fun hm=>(h.fp b (Ur hmem hm)).2.2 fr hb) fun b hb=>hk.block b (h.fp b (Ur hxm hb)).1 fun hm=>?_
    exact hij (Nb own h.nodup hi hj hm hb)
theorem Keep.mono{fp fp':List Nat}(h:Keep fp w w')(hf:∀x∈fp,x∈fp'):Keep fp' w w':=⟨h.os,h.tape,h.output,h.size,fun k hk hn=>h.block k hk fun hm=>hn (hf k hm)⟩
theorem XY{b off:Nat}{us:Array Value}{v:Value}{vs:List Value}(hT:Un P t=some (g,m,B))(hv:v.cells.toList=vs)(hm:vs.length=m)
    {ty':TypeId} (hb:w.heap[b]? =some (.cells us ty' (0,0))) (hl:off+vs.length≤us.size) (h0:vs.all (·.oneCell')=true):
    ∃w' us',(storeVar t ⟨b,off,none⟩ v).run P w=.ok () w'∧Keep [b] w w'∧w'.heap.size=w.heap.size∧w'.heap[b]? =some (.cells us' ty' (0,0))∧us'.size=us.size∧
      ∀k,us'[k]? =if off≤k∧k<off+vs.length then vs[k-off]? else us[k]? :=by
  obtain⟨w',us',h1,h2,h3,h4,h5,h6⟩:=WB (P:=P) (b:=b) (off:=off) vs 0 us w hb (by omega) h0
  refine⟨w',us',?_,h2,h3,h4,h5,by simpa using h6⟩
  have hsz:v.cells.size=m:=by rw[← hm,← hv];simp
  simp only[storeVar,Sem.run_bind,Us hT,Result.andThen_ok,hsz,ne_eq,not_true_eq_false,if_false,hv]
  exact h1
def AV.cellsOf:AV→List AV
  |.agg ys=>ys
  |z=>[z]
def AV.plain:AV→Bool
  |.agg _=>true
  |z=>z.one
theorem Rd.cellsOf{v:Value}{z:AV}(h:Rd w A v z)(hz:z.plain=true):v.cells.toList.length=z.cellsOf.length∧v.cells.toList.all (·.oneCell')=true∧Cells w A v.cells.toList.toArray 0 z.cellsOf:=by
  by_cases hag:∃ys,z=.agg ys
  · obtain⟨ys,rfl⟩:=hag
    obtain⟨vs,rfl,hl,hc⟩:=h.of_agg
    refine⟨by simpa[Value.cells,AV.cellsOf]using hl,List.all_eq_true.2 fun u hu=>?_,by simpa[Value.cells,AV.cellsOf]using hc⟩
    simp only[Value.cells]at hu
    obtain⟨k,hk⟩:=List.getElem?_of_mem hu
    have hk':vs[k]? =some u:=by simpa using hk
    have hklt:k<ys.length:=by rw[← hl];exact(Array.getElem?_eq_some_iff.1 hk').1
    obtain⟨u',h1,h0,_⟩:=hc k _ (List.getElem?_eq_getElem hklt)
    rw[Nat.zero_add,hk']at h1
    cases h1;exact h0
  · have hone:z.one=true:=by cases z<;>simp_all [AV.plain]
    have hcz:z.cellsOf=[z]:=by cases z<;>simp_all [AV.cellsOf]
    obtain⟨hv,h0⟩:=h.one hone
    rw[hv,hcz]
    exact⟨rfl,by simp[h0],.single h0 h⟩
theorem JL.store_box(i:Nat){b off:Nat}{ys ys':List AV}{z:AV}(hT:Un P t=some (g,m,B))(hx:Ev E ⟨n,env,own,F,D⟩ x (.c (.pointer (some ⟨b,off,none⟩))))
    (ho:own[i]? =some (.box b ys)) (hy:Ev E ⟨n,env,own,F,D⟩ y z) (hz:z.plain=true) (hm:z.cellsOf.length=m) (hl:Nat.ble (off+m) ys.length=true) (hs:Q1 ys off z.cellsOf=ys')
    {own':List Own} (hown:own.set i (.box b ys')=own')
    (h:JL P E ops rest ⟨n,env,own',F,D⟩ Q):
    JL P E ops (⟨none,.store t x y,ty,pos,af,none⟩::rest) ⟨n,env,own,F,D⟩ Q:=fun a w ⟨A,hA⟩=>by
  refine wpListIn_plain rfl fun K hK=>?_
  refine Hd (by intro c h;cases h) ?_
  unfold Oper.wp
  subst hs hown
  obtain⟨us,t',hb,hsz,hc⟩:=hA.box i ho
  obtain⟨h1,h2,h3⟩:=(hy A a w hA).cellsOf hz
  have hle:off+z.cellsOf.length≤ys.length:=by rw[hm];exact Nat.le_of_ble_eq_true hl
  obtain⟨w',us',hr,hk,hz',hb',hsz',hu'⟩:=XY (P:=P) (off:=off) hT rfl (h1.trans hm) hb (by omega) h2
  have hrun:(execOp a.eval ⟨none,.store t x y,ty,pos,af,none⟩).run P w=.ok .skip w':=by
    simp only[execOp,Instr.storeAt,hx.eq hA,Instr.sureAddr,Sem.run_bind,Sem.run_pure,Result.andThen_ok,hr]
  rw[hrun,Oper.upon_skip]
  refine hK _ _ (h _ _ ⟨A,?_⟩)
  have hfp:∀fr c,A fr c→c<w.heap.size→w'.heap[c]? =w.heap[c]? :=fun fr c hc hlt=>hk.block c hlt fun hm'=>by
    simp only[List.mem_singleton]at hm'
    subst hm'
    exact(hA.hp.fp c (Ur (List.mem_of_getElem? ho) (by simp[Own.fp]))).2.2 fr hc
  refine hA.step (hk.mono fun c hc=>?_) (fun _ _ h=>h) (hA.hp.upd (o':=.box b _) ho rfl hk hz' ⟨us',t',hb',?_,?_⟩)
  · simp only[List.mem_singleton]at hc;subst hc;exact Ur (List.mem_of_getElem? ho) (by simp[Own.fp])
  · rw[hsz',hsz,QG hle]
  · exact(hc.spliced h3 h1 hle hu').keep hfp
end

end
section
/- Calls; weakenings; an own array that is closinged; a function's contract out of its body. -/
inductive Le(F:List (Value×AV)):AV→AV→Prop
  |refl (x:AV):Le F x x
  |fact {v:Value} {x y:AV} (h:(v,x)∈F) (hl:Le F x y):Le F (.c v) y
  |nil (fr clip:Bool) (e:U7):Le F (.c (.slice none 0 0)) (.sl fr clip e [])
  |sl {fr clip fr' clip':Bool} {e:U7} {xs ys:List (List AV)} (hf:fr'=true→fr=true) (hc:clip'=true→clip=true) (hl:xs.length=ys.length) (hs:∀y∈ys,y.length=e.sz)
      (h:∀(k:Nat) (x y:AV),xs.flatten[k]? =some x→ys.flatten[k]? =some y→Le F x y) (hz:xs.flatten.length=ys.flatten.length):Le F (.sl fr clip e xs) (.sl fr' clip' e ys)
  |agg {xs ys:List AV} (hl:xs.length=ys.length) (h:∀(k:Nat) (x y:AV),xs[k]? =some x→ys[k]? =some y→Le F x y):Le F (.agg xs) (.agg ys)
  |tup {xs ys:List AV} (hl:xs.length=ys.length) (h:∀(k:Nat) (x y:AV),xs[k]? =some x→ys[k]? =some y→Le F x y):Le F (.tup xs) (.tup ys)
  |ref {fr fr':Bool} {xs ys:List AV} (hf:fr'=true→fr=true) (hl:xs.length=ys.length) (h:∀(k:Nat) (x y:AV),xs[k]? =some x→ys[k]? =some y→Le F x y):Le F (.ref fr xs) (.ref fr' ys)
theorem UQ{α β:Type}{xs:List α}{ys:List β}(hl:xs.length=ys.length){k:Nat}{y:β}(h:ys[k]? =some y):∃x,xs[k]? =some x:=
  ⟨_,List.getElem?_eq_getElem (by rw[hl];exact(List.getElem?_eq_some_iff.1 h).1)⟩
theorem Rd.le{w:World}{A:QS}{F:List (Value×AV)}(hm:∀b,A true b→A false b)(hF:∀p∈F,Rd w A p.1 p.2){x y:AV}(h:Le F x y):∀{v:Value},Rd w A v x→Rd w A v y:=by
  have ht:∀{fr fr':Bool} {b:Nat},(fr'=true→fr=true)→A fr b→A fr' b:=by
    intro fr fr' b hf hA
    cases fr with
    |true=>cases fr' with
      |true=>exact hA
      |false=>exact hm b hA
    |false=>cases fr' with
      |true=>exact absurd (hf rfl) (by simp)
      |false=>exact hA
  induction h with
  |refl x=>exact id
  |fact hmem _ ih=>intro v hv;have:=hv.eq;subst this;exact ih (hF _ hmem)
  |nil fr clip e=>intro v hv;have:=hv.eq;subst this;exact .emp _ _ _ _ _ (fun _=>rfl)
  |sl hf hc hl hs _ hz ih=>
    intro v hv
    rename_i e xs ys _
    cases hv with
    |emp _ _ _ a cap hcc=>
      have hy:ys=[]:=by cases ys with|nil=>rfl|cons _ _=>simp at hl
      subst hy
      exact .emp _ _ _ _ _ (fun h=>hcc (hc h))
    |sl _ _ _ _ b off cap cs t fz u hA hb hcap hclip hsz hreach hu hr=>
      rw[hl]
      refine .sl _ _ _ _ b off cap cs t fz u (ht hf hA) hb (hl▸hcap) (fun h=>hl▸hclip (hc h)) hs (hl▸hreach) (fun k y hk=>?_) (fun k y hk=>?_)
      · obtain⟨x,hx⟩:=UQ hz hk;exact hu k x hx
      · obtain⟨x,hx⟩:=UQ hz hk;exact ih k x y hx hk (hr k x hx)
  |agg hl _ ih=>
    intro v hv
    cases hv with
    |agg vs _ u hn hu hr=>
      refine .agg _ _ u (hn.trans hl) (fun k y hk=>?_) (fun k y hk=>?_)
      · obtain⟨x,hx⟩:=UQ hl hk;exact hu k x hx
      · obtain⟨x,hx⟩:=UQ hl hk;exact ih k x y hx hk (hr k x hx)
  |tup hl _ ih=>
    intro v hv
    cases hv with
    |tup vs _ u hn hu hr=>
      refine .tup _ _ u (hn.trans hl) (fun k y hk=>?_) (fun k y hk=>?_)
      · obtain⟨x,hx⟩:=UQ hl hk;exact hu k x hx
      · obtain⟨x,hx⟩:=UQ hl hk;exact ih k x y hx hk (hr k x hx)
  |ref hf hl _ ih=>
    intro v hv
    cases hv with
    |ref _ _ b off cs t fz u hA hb hu hr=>
      refine .ref _ _ b off cs t fz u (ht hf hA) hb (fun k y hk=>?_) (fun k y hk=>?_)
      · obtain⟨x,hx⟩:=UQ hl hk;exact hu k x hx
      · obtain⟨x,hx⟩:=UQ hl hk;exact ih k x y hx hk (hr k x hx)
theorem Le.cons{F:List (Value×AV)}{x y:AV}{xs ys:List AV}(h:Le F x y)(hl:xs.length=ys.length)(hs:∀(k:Nat) (x y:AV),xs[k]? =some x→ys[k]? =some y→Le F x y):
    (x::xs).length=(y::ys).length∧∀(k:Nat) (a b:AV),(x::xs)[k]? =some a→(y::ys)[k]? =some b→Le F a b:=
  ⟨by simp[hl],fun k a b ha hb=>by cases k with
    |zero=>simp at ha hb;subst ha hb;exact h
    |succ k=>exact hs k a b (by simpa using ha) (by simpa using hb)⟩
inductive LeL(F:List (Value×AV)):List AV→List AV→Prop
  |nil:LeL F [] []
  |cons {x y:AV} {xs ys:List AV} (h:Le F x y) (hs:LeL F xs ys):LeL F (x::xs) (y::ys)
theorem LeL.get{F:List (Value×AV)}{xs ys:List AV}(h:LeL F xs ys):xs.length=ys.length∧∀(k:Nat) (x y:AV),xs[k]? =some x→ys[k]? =some y→Le F x y:=by
  induction h with
  |nil=>exact⟨rfl,fun k x y h=>by simp at h⟩
  |cons h _ ih=>exact Le.cons h ih.1 ih.2
theorem Le.aggL{F:List (Value×AV)}{xs ys:List AV}(h:LeL F xs ys):Le F (.agg xs) (.agg ys):=.agg h.get.1 h.get.2
theorem LeL.refl{F:List (Value×AV)}:∀xs:List AV,LeL F xs xs
  |[]=>.nil
  |x::xs=>.cons (.refl x) (.refl xs)
def QJ(P:Program)(f:FuncId):Bool:=
  match P.funcs[f]? with
  |some fn=>!(fn.name== "runtime.NumGoroutine")&&fn.body.isSome
  |none=>false
section
variable {P:Program} {E:Wy} {Q:Exit→St→Prop} {n:Nat} {env:List (Nat×AV)} {own:List Own} {F:List (Value×AV)} {D:List Deferred} {st:St}
variable {A:QS} {a:Act} {w w':World} {d:Nat} {ty t:TypeId} {pos:String} {af:Array Edge} {gd:Option (Nat×Bool)} {x y:Operand} {ops:Array Oper} {rest:List Oper}
theorem Ev.le{y z:AV}(h:Ev E st x y)(hl:Le st.facts y z):Ev E st x z:=fun A a w hs=>(h A a w hs).le hs.hp.mono hs.facts hl
theorem LY{f:FuncId}(h:QJ P f=true)(args:Array Value)(w:World):(callFunc f args).run P w=.ok (.enter f args) w:=by
  unfold QJ at h
  split at h
  · rename_i fn hfn
    simp only[Bool.and_eq_true,Bool.not_eq_true']at h
    obtain⟨h1,h2⟩:=h
    have h3:fn.body.isNone=false:=by cases hb:fn.body<;>simp_all
    simp only[callFunc,Sem.run_bind,run_program,Result.andThen_ok,hfn,h1,h3,Bool.false_eq_true,if_false,Sem.run_pure]
  · cases h
inductive EvL(E:Wy)(st:St):List Operand→List AV→Prop
  |nil:EvL E st [] []
  |cons {x:Operand} {y:AV} {l:List Operand} {ys:List AV} (h:Ev E st x y) (hs:EvL E st l ys):EvL E st (x::l) (y::ys)
theorem EvL.length{l:List Operand}{ys:List AV}(h:EvL E st l ys):l.length=ys.length:=by
  induction h with
  |nil=>rfl
  |cons _ _ ih=>simp[ih]
theorem EvL.get{l:List Operand}{ys:List AV}(h:EvL E st l ys)(hs:SatA E A st a w):∀(i:Nat) (z:AV),ys[i]? =some z→Rd w A ((l.map a.eval)[i]?.getD undef) z:=by
  induction h with
  |nil=>intro i z h;simp at h
  |cons h _ ih=>
    intro i z hz
    cases i with
    |zero=>simp at hz;subst hz;simpa using h A a w hs
    |succ i=>simpa using ih i z (by simpa using hz)
theorem EvL.rdL{l:List Operand}{ys:List AV}(h:EvL E st l ys)(hs:SatA E A st a w):RdL w A (l.toArray.map a.eval) ys:=
  ⟨by simp[h.length],fun i z hz=>by have:=h.get hs i z hz;simpa[Array.getD_eq_getD_getElem?]using this⟩
theorem RdL.around{vs:Array Value}{ys:List AV}(h:RdL w A vs ys)(fi ca:List Value):RdL w A (fi.toArray++vs++ca.toArray) (fi.map AV.c++ys++ca.map AV.c):=by
  obtain⟨h1,h2⟩:=h
  refine⟨by simp[h1],fun i z hz=>?_⟩
  simp only[Array.getD_eq_getD_getElem?]at h2⊢
  by_cases ha:i<fi.length
  · rw[List.append_assoc,List.getElem?_append_left (by simpa using ha),List.getElem?_map]at hz
    obtain⟨u,hu⟩:∃u,fi[i]? =some u:=⟨_,List.getElem?_eq_getElem ha⟩
    rw[hu]at hz;cases hz
    rw[Array.append_assoc,Array.getElem?_append_left (by simpa using ha)]
    simp[hu];exact .c _
  · by_cases hb:i<fi.length+ys.length
    · rw[List.append_assoc,List.getElem?_append_right (by simp;omega),List.getElem?_append_left (by simp;omega)]at hz
      have:=h2 _ z hz
      rw[Array.append_assoc,Array.getElem?_append_right (by simp;omega),Array.getElem?_append_left (by simp;omega)]
      simpa using this
    · rw[List.getElem?_append_right (by simp;omega),List.getElem?_map]at hz
      cases hu:ca[i-(fi.map AV.c++ys).length]? with
      |none=>rw[hu]at hz;cases hz
      |some u=>
        rw[hu]at hz;cases hz
        rw[Array.getElem?_append_right (by simp;omega)]
        simp only[Array.size_append,List.size_toArray,List.getElem?_toArray]
        simp only[List.length_append,List.length_map]at hu
        rw[h1,hu]
        exact .c _
/-! ### heaps of permuted and of fewer own entries -/
theorem GS{o o':List Own}(h:o.Perm o'):(UM o).Perm (UM o'):=List.Perm.flatMap_right _ h
theorem Q2(o o':List Own):UM (o++o')=UM o++UM o':=by simp[UM]
theorem Hp.perm{n0:Nat}{fp0:List Nat}{A0:QS}{own':List Own}(h:Hp n0 fp0 A0 own w A)(hp:own.Perm own'):Hp n0 fp0 A0 own' w A:=
  ⟨h.mono,h.sup,h.sub,h.lt,fun b hb=>h.fp b ((GS hp).mem_iff.2 hb),(GS hp).nodup_iff.1 h.nodup,fun o ho=>h.own o (hp.mem_iff.2 ho)⟩
theorem Hp.left{n0:Nat}{fp0:List Nat}{A0:QS}{o1 o2:List Own}(h:Hp n0 fp0 A0 (o1++o2) w A):Hp n0 fp0 A0 o1 w A:=
  ⟨h.mono,h.sup,h.sub,h.lt,fun b hb=>h.fp b (by rw[Q2];exact List.mem_append_left _ hb),by have:=h.nodup;rw[Q2,List.nodup_append]at this;exact this.1,fun o ho=>h.own o (List.mem_append_left _ ho)⟩
theorem SatA.perm{own':List Own}(h:SatA E A ⟨n,env,own,F,D⟩ a w)(hp:own.Perm own'):SatA E A ⟨n,env,own',F,D⟩ a w:=
  ⟨h.size,h.defers,h.keep,h.hp.perm hp,h.env,h.facts⟩
theorem SatA.callee{op ro:List Own}(h:SatA E A ⟨n,env,op++ro,F,D⟩ a w):Hp w.heap.size (UM op) A op w A:=
  ⟨h.hp.mono,fun _ _ h=>h,fun _ _ h=>.inl h,h.hp.lt,fun b hb=>⟨(h.hp.fp b (by simp only[Q2];exact List.mem_append_left _ hb)).1,.inl hb,(h.hp.fp b (by simp only[Q2];exact List.mem_append_left _ hb)).2.2⟩,
    h.hp.left.nodup,h.hp.left.own⟩
theorem SatA.called{op ro own':List Own}{A':QS}(h:SatA E A ⟨n,env,op++ro,F,D⟩ a w)(hk:Keep (UM op) w w')(hp:Hp w.heap.size (UM op) A own' w' A'):
    SatA E A' ⟨n,env,own'++ro,F,D⟩ a w':=by
  have hsz:=hk.size
  have hn0:=h.keep.size
  have hapart:∀b∈UM ro,b∉UM op:=fun b hb hb'=>by
    have:=h.hp.nodup
    simp only[Q2,List.nodup_append]at this
    exact this.2.2 b hb' b hb rfl
  have hro:∀b∈UM ro,b<w.heap.size∧(b∈E.fp0∨E.w0.heap.size≤b)∧∀fr,¬A fr b:=fun b hb=>h.hp.fp b (by simp only[Q2];exact List.mem_append_right _ hb)
  refine h.step (hk.mono fun b hb=>by simp only[Q2];exact List.mem_append_left _ hb) hp.sup ⟨hp.mono,fun fr b hb=>hp.sup fr b (h.hp.sup fr b hb),fun fr b hb=>?_,hp.lt,fun b hb=>?_,?_,fun o ho=>?_⟩
  · rcases hp.sub fr b hb with h1|h1
    · exact h.hp.sub fr b h1
    · exact .inr (Nat.le_trans hn0 h1)
  · rw[Q2]at hb
    rcases List.mem_append.1 hb with hb|hb
    · obtain⟨h1,h2,h3⟩:=hp.fp b hb
      refine⟨h1,?_,h3⟩
      rcases h2 with h2|h2
      · exact(h.hp.fp b (by simp only[Q2];exact List.mem_append_left _ h2)).2.1
      · exact .inr (Nat.le_trans hn0 h2)
    · obtain⟨h1,h2,h3⟩:=hro b hb
      exact⟨Nat.lt_of_lt_of_le h1 hsz,h2,fun fr hA=>(hp.sub fr b hA).elim (h3 fr) (fun hle=>by omega)⟩
  · rw[Q2,List.nodup_append]
    refine⟨hp.nodup,?_,fun b hb c hc hbc=>?_⟩
    · have:=h.hp.nodup
      simp only[Q2,List.nodup_append]at this
      exact this.2.1
    · subst hbc
      rcases(hp.fp b hb).2.1 with h2|h2
      · exact hapart b hc h2
      · have:=(hro b hc).1;omega
  · rcases List.mem_append.1 ho with ho|ho
    · exact hp.own o ho
    · exact(h.hp.own o (List.mem_append_right _ ho)).move (fun fr b hb _=>hp.sup fr b hb) (fun fr b hb hlt=>hk.block b hlt fun hm=>(h.hp.fp b (by simp only[Q2];exact List.mem_append_left _ hm)).2.2 fr hb)
        fun b hb=>hk.block b (hro b (Ur ho hb)).1 (hapart b (Ur ho hb))
theorem SatA.called_frame{op ro own':List Own}{A':QS}(h:SatA E A ⟨n,env,op++ro,F,D⟩ a w)(hk:Keep (UM op) w w')(hp:Hp w.heap.size (UM op) A own' w' A'):Frm w A w' A':=
  fun u y hr=>hr.move (fun fr b hb _=>hp.sup fr b hb) fun fr b hb hlt=>hk.block b hlt fun hm=>(h.hp.fp b (by simp only[Q2];exact List.mem_append_left _ hm)).2.2 fr hb
/-! ### calls -/
theorem Ku{f:FuncId}(hf:QJ P f=true){fo:Operand}{fi ca:List Value}(hfo:a.eval fo=.func (.func f) fi.toArray ca.toArray)(l:List Operand)(tys:Array TypeId)(dd:Option Tmp)(w:World):
    (execOp a.eval ⟨dd,.call ⟨.value fo,l.toArray,tys⟩,ty,pos,af,gd⟩).run P w=.ok (.enter f (fi.toArray++l.toArray.map a.eval++ca.toArray)) w:=by
  simp only[execOp,resolve,hfo,Deferred.ofValue,Sem.run_bind,Sem.run_pure,Result.andThen_ok,invoke,LY hf]
theorem JL.callV{f:FuncId}{op ro:List Own}{fo:Operand}{fi ca:List Value}{l:List Operand}{tys:Array TypeId}{xs zs:List AV}{R:Wl→List Own→Prop}(hf:QJ P f=true)(hd:Nat.blt d n=true)
    (hfo:Ev E ⟨n,env,own,F,D⟩ fo (.c (.func (.func f) fi.toArray ca.toArray))) (hargs:EvL E ⟨n,env,own,F,D⟩ l xs) (hzs:fi.map AV.c++xs++ca.map AV.c=zs) (hperm:own.Perm (op++ro)) (hAC:AC P f op zs R)
    (hret:∀x own',R (.ret x) own'→JL P E ops rest ⟨n,(d,x)::env,own'++ro,F,D⟩ Q)
    (hpan:∀v own',R (.pan v) own'→Q (.panic [{v,recovered:=false}]) ⟨n,env,own'++ro,F,D⟩):
    JL P E ops (⟨some d,.call ⟨.value fo,l.toArray,tys⟩,ty,pos,af,none⟩::rest) ⟨n,env,own,F,D⟩ Q:=fun a w ⟨A,hA⟩=>by
  refine wpListIn_plain rfl fun K hK=>?_
  refine Hd (by intro c h;cases h) ?_
  unfold Oper.wp
  rw[Ku hf (hfo.eq hA),Oper.upon_enter]
  have hA':=hA.perm hperm
  subst hzs
  refine(hAC w A _ hA'.callee ((hargs.rdL hA).around fi ca)).mono ?_
  rintro e w' ⟨r,own',A',hR,hk,hp,hr⟩
  have hsat:=hA'.called hk hp
  cases r with
  |ret x=>
    obtain⟨v,rfl,hv⟩:=hr
    exact hK _ _ (hret x own' hR _ _ ⟨A',hsat.put (Ui hd) hv⟩)
  |pan v=>
    obtain rfl:=hr
    exact⟨_,hpan v own' hR,A',hsat⟩
theorem JL.call{f:FuncId}{op ro:List Own}{l:List Operand}{tys:Array TypeId}{xs:List AV}{R:Wl→List Own→Prop}(hf:QJ P f=true)(hd:Nat.blt d n=true)
    (hargs:EvL E ⟨n,env,own,F,D⟩ l xs) (hperm:own.Perm (op++ro)) (hAC:AC P f op xs R)
    (hret:∀x own',R (.ret x) own'→JL P E ops rest ⟨n,(d,x)::env,own'++ro,F,D⟩ Q)
    (hpan:∀v own',R (.pan v) own'→Q (.panic [{v,recovered:=false}]) ⟨n,env,own'++ro,F,D⟩):
    JL P E ops (⟨some d,.call ⟨.value (.func f),l.toArray,tys⟩,ty,pos,af,none⟩::rest) ⟨n,env,own,F,D⟩ Q:=
  JL.callV (fi:=[]) (ca:=[]) hf hd .func hargs (by simp) hperm hAC hret hpan
theorem QW.callV{dd:Option Tmp}{f:FuncId}{fo:Operand}{fi ca:List Value}{l:List Operand}{tys:Array TypeId}{xs zs:List AV}{z:AV}(hf:QJ P f=true)
    (hfo:Ev E st fo (.c (.func (.func f) fi.toArray ca.toArray))) (hargs:EvL E st l xs) (hzs:fi.map AV.c++xs++ca.map AV.c=zs) (h:Fn P f zs z):
    QW P E st ⟨dd,.call ⟨.value fo,l.toArray,tys⟩,ty,pos,af,gd⟩ z:=fun A a w hA K Qx hK=>by
  refine Hd (by intro c h;cases h) ?_
  unfold Oper.wp
  rw[Ku hf (hfo.eq hA),Oper.upon_enter]
  subst hzs
  have hA':SatA E A ⟨st.n,st.env,[]++st.own,st.facts,st.dfs⟩ a w:=hA
  refine(h w A _ hA'.callee ((hargs.rdL hA).around fi ca)).mono ?_
  rintro e w' ⟨r,own',A',⟨rfl,rfl⟩,hk,hp,v,rfl,hv⟩
  exact hK v w' A' (hA'.called_frame hk hp) (hA'.called hk hp) hv
theorem QW.call{dd:Option Tmp}{f:FuncId}{l:List Operand}{tys:Array TypeId}{xs:List AV}{z:AV}(hf:QJ P f=true)(hargs:EvL E st l xs)(h:Fn P f xs z):
    QW P E st ⟨dd,.call ⟨.value (.func f),l.toArray,tys⟩,ty,pos,af,gd⟩ z:=
  QW.callV (fi:=[]) (ca:=[]) hf .func hargs (by simp) h
theorem JL.panic{dd:Option Tmp}{v:Value}{tt:TypeId}(hx:Ev E ⟨n,env,own,F,D⟩ x (.c (.iface tt v)))(h:Q (.panic [{v:=.iface tt v,recovered:=false}]) ⟨n,env,own,F,D⟩):
    JL P E ops (⟨dd,.panic x,ty,pos,af,none⟩::rest) ⟨n,env,own,F,D⟩ Q:=fun a w ⟨A,hA⟩=>by
  refine wpListIn_plain rfl fun K hK=>?_
  refine Hd (by intro c h;cases h) ?_
  unfold Oper.wp
  have:(execOp a.eval ⟨dd,.panic x,ty,pos,af,none⟩).run P w=.halt (.panic (.iface tt v)) w:=by
    simp[execOp,hx.eq hA,Instr.panic]
  rw[this,Oper.upon_panic]
  exact⟨_,h,A,hA⟩
/-! ### closinging -/
theorem Ys:∀{l:List Own} {i:Nat} {o:Own},l[i]? =some o→l.Perm (o::l.eraseIdx i)
  |[],_,_,h=>by simp at h
  |x::l,0,o,h=>by simp at h;subst h;exact .refl _
  |x::l,i+1,o,h=>by
    have:=Ys (l:=l) (i:=i) (o:=o) (by simpa using h)
    exact(List.Perm.cons x this).trans (.swap _ _ _)
theorem SatA.closeArr{i:Nat}{v:Value}{e:U7}{xs:List (List AV)}(h:SatA E A ⟨n,env,own,F,D⟩ a w)(hi:own[i]? =some (.arr v e xs))(hr:xs.length*e.bytes≤Qr)
    (hfp:∀b∈E.fp0,b∈UM (own.eraseIdx i)):∃A',SatA E A' ⟨n,env,own.eraseIdx i,(v,.sl true false e xs)::F,D⟩ a w:=by
  have hperm:own.Perm (.arr v e xs::own.eraseIdx i):=by
    exact Ys hi
  have h':=h.perm hperm
  have hnd:=h'.hp.nodup
  simp only[UM,List.flatMap_cons,List.nodup_append]at hnd
  obtain⟨hn1,hn2,hn3⟩:=hnd
  let A':QS:=fun fr b=>A fr b∨b∈(Own.arr v e xs).fp
  have hup:∀fr b,A fr b→A' fr b:=fun fr b hb=>.inl hb
  have hfpx:∀b∈(Own.arr v e xs).fp,b<w.heap.size∧(b∈E.fp0∨E.w0.heap.size≤b)∧∀fr,¬A fr b:=fun b hb=>h'.hp.fp b (by simp only[UM,List.flatMap_cons];exact List.mem_append_left _ hb)
  have hm:∀{u x},Rd w A u x→Rd w A' u x:=fun hr=>hr.move (fun fr b hb _=>hup fr b hb) fun _ _ _ _=>rfl
  refine⟨A',h'.size,h'.defers,h'.keep,⟨fun b hb=>hb.imp (h'.hp.mono b) id,fun fr b hb=>hup fr b (h'.hp.sup fr b hb),fun fr b hb=>?_,fun fr b hb=>hb.elim (h'.hp.lt fr b) fun hb=>(hfpx b hb).1,fun b hb=>?_,hn2,fun o ho=>?_⟩,
    fun i x hl=>hm (h'.env i x hl),fun p hp=>?_⟩
  · rcases hb with hb|hb
    · exact h'.hp.sub fr b hb
    · refine .inr ((hfpx b hb).2.1.elim (fun hmem=>?_) id)
      exact absurd rfl (hn3 b hb b (hfp b hmem))
  · obtain⟨h1,h2,h3⟩:=h'.hp.fp b (by simp only[UM,List.flatMap_cons];exact List.mem_append_right _ hb)
    exact⟨h1,h2,fun fr hA=>hA.elim (h3 fr) fun hb'=>hn3 b hb' b hb rfl⟩
  · exact(h'.hp.own o (List.mem_cons_of_mem _ ho)).move (fun fr b hb _=>hup fr b hb) (fun _ _ _ _=>rfl) fun _ _=>rfl
  · rcases List.mem_cons.1 hp with rfl|hp
    · rcases h'.hp.own _ (List.mem_cons_self)with ⟨a0,rfl,rfl⟩|⟨b,cap,us,t,rfl,hb,hcap,hus,hsz,hc⟩
      · exact .emp _ _ _ _ _ (fun _=>rfl)
      · refine .sl true false e xs b 0 (cap+1) us t (0,0) (fun k=>us.getD k undef) (.inr (by simp[Own.fp,KH])) hb hcap (fun hh=>by cases hh) hsz hr (fun k y hk=>?_) (fun k y hk=>?_)
        · obtain⟨u,h1,h0,_⟩:=hc k y hk
          rw[Nat.zero_add]at h1⊢
          simp[Array.getD_eq_getD_getElem?,h1,h0]
        · obtain⟨u,h1,_,h2⟩:=hc k y hk
          rw[Nat.zero_add]at h1
          simpa[Array.getD_eq_getD_getElem?,h1]using hm h2
    · exact hm (h'.facts p hp)
theorem JL.closeArr(i:Nat){v:Value}{e:U7}{xs:List (List AV)}{own':List Own}{l:List Oper}(hi:own[i]? =some (.arr v e xs))(hr:xs.length*e.bytes≤Qr)(ho:own.eraseIdx i=own')(hfp:∀b∈E.fp0,b∈UM own')
    (h:JL P E ops l ⟨n,env,own',(v,.sl true false e xs)::F,D⟩ Q):JL P E ops l ⟨n,env,own,F,D⟩ Q:=fun a w ⟨A,hA⟩=>by
  subst ho
  obtain⟨A',hA'⟩:=hA.closeArr hi hr hfp
  exact h a w ⟨A',hA'⟩
theorem J.closeArr(i:Nat){v:Value}{e:U7}{xs:List (List AV)}{own':List Own}{c:Code}(hi:own[i]? =some (.arr v e xs))(hr:xs.length*e.bytes≤Qr)(ho:own.eraseIdx i=own')(hfp:∀b∈E.fp0,b∈UM own')
    (h:J P E c ⟨n,env,own',(v,.sl true false e xs)::F,D⟩ Q):J P E c ⟨n,env,own,F,D⟩ Q:=fun a w ⟨A,hA⟩=>by
  subst ho
  obtain⟨A',hA'⟩:=hA.closeArr hi hr hfp
  exact h a w ⟨A',hA'⟩
/-! ### a function's contract -/
def Xu:Nat→List AV→List (Nat×AV)
  |_,[]=>[]
  |i,x::xs=>(i,x)::Xu (i+1) xs
theorem EA:∀(xs:List AV) (k i:Nat) (x:AV),lk (Xu k xs) i=some x→k≤i∧xs[i-k]? =some x
  |[],_,_,_,h=>by simp[Xu,lk]at h
  |y::ys,k,i,x,h=>by
    rcases WX h with ⟨rfl,rfl⟩|⟨hne,h⟩
    · exact⟨Nat.le_refl _,by simp⟩
    · obtain⟨h1,h2⟩:=EA ys (k+1) i x h
      exact⟨by omega,by rw[show i-k=(i-(k+1))+1 by omega];simpa using h2⟩
def rv(tmps:Array Value):ResultVar→Sem Value
  |.tmp t=>pure (tmps.getD t undef)
  |.cell b t=>do loadVar t (← asAddr (tmps.getD b undef))
theorem Gi(fn:Func)(tmps:Array Value):results fn tmps=(do
    let vs ← fn.results.mapM (rv tmps)
    pure (if h:vs.size=1 then vs[0]else .tuple vs)):=by
  unfold results
  congr 2
def REv(P:Program)(s:St)(r:ResultVar)(x:AV):Prop:=∀E A a w,SatA E A s a w→∃v,(rv a.tmps r).run P w=.ok v w∧Rd w A v x
theorem REv.tmp{s:St}{t:Nat}{y x:AV}(h:lk s.env t=some y)(hl:Le s.facts y x):REv P s (.tmp t) x:=fun E A a w hs=>
  ⟨_,rfl,(hs.env t y h).le hs.hp.mono hs.facts hl⟩
theorem REv.cell(i:Nat){s:St}{b r off m B:Nat}{ys zs:List AV}{x:AV}(hT:Un P t=some (true,m,B))(h:lk s.env r=some (.c (.pointer (some ⟨b,off,none⟩))))(ho:s.own[i]? =some (.box b ys))
    (hz:(ys.drop off).take m=zs) (hm:zs.length=m) (hl:Le s.facts (.agg zs) x):REv P s (.cell r t) x:=fun E A a w hs=>by
  obtain⟨us,t',hb,_,hc⟩:=hs.box i ho
  subst hz
  obtain⟨v,h1,h2⟩:=Xn hT hb ((hc.drop off).take m) hm
  rw[Nat.zero_add]at h1
  exact⟨v,by simp only[rv,(hs.env r _ h).eq,asAddr,Sem.run_bind,Sem.run_pure,Result.andThen_ok,h1],h2.le hs.hp.mono hs.facts hl⟩
theorem QR(i:Nat){s:St}{b r off m B:Nat}{ys:List AV}{y x:AV}(hT:Un P t=some (false,m,B))(h:lk s.env r=some (.c (.pointer (some ⟨b,off,none⟩))))(ho:s.own[i]? =some (.box b ys))
    (hz:ys[off]? =some y) (hl:Le s.facts y x):REv P s (.cell r t) x:=fun E A a w hs=>by
  obtain⟨us,t',hb,_,hc⟩:=hs.box i ho
  obtain⟨u,h3,_,h4⟩:=hc _ _ hz
  obtain⟨v,h1,h2⟩:=XZ hT hb (by simpa using h3) h4
  exact⟨v,by simp only[rv,(hs.env r _ h).eq,asAddr,Sem.run_bind,Sem.run_pure,Result.andThen_ok,h1],h2.le hs.hp.mono hs.facts hl⟩
def RetEv(P:Program)(fn:Func)(s:St)(x:AV):Prop:=∀E A a w,SatA E A s a w→∃v,(results fn a.tmps).run P w=.ok v w∧Rd w A v x
theorem RetEv.none{fn:Func}{s:St}(h:fn.results= #[]):RetEv P fn s (.tup []):=fun E A a w hs=>
  ⟨.tuple #[],by simp[results,h],.mk_tup rfl fun k y hk=>by simp at hk⟩
theorem RetEv.one{fn:Func}{s:St}{r:ResultVar}{x:AV}(h:fn.results= #[r])(h1:REv P s r x):RetEv P fn s x:=fun E A a w hs=>by
  obtain⟨v,hv,hx⟩:=h1 E A a w hs
  refine⟨v,?_,hx⟩
  rw[Gi,h]
  simp[hv]
theorem Qt{fn:Func}{s:St}{r r':ResultVar}{x x':AV}(h:fn.results= #[r,r'])(h1:REv P s r x)(h2:REv P s r' x'):RetEv P fn s (.tup [x,x']):=fun E A a w hs=>by
  obtain⟨v,hv,hx⟩:=h1 E A a w hs
  obtain⟨v',hv',hx'⟩:=h2 E A a w hs
  refine⟨.tuple #[v,v'],?_,.mk_tup rfl fun k y hk=>?_⟩
  · rw[Gi,h]
    simp[hv,hv']
  · match k,hk with
    |0,hk=>simp at hk;subst hk;exact⟨v,rfl,hx⟩
    |1,hk=>simp at hk;subst hk;exact⟨v',rfl,hx'⟩
theorem U2{fn:Func}{s:St}{r r' r'':ResultVar}{x x' x'':AV}(h:fn.results= #[r,r',r''])(h1:REv P s r x)(h2:REv P s r' x')(h3:REv P s r'' x''):RetEv P fn s (.tup [x,x',x'']):=fun E A a w hs=>by
  obtain⟨v,hv,hx⟩:=h1 E A a w hs
  obtain⟨v',hv',hx'⟩:=h2 E A a w hs
  obtain⟨v'',hv'',hx''⟩:=h3 E A a w hs
  refine⟨.tuple #[v,v',v''],?_,.mk_tup rfl fun k y hk=>?_⟩
  · rw[Gi,h]
    simp[hv,hv',hv'']
  · match k,hk with
    |0,hk=>simp at hk;subst hk;exact⟨v,rfl,hx⟩
    |1,hk=>simp at hk;subst hk;exact⟨v',rfl,hx'⟩
    |2,hk=>simp at hk;subst hk;exact⟨v'',rfl,hx''⟩
def retQ(P:Program)(fn:Func)(R:Wl→List Own→Prop):Exit→St→Prop
  |.normal,s|.ret,s=>∃x own' dr,RetEv P fn s x∧s.dfs=[]∧s.own.Perm (own'++dr)∧R (.ret x) own'
  |.panic chain,s=>∃v own' dr,chain=[{v,recovered:=false}]∧s.dfs=[]∧s.own.Perm (own'++dr)∧R (.pan v) own'
  |_,_=>False
theorem GR{rd:Option Nat}{N:Nat}{w:World}{A0:QS}{vs:Array Value}{xs:List AV}(hp:Hp w.heap.size (UM own) A0 own w A0)(hargs:RdL w A0 vs xs)(hlen:xs.length≤N):
    SatA ⟨w,UM own,A0,rd⟩ A0 ⟨N,Xu 0 xs,own,[],[]⟩ {tmps:=vs++Array.replicate (N-vs.size) undef,defers:=[]} w:=by
  obtain⟨h1,h2⟩:=hargs
  refine⟨by simp;omega,rfl,.refl _ _,hp,fun i x hl=>?_,fun p hp=>by cases hp⟩
  obtain⟨_,hx⟩:=EA xs 0 i x hl
  have hlt:i<vs.size:=by rw[h1];exact(List.getElem?_eq_some_iff.1 hx).1
  have:=h2 i x hx
  simp only[Array.getD_eq_getD_getElem?]at this⊢
  rw[Array.getElem?_append_left hlt]
  exact this
theorem AC.of_J{f:FuncId}{fn:Func}{c:Code}{N:Nat}{xs:List AV}{R:Wl→List Own→Prop}(hf:P.funcs[f]? =some fn)(hb:fn.body=some c)(hN:fn.ntmps=N)(hlen:Nat.ble xs.length N=true)
    (h:∀w0 A0,J P ⟨w0,UM own,A0,none⟩ c ⟨N,Xu 0 xs,own,[],[]⟩ (retQ P fn R)):AC P f own xs R:=fun w A0 vs hp hargs=>by
  refine calls_of_wp hf hb ?_
  subst hN
  have hin:c.wpIn Fence.wide 0 P _ _ w:=h w A0 _ w ⟨A0,GR hp hargs (Nat.le_of_ble_eq_true hlen)⟩
  refine wp_mono (wpIn_wide.1 hin) fun e a' w' ⟨s,hq,A,hs⟩=>?_
  have hret:(∃x own' dr,RetEv P fn s x∧s.dfs=[]∧s.own.Perm (own'++dr)∧R (.ret x) own')→a'.defers=[]∧∃v,(results fn a'.tmps).run P w'=.ok v w'∧
      ∃r own' A,R r own'∧Keep (UM own) w w'∧Hp w.heap.size (UM own) A0 own' w' A∧RdE w' A (.returned v) r:=by
    rintro⟨x,own',dr,hx,hd,hp',hR⟩
    obtain⟨v,h1,h2⟩:=hx _ A a' w' hs
    exact⟨hs.defers.trans hd,v,h1,.ret x,own',A,hR,hs.keep,(hs.hp.perm hp').left,v,rfl,h2⟩
  cases e with
  |normal=>exact hret hq
  |ret=>exact hret hq
  |panic chain=>
    obtain⟨v,own',dr,rfl,hd,hp',hR⟩:=hq
    exact⟨hs.defers.trans hd,.pan v,own',A,hR,hs.keep,(hs.hp.perm hp').left,rfl⟩
  |exit id=>exact hq.elim
  |goto l=>exact hq.elim
  |outgrown=>exact hq.elim
end

end
section
/- Rules for texts and for slicing; wraps; the posts' helpers. -/
abbrev Q4(l:List UInt8):Value:=.string ⟨l.toArray⟩
theorem Uu(l:List UInt8):(⟨l.toArray⟩:ByteArray).toList=l:=by
  have h:∀(b:ByteArray) (i:Nat) (r:List UInt8),ByteArray.toList.loop b i r=r.reverse++b.data.toList.drop i:=by
    intro b i r
    induction hn:b.size-i generalizing i r with
    |zero=>
      unfold ByteArray.toList.loop
      rw[if_neg (by omega),List.drop_eq_nil_of_le (by simp[← ByteArray.size_data]at hn⊢;omega)]
      simp
    |succ n ih=>
      unfold ByteArray.toList.loop
      rw[if_pos (by omega),ih (i+1) (b.get! i::r) (by omega)]
      have hlt:i<b.data.toList.length:=by simp[← ByteArray.size_data]at hn⊢;omega
      rw[List.drop_eq_getElem_cons hlt]
      have hb:b.get! i=b.data.toList[i]:=by
        have hi:i<b.data.size:=by simpa using hlt
        show b.data[i]! =_
        rw[getElem!_pos b.data i hi];simp
      simp[hb]
  simpa[ByteArray.toList]using h ⟨l.toArray⟩ 0 []
section
variable {P:Program} {E:Wy} {st:St} {t:TypeId} {g:Bool} {n B:Nat} {w:World} {d:Option Tmp} {ty:TypeId} {pos:String} {af:Array Edge} {gd:Option (Nat×Bool)} {x y z:Operand}
variable {l l':List UInt8} {yt:TypeId}
theorem U3(hU:P.underlying t=some .string)(h:Ev E st x (.c (Q4 l))):
    QW P E st ⟨d,.call ⟨.builtin .len,#[x],#[t]⟩,ty,pos,af,gd⟩ (.c (.int .i64 (l.length:Int))):=(DZ hU h).conv (by simp[ByteArray.size])
section
theorem WJ(hx:Ev E st x (.c (Q4 l)))(hy:Ev E st y (.c (Q4 l'))):QW P E st ⟨d,.binOp .eql t x y yt,ty,pos,af,gd⟩ (.c (.bool (l==l'))):=(QW.seql hx hy).conv (by rw[Uu,Uu])
theorem Wp(hx:Ev E st x (.c (Q4 l)))(hy:Ev E st y (.c (Q4 l'))):QW P E st ⟨d,.binOp .neq t x y yt,ty,pos,af,gd⟩ (.c (.bool (l !=l'))):=(QW.sneq hx hy).conv (by rw[Uu,Uu])
theorem TN(hx:Ev E st x (.c (Q4 l)))(hy:Ev E st y (.c (Q4 l'))):QW P E st ⟨d,.binOp .lss t x y yt,ty,pos,af,gd⟩ (.c (.bool (Op.bytesLess l l'))):=(QW.slss hx hy).conv (by rw[Uu,Uu])
theorem PP(hx:Ev E st x (.c (Q4 l)))(hy:Ev E st y (.c (Q4 l'))):QW P E st ⟨d,.binOp .leq t x y yt,ty,pos,af,gd⟩ (.c (.bool (Op.bytesLess l l'||l==l'))):=(QW.sleq hx hy).conv (by rw[Uu,Uu])
theorem PQ(hx:Ev E st x (.c (Q4 l)))(hy:Ev E st y (.c (Q4 l'))):QW P E st ⟨d,.binOp .gtr t x y yt,ty,pos,af,gd⟩ (.c (.bool (!(Op.bytesLess l l'||l==l')))):=(QW.sgtr hx hy).conv (by rw[Uu,Uu])
theorem PR(hx:Ev E st x (.c (Q4 l)))(hy:Ev E st y (.c (Q4 l'))):QW P E st ⟨d,.binOp .geq t x y yt,ty,pos,af,gd⟩ (.c (.bool (!Op.bytesLess l l'))):=(QW.sgeq hx hy).conv (by rw[Uu,Uu])
theorem PU(hx:Ev E st x (.c (Q4 l)))(hy:Ev E st y (.c (Q4 l')))(hb:l.length+l'.length≤9223372036854775807):QW P E st ⟨d,.binOp .add t x y yt,ty,pos,af,gd⟩ (.c (Q4 (l++l'))):=.bin hx hy Yu fun w=>by
  have hs:¬(((⟨l.toArray⟩:ByteArray).size+(⟨l'.toArray⟩:ByteArray).size:Nat):Int)>IntKind.i64.max:=by
    simp[ByteArray.size,IntKind.max,IntKind.signed,IntKind.bits];omega
  simp only[binOp,Op.stringOp,hs,if_false]
  simp[Q4,ByteArray.ext_iff]
end
end
/-! ### the posts' helpers -/
section
variable {E:Wy} {K:St→Prop} {Q:Exit→St→Prop} {s:St} {i j:Nat} {ch:List PanicEntry}
theorem thenQ.n(h:K s):thenQ K Q .normal s:=h
theorem Qz(h:Q (.exit i) s):thenQ K Q (.exit i) s:=h
theorem thenQ.r(h:Q .ret s):thenQ K Q .ret s:=h
theorem thenQ.p(h:Q (.panic ch) s):thenQ K Q (.panic ch) s:=h
theorem blkQ.n(h:Q .normal s):blkQ i Q .normal s:=h
theorem QY(h:Q .normal s):blkQ i Q (.exit i) s:=by
  show(match Nat.beq i i with|true=>Q .normal s|false=>Q (.exit i) s)
  rw[Nat.beq_refl];exact h
theorem FA(hb:Nat.beq j i=false)(h:Q (.exit j) s):blkQ i Q (.exit j) s:=by
  show(match Nat.beq j i with|true=>Q .normal s|false=>Q (.exit j) s)
  rw[hb];exact h
theorem blkQ.r(h:Q .ret s):blkQ i Q .ret s:=h
theorem blkQ.p(h:Q (.panic ch) s):blkQ i Q (.panic ch) s:=h
end
/-! ### wraps -/
theorem Yy{n:Int}(h: -9223372036854775808≤n∧n≤9223372036854775807):IntKind.i64.wrap n=n:=IntWalk.i64_in n h
theorem U6{n:Int}{m:Nat}(h:n=(m:Int))(hb:m≤9223372036854775807):IntKind.i64.wrap n=(m:Int):=by
  rw[Yy (by omega),h]
theorem wu64{n:Int}(h:0≤n∧n≤18446744073709551615):IntKind.u64.wrap n=n:=IntWalk.u64_in n h
theorem wu8{n:Int}(h:0≤n∧n≤255):IntKind.u8.wrap n=n:=IntWalk.u8_in n h
/-! ### weakenings of states -/
inductive EnvLe(F:List (Value×AV))(env:List (Nat×AV)):List (Nat×AV)→Prop
  |nil:EnvLe F env []
  |cons {i:Nat} {x y:AV} {l:List (Nat×AV)} (h:lk env i=some y) (hl:Le F y x) (hs:EnvLe F env l):EnvLe F env ((i,x)::l)
theorem EnvLe.get{F:List (Value×AV)}{env env':List (Nat×AV)}(h:EnvLe F env env'):∀i x,lk env' i=some x→∃y,lk env i=some y∧Le F y x:=by
  induction h with
  |nil=>intro i x h;simp[lk]at h
  |cons h hl _ ih=>
    intro i x hx
    rcases WX hx with ⟨rfl,rfl⟩|⟨_,hx⟩
    · exact⟨_,h,hl⟩
    · exact ih i x hx

end
section
/- Words for regions that draw their order. -/
def Tp(n:Nat)(f:Nat→Bool):Nat:=(List.range n).countP f
theorem To(n:Nat)(f:Nat→Bool):Tp (n+1) f=Tp n f+if f n then 1 else 0:=by
  simp[Tp,List.range_succ,List.countP_append]
theorem Lv(f f':Nat→Bool)(i:Nat)(h:∀j,j≠i→f' j=f j)(h1:f i=true)(h0:f' i=false):∀n,Tp n f'+(if i<n then 1 else 0)=Tp n f
  |0=>by simp[Tp]
  |n+1=>by
    have ih:=Lv f f' i h h1 h0 n
    rw[To,To]
    by_cases hn:n=i
    · subst hn
      rw[h1,h0]
      simp at ih⊢
      omega
    · rw[h n hn]
      have h2:(if i<n+1 then 1 else 0)=(if i<n then 1 else 0:Nat):=by
        by_cases hlt:i<n
        · rw[if_pos hlt,if_pos (by omega)]
        · rw[if_neg hlt,if_neg (by omega)]
      rw[h2];omega
def U1(ds:List Nat)(env:List (Nat×AV)):List (Nat×AV):=env.filter fun p=>!(ds.any (Nat.beq p.1))
theorem WK(p:Nat→Bool):∀(env:List (Nat×AV)) (i:Nat) (x:AV),lk (env.filter fun q=>p q.1) i=some x→lk env i=some x∧p i=true
  |[],_,_,h=>by simp[lk]at h
  |(j,y)::l,i,x,h=>by
    simp only[List.filter_cons]at h
    split at h
    · rename_i hp
      rcases WX h with ⟨rfl,rfl⟩|⟨hne,h⟩
      · exact⟨by simp[lk],hp⟩
      · obtain⟨h1,h2⟩:=WK p l i x h
        refine⟨?_,h2⟩
        unfold lk
        split
        · rename_i hb;exact absurd (Nat.eq_of_beq_eq_true hb) hne
        · exact h1
    · rename_i hp
      obtain⟨h1,h2⟩:=WK p l i x h
      refine⟨?_,h2⟩
      unfold lk
      split
      · rename_i hb
        have:=Nat.eq_of_beq_eq_true hb
        subst this
        exact absurd h2 hp
      · exact h1
def WM(ops:List Oper):List Nat:=ops.filterMap (·.dst)
def depsOk(o:Oper)(ds:List Nat):Bool:=ds.all fun j=>o.after.toList.any fun e=>Nat.beq e.on j&&Region.binds .any e
def XF:List Nat→Bool
  |[]=>true
  |x::l=>!(l.any (Nat.beq x))&&XF l
def Xi:Nat→List Oper→Bool
  |_,[]=>true
  |i,o::l=>(o.after.toList.all fun e=>!Region.binds .any e||Nat.blt e.on i)&&Xi (i+1) l
section
variable {P:Program} {E:Wy} {Q:Exit→St→Prop} {n:Nat} {env:List (Nat×AV)} {own:List Own} {F:List (Value×AV)} {D:List Deferred} {ops:Array Oper}
theorem GY{l:List Oper}{o:Oper}{d:Nat}{i:Nat}(h:l[i]? =some o)(hd:o.dst=some d):d∈WM l:=List.mem_filterMap.2 ⟨o,List.mem_of_getElem? h,hd⟩
theorem Y3:∀{l:List Oper},XF (WM l)=true→∀{i j:Nat} {o o':Oper} {d:Nat},l[i]? =some o→l[j]? =some o'→o.dst=some d→o'.dst=some d→i=j
  |[],_,i,_,_,_,_,h,_,_,_=>by simp at h
  |x::l,hn,i,j,o,o',d,hi,hj,hd,hd'=>by
    have hrec:XF (WM l)=true:=by
      unfold WM at hn⊢
      rw[List.filterMap_cons]at hn
      split at hn
      · exact hn
      · simp only[XF,Bool.and_eq_true]at hn;exact hn.2
    have hhead:∀{k:Nat} {o'':Oper},l[k]? =some o''→x.dst=some d→o''.dst=some d→False:=by
      intro k o'' hk hx ho
      unfold WM at hn
      rw[List.filterMap_cons,hx]at hn
      simp only[XF,Bool.and_eq_true,Bool.not_eq_true']at hn
      have:=List.any_eq_false.1 hn.1 d (GY hk ho)
      simp at this
    cases i with
    |zero=>
      cases j with
      |zero=>rfl
      |succ j=>simp at hi hj;subst hi;exact(hhead hj hd hd').elim
    |succ i=>
      cases j with
      |zero=>simp at hi hj;subst hj;exact(hhead hi hd' hd).elim
      |succ j=>simp at hi hj;rw[Y3 hrec hi hj hd hd']
theorem Ym:∀{l:List Oper} {k:Nat},Xi k l=true→∀{i:Nat} {o:Oper},l[i]? =some o→∀e∈o.after,Region.binds .any e=true→e.on<k+i
  |[],_,_,i,_,h,_,_,_=>by simp at h
  |x::l,k,hb,i,o,hi,e,he,hbe=>by
    simp only[Xi,Bool.and_eq_true]at hb
    cases i with
    |zero=>
      simp at hi;subst hi
      have h1:=List.all_eq_true.1 hb.1 e (by simpa using he)
      rw[hbe]at h1
      simp at h1
      omega
    |succ i=>
      have:=Ym hb.2 (i:=i) (o:=o) (by simpa using hi) e he hbe
      omega
end

end
section
/- A region that draws its order, with stores among its operations and a tail in fixed order: whatever the order, all reads as in the order of the text. -/
def NU(l:List Oper)(i j:Nat):Bool:=match l[i]? with
  |some o=>o.after.toList.any fun e=>Nat.beq e.on j&&Region.binds .any e
  |none=>false
def Kr(k:Nat)(l:List Oper):Bool:=Nat.beq k l.length||
  ((List.range k).all (fun j=>(List.range' (j+1) (k-j)).any fun i=>NU l i j)&&(List.range' (k+1) (l.length-(k+1))).all fun j=>NU l j (j-1))
theorem LW{l:List Oper}{i j:Nat}(h:NU l i j=true):∃o,l[i]? =some o∧∃e∈o.after,Region.binds .any e=true∧e.on=j:=by
  unfold NU at h
  split at h
  · rename_i o ho
    obtain⟨e,he,hke⟩:=List.any_eq_true.1 h
    simp only[Bool.and_eq_true]at hke
    exact⟨o,ho,e,by simpa using he,hke.2,Nat.eq_of_beq_eq_true hke.1⟩
  · cases h
def LStep(P:Program)(E:Wy)(st:St)(own':List Own)(o:Oper):Prop:=
  ∀A a w,SatA E A st a w→∀(K:Act→World→Prop) (Qx:Exit→Act→World→Prop),
    (∀w' A',Frm w A w' A'→SatA E A' ⟨st.n,st.env,own',st.facts,st.dfs⟩ a w'→K a w')→o.wpIn (XG E.rd) 0 P a w K Qx
theorem WG{o:Oper}{ds:List Nat}(h:depsOk o ds=true){j:Nat}(hj:j∈ds):∃e∈o.after,Region.binds .any e=true∧e.on=j:=by
  obtain⟨e,he,hke⟩:=List.any_eq_true.1 ((List.all_eq_true.1 h) j hj)
  simp only[Bool.and_eq_true]at hke
  exact⟨e,by simpa using he,hke.2,Nat.eq_of_beq_eq_true hke.1⟩
def NB(o:Oper)(don env env':List (Nat×AV)):Prop:=∀s x,lk env' s=some x→(∃j,depsOk o [j]=true∧don[j]? =some (s,x))∨lk env s=some x
inductive AnyM(P:Program)(E:Wy)(ops:Array Oper)(n:Nat)(env:List (Nat×AV))(own:Nat→List Own)(M:Nat)(F:List (Value×AV))(D:List Deferred):Nat→Nat→Nat→List Oper→List (Nat×AV)→List (Nat×AV)→List (Option Nat)→Prop
  |nil (i p:Nat) (don:List (Nat×AV)):AnyM P E ops n env own M F D i M p [] don don []
  |quiet {i j p:Nat} {o:Oper} {os:List Oper} {don all:List (Nat×AV)} {lv:List (Option Nat)} {d:Nat} {x:AV} {env':List (Nat×AV)} (hd:o.dst=some d) (hn:Nat.blt d n=true) (he:NB o don env env')
      (hs:∀q,q≤M→Step P E ops ⟨n,env',own q,F,D⟩ o x) (h:AnyM P E ops n env own M F D (i+1) j p os (don++[(d,x)]) all lv):AnyM P E ops n env own M F D i j p (o::os) don all (none::lv)
  |loud {i j p:Nat} {o:Oper} {os:List Oper} {don all:List (Nat×AV)} {lv:List (Option Nat)} {env':List (Nat×AV)} (hd:o.dst=none) (hg:o.guard=none) (he:NB o don env env') (hp:(Nat.beq j 0||depsOk o [p])=true)
      (hs:LStep P E ⟨n,env',own j,F,D⟩ (own (j+1)) o) (h:AnyM P E ops n env own M F D (i+1) (j+1) i os (don++[(n+i,.c undef)]) all lv):AnyM P E ops n env own M F D i j p (o::os) don all (some j::lv)
section
variable {P:Program} {E:Wy} {Q:Exit→St→Prop} {n:Nat} {env:List (Nat×AV)} {own:Nat→List Own} {M:Nat} {F:List (Value×AV)} {D:List Deferred} {ops:Array Oper}
theorem AnyM.get{i j p:Nat}{os:List Oper}{don all:List (Nat×AV)}{lv:List (Option Nat)}(h:AnyM P E ops n env own M F D i j p os don all lv)(hi:don.length=i):
    (∃r,all=don++r)∧all.length=don.length+os.length∧lv.length=os.length∧j≤M∧
    (∀(k q:Nat),lv[k]? =some (some q)→j≤q∧q<M)∧
    (∀(k k' q:Nat),lv[k]? =some (some q)→lv[k']? =some (some q)→k=k')∧
    (∀q,j≤q→q<M→∃k:Nat,lv[k]? =some (some q))∧
    ∀k o,os[k]? =some o→
      (lv[k]? =some none∧∃d x env',all[i+k]? =some (d,x)∧o.dst=some d∧d<n∧NB o (all.take (i+k)) env env'∧∀q,q≤M→Step P E ops ⟨n,env',own q,F,D⟩ o x)∨
      (∃q env',lv[k]? =some (some q)∧all[i+k]? =some (n+(i+k),.c undef)∧o.dst=none∧o.guard=none∧NB o (all.take (i+k)) env env'∧LStep P E ⟨n,env',own q,F,D⟩ (own (q+1)) o∧
        (q=j→j=0∨depsOk o [p]=true)∧(j<q→∃k',lv[k']? =some (some (q-1))∧depsOk o [i+k']=true)):=by
  induction h with
  |nil i p don=>exact⟨⟨[],by simp⟩,by simp,rfl,Nat.le_refl _,fun k q h=>by simp at h,fun k k' q h=>by simp at h,fun q h1 h2=>by omega,fun k o h=>by simp at h⟩
  |quiet hd hn hds hs _ ih=>
    rename_i i j p o os don all lv d x env' _
    obtain⟨⟨r,hr⟩,hl,hlv,hjM,hq,hinj,hsur,hk⟩:=ih (by simp[hi])
    refine⟨⟨(d,x)::r,by rw[hr];simp⟩,by simp at hl⊢;omega,by simp[hlv],hjM,fun k q hkq=>?_,fun k k' q h1 h2=>?_,fun q h1 h2=>(by obtain⟨k,hk'⟩:=hsur q h1 h2;exact⟨k+1,by simpa using hk'⟩),fun k o' ho'=>?_⟩
    · cases k with
      |zero=>simp at hkq
      |succ k=>exact hq k q (by simpa using hkq)
    · cases k with
      |zero=>simp at h1
      |succ k=>
        cases k' with
        |zero=>simp at h2
        |succ k'=>rw[hinj k k' q (by simpa using h1) (by simpa using h2)]
    · cases k with
      |zero=>
        simp at ho';subst ho'
        have:all.take (i+0)=don:=by rw[hr,← hi];simp
        exact .inl ⟨by simp,d,x,env',by rw[hr,← hi];simp,hd,Ui hn,by rw[this];exact hds,hs⟩
      |succ k=>
        have:=hk k o' (by simpa using ho')
        rw[show i+(k+1)=i+1+k by omega]
        rcases this with ⟨h1,h2⟩|⟨q,ds',h1,h2,h3,h4,h5,h6,h7,h8⟩
        · exact .inl ⟨by simpa using h1,h2⟩
        · refine .inr ⟨q,ds',by simpa using h1,h2,h3,h4,h5,h6,h7,fun hlt=>?_⟩
          obtain⟨k',hk',hd'⟩:=h8 hlt
          exact⟨k'+1,by simpa using hk',by rw[show i+(k'+1)=i+1+k' by omega];exact hd'⟩
  |loud hd hg hds hp hs _ ih=>
    rename_i i j p o os don all lv env' _
    obtain⟨⟨r,hr⟩,hl,hlv,hjM,hq,hinj,hsur,hk⟩:=ih (by simp[hi])
    refine⟨⟨(n+i,.c undef)::r,by rw[hr];simp⟩,by simp at hl⊢;omega,by simp[hlv],by omega,fun k q hkq=>?_,fun k k' q h1 h2=>?_,fun q h1 h2=>(by
      by_cases he:q=j
      · exact⟨0,by simp[he]⟩
      · obtain⟨k,hk'⟩:=hsur q (by omega) h2;exact⟨k+1,by simpa using hk'⟩),fun k o' ho'=>?_⟩
    · cases k with
      |zero=>simp at hkq;omega
      |succ k=>have:=hq k q (by simpa using hkq);omega
    · cases k with
      |zero=>
        cases k' with
        |zero=>rfl
        |succ k'=>simp at h1 h2;have:=hq k' q h2;omega
      |succ k=>
        cases k' with
        |zero=>simp at h1 h2;have:=hq k q h1;omega
        |succ k'=>rw[hinj k k' q (by simpa using h1) (by simpa using h2)]
    · cases k with
      |zero=>
        simp at ho';subst ho'
        have:all.take (i+0)=don:=by rw[hr,← hi];simp
        refine .inr ⟨j,env',by simp,by rw[hr,← hi];simp,hd,hg,by rw[this];exact hds,hs,fun _=>?_,fun h=>by omega⟩
        · simp only[Bool.or_eq_true]at hp
          exact hp.imp Nat.eq_of_beq_eq_true id
      |succ k=>
        have:=hk k o' (by simpa using ho')
        rw[show i+(k+1)=i+1+k by omega]
        rcases this with ⟨h1,h2⟩|⟨q,ds',h1,h2,h3,h4,h5,h6,h7,h8⟩
        · exact .inl ⟨by simpa using h1,h2⟩
        · have hjq:=(hq k q h1).1
          refine .inr ⟨q,ds',by simpa using h1,h2,h3,h4,h5,h6,fun h=>by omega,fun hlt=>?_⟩
          by_cases he:q=j+1
          · refine⟨0,by simp[he],?_⟩
            rcases h7 he with h7|h7
            · omega
            · simpa using h7
          · obtain⟨k',hk',hd'⟩:=h8 (by omega)
            exact⟨k'+1,by simpa using hk',by rw[show i+(k'+1)=i+1+k' by omega];exact hd'⟩
theorem Kq{k:Nat}(ht:Kr k ops.toList=true)(hbk:Xi 0 ops.toList=true){L:Array Bool}
    (h3:∀i o,ops[i]? =some o→L.getD i false=true→∀e∈o.after,Region.binds .any e=true→L.getD e.on false=true)
    {i:Nat} {o:Oper} (ho:ops[i]? =some o) (hdeps:∀e∈o.after,Region.binds .any e=true→L.getD e.on false=true) (hik:k≤i):
    (∀j,j<k→L.getD j false=true)∧(∀j,k≤j→j<i→L.getD j false=true):=by
  have hlt:i<ops.size:=(Array.getElem?_eq_some_iff.1 ho).1
  have hk:k<ops.size:=by omega
  unfold Kr at ht
  have hne:Nat.beq k ops.toList.length=false:=by
    cases hb:Nat.beq k ops.toList.length with
    |false=>rfl
    |true=>have:=Nat.eq_of_beq_eq_true hb;simp at this;omega
  rw[hne,Bool.false_or,Bool.and_eq_true,List.all_eq_true,List.all_eq_true]at ht
  obtain⟨t1,t2⟩:=ht
  -- the tail, downwards
  have down:∀d j,i-j=d→k≤j→j≤i→(j=i∨L.getD j false=true):=by
    intro d
    induction d with
    |zero=>intro j h1 h2 h4;exact .inl (by omega)
    |succ d ih=>
      intro j h1 h2 h4
      right
      have hj1:=ih (j+1) (by omega) (by omega) (by omega)
      have:=t2 (j+1) (by simp[List.mem_range'];exact⟨j-k,by omega,by omega⟩)
      obtain⟨o',ho',e,he,hb,hon⟩:=LW this
      rw[Nat.add_sub_cancel]at hon
      rcases hj1 with hj1|hj1
      · rw[hj1]at ho'
        have:o'=o:=Option.some.inj ((by simpa using ho':ops[i]? =some o').symm.trans ho)
        subst this
        rw[← hon];exact hdeps e he hb
      · rw[← hon];exact h3 (j+1) o' (by simpa using ho') hj1 e he hb
  have dk:∀o',ops[k]? =some o'→∀e∈o'.after,Region.binds .any e=true→L.getD e.on false=true:=by
    intro o' ho' e he hb
    rcases down _ k rfl (Nat.le_refl _) hik with h|h
    · subst h
      rw[ho]at ho';cases ho'
      exact hdeps e he hb
    · exact h3 k o' ho' h e he hb
  refine⟨?_,fun j h1 h2=>(down _ j rfl h1 (by omega)).resolve_left (by omega)⟩
  have pre:∀d j,k-j=d→j<k→L.getD j false=true:=by
    intro d
    induction d using Nat.strongRecOn with
    |_ d ih=>
      intro j h1 h2
      have:=t1 j (by simpa using h2)
      obtain⟨i',hi',hd⟩:=List.any_eq_true.1 this
      simp[List.mem_range']at hi'
      obtain⟨z,hz,rfl⟩:=hi'
      obtain⟨o',ho',e,he,hb,hon⟩:=LW hd
      rw[← hon]
      have ho'':ops[j+1+z]? =some o':=by simpa using ho'
      by_cases he':j+1+z=k
      · exact dk o' (he'▸ho'') e he hb
      · exact h3 _ o' ho'' (ih (k-(j+1+z)) (by omega) _ rfl (by omega)) e he hb
  exact fun j hj=>pre _ j rfl hj
theorem Wb{L:Array Bool}{i:Nat}(hi:i∈Region.ready .any ops L):
    i<ops.size∧∃o,ops[i]? =some o∧L.getD i true=false∧∀e∈o.after,Region.binds .any e=true→L.getD e.on false=true:=by
  unfold Region.ready at hi
  rw[List.mem_filter]at hi
  obtain⟨hi1,hi2⟩:=hi
  have hlt:i<ops.size:=by simpa using hi1
  obtain⟨o,ho⟩:∃o,ops[i]? =some o:=⟨_,Array.getElem?_eq_getElem hlt⟩
  simp only[ho,Option.map_some,Option.getD_some,Bool.and_eq_true,Bool.not_eq_true']at hi2
  obtain⟨hunl,hafter⟩:=hi2
  refine⟨hlt,o,ho,hunl,fun e he hb=>?_⟩
  obtain⟨k,hk,hke⟩:=Array.getElem_of_mem he
  have:=Array.all_eq_true.1 hafter k hk
  rw[hke,hb]at this
  simpa using this
theorem Yr{L:Array Bool}(hsz:L.size=ops.size){i:Nat}{o:Oper}(ho:ops[i]? =some o)(hL:L.getD i true=false)(hd:∀e∈o.after,Region.binds .any e=true→L.getD e.on false=true):
    i∈Region.ready .any ops L:=by
  have hlt:i<ops.size:=(Array.getElem?_eq_some_iff.1 ho).1
  unfold Region.ready
  rw[List.mem_filter]
  refine⟨by simpa using hlt,?_⟩
  simp only[hL,ho,Option.map_some,Option.getD_some,Bool.not_false,Bool.true_and]
  rw[Array.all_eq_true]
  intro k hk
  cases hb:Region.binds .any o.after[k]with
  |false=>simp
  |true=>simpa using hd _ (Array.getElem_mem hk) hb
theorem Uk(L:Array Bool)(i j:Nat)(h:i<L.size)(b:Bool):(L.setIfInBounds i true).getD j b=if j=i then true else L.getD j b:=by
  simp only[Array.getD_eq_getD_getElem?]
  by_cases hji:j=i
  · subst hji;simp[h]
  · rw[Array.getElem?_setIfInBounds_ne (fun h=>hji h.symm),if_neg hji]
theorem Uh{L:Array Bool}{i:Nat}(h:i<L.size):L.getD i true=L.getD i false:=by
  simp only[Array.getD_eq_getD_getElem?]
  rw[Array.getElem?_eq_getElem h];rfl
theorem Ec{r:Option Nat}{k:Nat}(ht:Kr k ops.toList=true)(hbk:Xi 0 ops.toList=true){Qx:Exit→Act→World→Prop}:∀(fuel m:Nat) (L:Array Bool) (a:Act) (w:World),k≤m→m≤ops.size→ops.size-m≤fuel→
    L.size=ops.size→(∀j,j<m→L.getD j false=true)→(∀j,m≤j→L.getD j false=false)→wpListIn (XG r) 0 P ops Qx (ops.toList.drop m) a w→wpAnyIn (XG r) 0 P .any ops Qx fuel L a w:=by
  have hready:∀(L:Array Bool) (m i:Nat),k≤m→L.size=ops.size→(∀j,j<m→L.getD j false=true)→(∀j,m≤j→L.getD j false=false)→i∈Region.ready .any ops L→i=m:=by
    intro L m i hkm hsz h1 h2 hi
    obtain⟨hlt,o,ho,hL,hd⟩:=Wb hi
    have hge:m≤i:=by
      apply Nat.le_of_not_lt
      intro h
      have:=h1 i h
      rw[Uh (by omega)]at hL
      rw[this]at hL;cases hL
    apply Nat.le_antisymm _ hge
    apply Nat.le_of_not_lt
    intro hlt'
    have h3:∀i o,ops[i]? =some o→L.getD i false=true→∀e∈o.after,Region.binds .any e=true→L.getD e.on false=true:=by
      intro i o ho hL e he hb
      have hil:i<m:=by
        apply Nat.lt_of_not_le
        intro h
        rw[h2 i h]at hL;cases hL
      have:=Ym hbk (i:=i) (o:=o) (by simpa using ho) e he hb
      exact h1 _ (by omega)
    have:=(Kq ht hbk h3 ho hd (by omega)).2 m hkm hlt'
    rw[h2 m (Nat.le_refl _)]at this
    cases this
  intro fuel
  induction fuel with
  |zero=>
    intro m L a w hkm hm hf hsz h1 h2 h
    have hm':m=ops.size:=by omega
    refine⟨?_,?_⟩
    · rw[List.eq_nil_iff_forall_not_mem]
      intro i hi
      have h4:=hready L m i hkm hsz h1 h2 hi
      have:=(Wb hi).1
      omega
    · rw[hm',List.drop_of_length_le (by simp)]at h
      exact h
  |succ fuel ih=>
    intro m L a w hkm hm hf hsz h1 h2 h
    by_cases hm':m=ops.size
    · have hnil:Region.ready .any ops L=[]:=by
        rw[List.eq_nil_iff_forall_not_mem]
        intro i hi
        have h4:=hready L m i hkm hsz h1 h2 hi
        have:=(Wb hi).1
        omega
      rw[hm',List.drop_of_length_le (by simp)]at h
      exact⟨fun _=>h,fun i hi=>by rw[hnil]at hi;cases hi⟩
    · have hlt:m<ops.size:=by omega
      obtain⟨o,ho⟩:∃o,ops[m]? =some o:=⟨_,Array.getElem?_eq_getElem hlt⟩
      have hmem:m∈Region.ready .any ops L:=Yr hsz ho (by rw[Uh (by omega)];exact h2 m (Nat.le_refl _)) fun e he hb=>h1 _ (by
        have:=Ym hbk (i:=m) (o:=o) (by simpa using ho) e he hb
        omega)
      refine⟨fun hr=>(by rw[hr]at hmem;cases hmem),fun i hi=>?_⟩
      have:=hready L m i hkm hsz h1 h2 hi
      subst this
      have hdrop:ops.toList.drop i=o::ops.toList.drop (i+1):=by
        rw[List.drop_eq_getElem_cons (by simpa using hlt)]
        congr 1
        have:=Array.getElem?_eq_some_iff.1 ho
        simpa using this.2
      rw[hdrop]at h
      have hK:∀a' w',wpListIn (XG r) 0 P ops Qx (ops.toList.drop (i+1)) a' w'→wpAnyIn (XG r) 0 P .any ops Qx fuel (L.setIfInBounds i true) a' w':=fun a' w' hw=>
        ih (i+1) _ a' w' (by omega) (by omega) (by omega) (by simpa using hsz)
          (fun j hj=>by rw[Uk _ _ _ (by omega)];split;rfl;exact h1 j (by omega))
          (fun j hj=>by rw[Uk _ _ _ (by omega),if_neg (by omega)];exact h2 j (by omega)) hw
      unfold wpOpIn
      simp only[ho]
      unfold wpListIn at h
      split
      · rename_i hw
        rw[if_pos hw]at h
        exact Oper.wpIn_mono hK h
      · rename_i hw
        rw[if_neg hw]at h
        exact⟨h.1,hK _ _ h.2⟩
theorem Rt{id:Nat}{l pre tail:List Oper}{steps:List (Nat×AV)}{lv:List (Option Nat)}(hm:P.follows .mixedOrders=true)(hl:l=pre++tail)(hnd:XF (WM pre)=true)(hbk:Xi 0 l=true)(ht:Kr pre.length l=true)
    (hany:AnyM P E l.toArray n (U1 (WM pre) env) own M F D 0 0 0 pre [] steps lv)
    (h:JL P E l.toArray tail ⟨n,steps++U1 (WM pre) env,own M,F,D⟩ Q):
    J P E (.region id l.toArray true) ⟨n,env,own 0,F,D⟩ Q:=fun a₀ w₀ ⟨A₀,hA₀⟩=>by
  obtain⟨_,hlen,hlvl,_,hlq,hinj,hsur,hst⟩:=hany.get rfl
  simp only[List.length_nil,Nat.zero_add]at hlen hst
  have hsize:l.toArray.size=pre.length+tail.length:=by simp[hl]
  have hpre:∀i o,i<pre.length→(l.toArray[i]? =some o↔pre[i]? =some o):=fun i o hi=>by simp[hl,List.getElem?_append_left hi]
  let k:=pre.length
  let Inv:Array Bool→QS→Act→World→Prop:=fun L A a w=>∃m,m≤M∧SatA E A ⟨n,U1 (WM pre) env,own m,F,D⟩ a w∧
    (∀i d x,steps[i]? =some (d,x)→L.getD i false=true→Rd w A (a.tmps.getD d undef) x)∧
    (∀i o,l.toArray[i]? =some o→L.getD i false=true→∀e∈o.after,Region.binds .any e=true→L.getD e.on false=true)∧
    (∀i,pre.length≤i→L.getD i false=false)∧(∀i q:Nat,lv[i]? =some (some q)→(L.getD i false=true↔q<m))
  have hdone:∀fuel L A a w,L.size=l.toArray.size→tail.length≤fuel→(∀i,i<pre.length→L.getD i true=true)→Inv L A a w→wpAnyIn (XG E.rd) 0 P .any l.toArray (Wh E Q) fuel L a w:=by
    intro fuel L A a w hsz hf hall ⟨m,hmM,h1,h2,h3,h4,h5⟩
    have hall':∀i,i<pre.length→L.getD i false=true:=fun i hi=>by rw[← Uh (by omega)];exact hall i hi
    have hm':m=M:=by
      apply Nat.le_antisymm hmM
      apply Nat.le_of_not_lt
      intro hlt
      obtain⟨i,hi⟩:=hsur m (Nat.zero_le _) hlt
      have hil:i<pre.length:=by have:=(List.getElem?_eq_some_iff.1 hi).1;omega
      have:=(h5 i m hi).1 (hall' i hil)
      omega
    subst hm'
    refine Ec (k:=pre.length) (by simpa using ht) (by simpa using hbk) fuel pre.length L a w (Nat.le_refl _) (by omega) (by omega) hsz hall' h4 ?_
    have htl:l.toArray.toList.drop pre.length=tail:=by simp[hl]
    rw[htl]
    refine h a w ⟨A,h1.size,h1.defers,h1.keep,h1.hp,fun s x hl'=>?_,h1.facts⟩
    have hget:∀(l':List (Nat×AV)) (env':List (Nat×AV)),lk (l'++env') s=some x→(∃i:Nat,l'[i]? =some (s,x))∨lk env' s=some x:=by
      intro l' env'
      induction l' with
      |nil=>intro h;exact .inr h
      |cons p l' ih=>
        intro h
        obtain⟨j,y⟩:=p
        rcases WX h with ⟨rfl,rfl⟩|⟨_,h⟩
        · exact .inl ⟨0,rfl⟩
        · rcases ih h with ⟨i,hi⟩|h
          · exact .inl ⟨i+1,by simpa using hi⟩
          · exact .inr h
    rcases hget _ _ hl' with ⟨i,hi⟩|hl'
    · exact h2 i s x hi (hall' i (by have:=(List.getElem?_eq_some_iff.1 hi).1;omega))
    · exact h1.env s x hl'
  have key:∀fuel L A a w,L.size=l.toArray.size→Tp pre.length (fun i=>!L.getD i true)+tail.length≤fuel→Inv L A a w→wpAnyIn (XG E.rd) 0 P .any l.toArray (Wh E Q) fuel L a w:=by
    intro fuel
    induction fuel with
    |zero=>
      intro L A a w hsz hc hinv
      refine hdone 0 L A a w hsz (by omega) (fun i hi=>?_) hinv
      have h0:Tp pre.length (fun i=>!L.getD i true)=0:=by omega
      have:=List.countP_eq_zero.1 h0 i (by simpa using hi)
      simpa using this
    |succ fuel ih=>
      intro L A a w hsz hc hinv
      by_cases hall:∀i,i<pre.length→L.getD i true=true
      · exact hdone _ L A a w hsz (by omega) hall hinv
      have hinv':=hinv
      obtain⟨m,hmM,h1,h2,h3,h4,h5⟩:=hinv
      refine⟨fun hr=>?_,fun i hi=>?_⟩
      · exfalso
        apply hall
        intro i
        induction i using Nat.strongRecOn with
        |_ i ihi=>
          intro hlt
          cases hL:L.getD i true with
          |true=>rfl
          |false=>
            exfalso
            obtain⟨o,ho⟩:∃o,l.toArray[i]? =some o:=⟨_,Array.getElem?_eq_getElem (by omega)⟩
            have:i∈Region.ready .any l.toArray L:=Yr hsz ho hL fun e he hb=>by
              have hon:=Ym hbk (i:=i) (o:=o) (by simpa using ho) e he hb
              rw[← Uh (by omega)]
              exact ihi e.on (by omega) (by omega)
            rw[hr]at this
            cases this
      · obtain⟨hlt,o,ho,hunl,hdeps⟩:=Wb hi
        have hik:i<pre.length:=by
          apply Nat.lt_of_not_le
          intro hge
          apply hall
          intro j hj
          rw[Uh (by omega)]
          exact(Kq (k:=pre.length) (by simpa using ht) (by simpa using hbk) h3 ho hdeps hge).1 j hj
        have ho':pre[i]? =some o:=(hpre i o hik).1 ho
        have hunl':L.getD i false=false:=by rw[← Uh (by omega)];exact hunl
        have hcnt:Tp pre.length (fun j=>!(L.setIfInBounds i true).getD j true)+tail.length≤fuel:=by
          have:=Lv (fun i=>!L.getD i true) (fun j=>!(L.setIfInBounds i true).getD j true) i (fun j hj=>by rw[Uk _ _ _ (by omega),if_neg hj]) (by simp[hunl]) (by rw[Uk _ _ _ (by omega),if_pos rfl];rfl) pre.length
          rw[if_pos hik]at this
          omega
        have hclo:∀j o',l.toArray[j]? =some o'→(L.setIfInBounds i true).getD j false=true→∀e∈o'.after,Region.binds .any e=true→(L.setIfInBounds i true).getD e.on false=true:=by
          intro j o' ho2 hLj e he hb
          rw[Uk _ _ _ (by omega)]at hLj⊢
          split
          · rfl
          · by_cases hji:j=i
            · subst hji;rw[ho]at ho2;cases ho2;exact hdeps e he hb
            · rw[if_neg hji]at hLj;exact h3 j o' ho2 hLj e he hb
        have h4':∀j,pre.length≤j→(L.setIfInBounds i true).getD j false=false:=fun j hj=>by rw[Uk _ _ _ (by omega),if_neg (by omega)];exact h4 j hj
        have hsat:∀(env':List (Nat×AV)),NB o (steps.take i) (U1 (WM pre) env) env'→SatA E A ⟨n,env',own m,F,D⟩ a w:=by
          intro env' he
          refine⟨h1.size,h1.defers,h1.keep,h1.hp,fun s y hl=>?_,h1.facts⟩
          rcases he s y hl with ⟨j,hj,hp⟩|h
          · obtain⟨e,he,hb,hon⟩:=WG hj (List.mem_singleton.2 rfl)
            have hLj:=hdeps e he hb
            rw[hon]at hLj
            refine h2 j s y ?_ hLj
            rw[List.getElem?_take]at hp
            split at hp
            · exact hp
            · cases hp
          · exact h1.env s y h
        -- a slot of another operation
        have hother:∀j d' x',steps[j]? =some (d',x')→j≠i→∀d,o.dst=some d→d<n→d≠d':=by
          intro j d' x' hj hji d hd hdn hdd
          subst hdd
          have hjlt:j<pre.length:=by have:=(List.getElem?_eq_some_iff.1 hj).1;omega
          obtain⟨oj,hoj⟩:∃oj,pre[j]? =some oj:=⟨_,List.getElem?_eq_getElem hjlt⟩
          rcases hst j oj hoj with ⟨_,dj,xj,_,hsj,hdj,_⟩|⟨_,_,_,hsj,_⟩
          · rw[hsj]at hj;cases hj
            exact hji (Y3 hnd hoj ho' hdj hd)
          · rw[hsj]at hj
            have h7:=(Prod.mk.inj (Option.some.inj hj)).1
            exact absurd hdn (by rw[← h7];exact Nat.not_lt.2 (Nat.le_add_right _ _))
        rcases hst i o ho' with ⟨hlv,d,x,env',hsx,hd,hdn,hds,hstep⟩|⟨q,env',hlv,hsx,hd,hg,hds,hstep,hq0,hqp⟩
        · have hput:∀(v:Value) (w':World) (A':QS),Frm w A w' A'→SatA E A' ⟨n,env',own m,F,D⟩ a w'→Rd w' A' v x→
              wpAnyIn (XG E.rd) 0 P .any l.toArray (Wh E Q) fuel (L.setIfInBounds i true) (a.put o.dst v) w':=by
            intro v w' A' hf hs' hv
            refine ih _ A' _ w' (by simpa using hsz) hcnt ⟨m,hmM,⟨?_,by rw[hd];exact hs'.defers,hs'.keep,hs'.hp,fun s y hl=>?_,hs'.facts⟩,fun j d' x' hj hLj=>?_,hclo,h4',fun j q hjq=>?_⟩
            · have:=hs'.size;simp only[Act.put,hd,Array.size_setIfInBounds];exact this
            · rw[hd]
              have hne:d≠s:=by
                intro hds'
                subst hds'
                have:=(WK (fun k=>!((WM pre).any (Nat.beq k))) env d y hl).2
                simp only[Bool.not_eq_true']at this
                have hm:=List.any_eq_false.1 this d (GY ho' hd)
                simp at hm
              rw[WC hne]
              exact hf _ _ (h1.env s y hl)
            · rw[Uk _ _ _ (by omega)]at hLj
              by_cases hji:j=i
              · subst hji
                rw[hsx]at hj;cases hj
                rw[hd,Wr (by have:=hs'.size;simp only at this;rw[this];exact hdn)]
                exact hv
              · rw[if_neg hji]at hLj
                rw[hd,WC (hother j d' x' hj hji d hd hdn)]
                exact hf _ _ (h2 j d' x' hj hLj)
            · rw[Uk _ _ _ (by omega)]
              by_cases hji:j=i
              · subst hji;rw[hlv]at hjq;cases hjq
              · rw[if_neg hji];exact h5 j q hjq
          have hs:=hstep m hmM A a w (hsat env' hds) (wpAnyIn (XG E.rd) 0 P .any l.toArray (Wh E Q) fuel (L.setIfInBounds i true)) (Wh E Q) hput
          unfold wpOpIn
          simp only[ho]
          split
          · rename_i hw;rw[if_pos hw]at hs;exact hs
          · rename_i hw;rw[if_neg hw]at hs;exact⟨fun _ _=>trivial,hs⟩
        · -- one that turns what is owned: it is its turn
          have hqM:=(hlq i q hlv).2
          have hmq:m=q:=by
            have h6:¬q<m:=fun h=>by have:=(h5 i q hlv).2 h;rw[hunl']at this;cases this
            by_cases hq:0<q
            · obtain⟨k',hk',hd'⟩:=hqp hq
              obtain⟨e,he,hb,hon⟩:=WG hd' (List.mem_singleton.2 rfl)
              have:=hdeps e he hb
              rw[hon]at this
              have:=(h5 k' (q-1) hk').1 this
              omega
            · omega
          subst hmq
          have hs:=hstep A a w (hsat env' hds) (wpAnyIn (XG E.rd) 0 P .any l.toArray (Wh E Q) fuel (L.setIfInBounds i true)) (Wh E Q) (by
            intro w' A' hf hs'
            refine ih _ A' _ w' (by simpa using hsz) hcnt ⟨m+1,hqM,⟨hs'.size,hs'.defers,hs'.keep,hs'.hp,fun s y hl=>hf _ _ (h1.env s y hl),hs'.facts⟩,fun j d' x' hj hLj=>?_,hclo,h4',fun j q hjq=>?_⟩
            · rw[Uk _ _ _ (by omega)]at hLj
              by_cases hji:j=i
              · subst hji
                rw[hsx]at hj;cases hj
                have:a.tmps.getD (n+j) undef=undef:=by
                  have:=h1.size
                  simp only at this
                  simp[Array.getD_eq_getD_getElem?,Array.getElem?_eq_none,this]
                rw[this]
                exact .c _
              · rw[if_neg hji]at hLj
                exact hf _ _ (h2 j d' x' hj hLj)
            · rw[Uk _ _ _ (by omega)]
              by_cases hji:j=i
              · subst hji;rw[hlv]at hjq;cases hjq;simp
              · rw[if_neg hji,h5 j q hjq]
                have:q≠m:=fun he=>hji (hinj j i m (he▸hjq) hlv)
                omega)
          unfold wpOpIn
          simp only[ho]
          rw[if_pos (by simp[Region.wanted,hg])]
          exact hs
  refine wpIn_region_any hm (key l.toArray.size _ A₀ a₀ _ (by simp) ?_ ⟨0,Nat.zero_le _,⟨hA₀.size,hA₀.defers,hA₀.draw.keep,hA₀.hp.draw,fun s y hl=>?_,fun p hp=>?_⟩,fun i d x hi hL=>?_,fun i o ho hL=>?_,fun i _=>?_,fun i q hq=>?_⟩)
  · have:Tp pre.length (fun i=>!(Array.replicate l.toArray.size false).getD i true)≤pre.length:=Nat.le_trans List.countP_le_length (by simp)
    omega
  · exact(hA₀.draw.env s y (WK (fun k=>!((WM pre).any (Nat.beq k))) env s y hl).1)
  · exact hA₀.draw.facts p hp
  · simp only[Array.getD_eq_getD_getElem?,Array.getElem?_replicate]at hL;split at hL<;>simp at hL
  · simp only[Array.getD_eq_getD_getElem?,Array.getElem?_replicate]at hL;split at hL<;>simp at hL
  · simp only[Array.getD_eq_getD_getElem?,Array.getElem?_replicate];split<;>simp
  · simp only[Array.getD_eq_getD_getElem?,Array.getElem?_replicate];split<;>simp
end

end
section
/- Slices: what is built and appended. -/
def WU(P:Program)(et:TypeId)(e:U7):Bool:=match P.info? et with
  |some i=>Nat.beq i.size e.sz&&Nat.beq i.bytes e.bytes&&(match i.zero with|some z=>Nat.beq z.cells.size e.sz&&z.cells.toList.all (·.oneCell')|none=>false)
  |none=>false
theorem Y5{P:Program}{et:TypeId}{e:U7}(h:WU P et e=true):∃i z,P.info? et=some i∧i.size=e.sz∧i.bytes=e.bytes∧i.zero=some z∧z.cells.size=e.sz∧z.cells.toList.all (·.oneCell')=true:=by
  unfold WU at h
  split at h
  · rename_i i hi
    simp only[Bool.and_eq_true]at h
    obtain⟨⟨h1,h2⟩,h3⟩:=h
    split at h3
    · rename_i z hz
      rw[Bool.and_eq_true]at h3
      exact⟨i,z,hi,Nat.eq_of_beq_eq_true h1,Nat.eq_of_beq_eq_true h2,hz,Nat.eq_of_beq_eq_true h3.1,h3.2⟩
    · cases h3
  · cases h
theorem K1{z:Array Value}{n:Nat}(hz:z.toList.all (·.oneCell')=true):∀u∈Builtin.zeroCells z n,u.oneCell'=true:=by
  intro u hu
  unfold Builtin.zeroCells at hu
  simp only[Array.mem_map,Array.mem_range]at hu
  obtain⟨i,hi,rfl⟩:=hu
  have h0:0<z.size:=by
    rcases Nat.eq_zero_or_pos z.size with h|h
    · rw[h,Nat.mul_zero]at hi;exact absurd hi (Nat.not_lt_zero _)
    · exact h
  have hlt:=Nat.mod_lt i h0
  rw[getElem!_pos z (i%z.size) hlt]
  exact(List.all_eq_true.1 hz) _ (by simp)
theorem Cells.ones{w:World}{A:QS}{us:List Value}{ys:List AV}(h:Cells w A us.toArray 0 ys)(hl:us.length=ys.length):∀u∈us,u.oneCell'=true:=by
  intro u hu
  obtain⟨k,hk,rfl⟩:=List.getElem_of_mem hu
  obtain⟨u',h1,h0,_⟩:=h k _ (List.getElem?_eq_getElem (by omega))
  rw[Nat.zero_add]at h1
  simp only[List.getElem?_toArray,List.getElem?_eq_getElem hk,Option.some.injEq]at h1
  rw[h1];exact h0
theorem KJ{olds news:List Value}{z:Array Value}{n m:Nat}(h:((olds++news).toArray++Builtin.zeroCells z n).size=m)(ho:∀u∈olds,u.oneCell'=true)(hn:∀u∈news,u.oneCell'=true)(hz:z.toList.all (·.oneCell')=true):
    RowOf ((olds++news).toArray++Builtin.zeroCells z n) m:=⟨h,fun k u hk=>by
  have hm:=Array.mem_of_getElem? hk
  rcases Array.mem_append.1 hm with hm|hm
  · rcases List.mem_append.1 (by simpa using hm)with hm|hm
    · exact ho u hm
    · exact hn u hm
  · exact K1 hz u hm⟩
section
variable {P:Program} {E:Wy} {Q:Exit→St→Prop} {n:Nat} {env:List (Nat×AV)} {own:List Own} {F:List (Value×AV)} {D:List Deferred} {ops:Array Oper} {rest:List Oper}
variable {A:QS} {a:Act} {w w':World} {t tx et ty:TypeId} {pos:String} {af:Array Edge} {d:Nat} {s x y:Operand}
def SrcA(P:Program)(w:World)(A:QS)(tx:TypeId)(x:Value)(e:U7)(ys:List (List AV)):Prop:=
  ∃news,Src P e.sz tx x ys.length news w∧Cells w A news.toArray 0 ys.flatten∧∀y∈ys,y.length=e.sz
theorem QE{α:Type}{sz:Nat}:∀(xs:List (List α)),(∀x∈xs,x.length=sz)→xs.flatten.length=xs.length*sz
  |[],_=>by simp
  |a::xs,h=>by
    have ha:a.length=sz:=h a (by simp)
    simp only[List.flatten_cons,List.length_append,List.length_cons,QE xs (fun x hx=>h x (by simp[hx])),ha,Nat.succ_mul]
    omega
theorem SrcA.sl{e':TypeId}(hU:P.underlying tx=some (.slice e')){v:Value}{fr clip:Bool}{e:U7}{ys:List (List AV)}(h:Rd w A v (.sl fr clip e ys)):SrcA P w A tx v e ys:=by
  obtain⟨a',cap,hv,_,hle,hc⟩:=h.of_sl
  rcases hc with rfl|⟨b,off,cs,t',fz,rfl,hA,hb,hsz,_,hc⟩
  · subst hv
    refine⟨[],?_,fun k y hk=>by simp at hk,fun y hy=>by cases hy⟩
    cases a' with
    |none=>exact Src.ofNil w hU cap
    |some a'=>exact Src.ofSlice w hU a' 0 cap [] (by simp) (fun j u hj=>by simp at hj) (fun u hu=>by cases hu)
  · subst hv
    have hcell:∀k y,ys.flatten[k]? =some y→(cs[off+k]? =some (cs.getD (off+k) undef)∧(cs.getD (off+k) undef).oneCell'=true)∧Rd w A (cs.getD (off+k) undef) y:=fun k y hk=>by
      obtain⟨u,h1,h0,h2⟩:=hc k y hk
      have:cs.getD (off+k) undef=u:=by simp[Array.getD_eq_getD_getElem?,h1]
      rw[this];exact⟨⟨h1,h0⟩,h2⟩
    have hlen:=QE ys hsz
    have hget:∀k u,((List.range (ys.length*e.sz)).map fun k=>cs.getD (off+k) undef)[k]? =some u→k<ys.length*e.sz∧u=cs.getD (off+k) undef:=fun k u hk=>by
      rw[List.getElem?_map]at hk
      by_cases hlt:k<ys.length*e.sz
      · rw[List.getElem?_range hlt]at hk;cases hk;exact⟨hlt,rfl⟩
      · rw[List.getElem?_eq_none (by simpa using hlt)]at hk;cases hk
    have hall:∀k,k<ys.length*e.sz→∃y,ys.flatten[k]? =some y:=fun k hk=>⟨_,List.getElem?_eq_getElem (by omega)⟩
    refine⟨(List.range (ys.length*e.sz)).map fun k=>cs.getD (off+k) undef,Src.ofSlice w hU ⟨b,off,none⟩ ys.length cap _ (by simp) (fun j u hj=>?_) (fun u hu=>?_),fun k y hk=>?_,hsz⟩
    · obtain⟨h1,rfl⟩:=hget j u hj
      obtain⟨y,hy⟩:=hall j h1
      rw[Wv,Xy hb];exact(hcell j y hy).1.1
    · obtain⟨j,hj⟩:=List.getElem?_of_mem hu
      obtain⟨h1,rfl⟩:=hget j u hj
      obtain⟨y,hy⟩:=hall j h1
      exact(hcell j y hy).1.2
    · have hlt:k<ys.length*e.sz:=by rw[← hlen];exact(List.getElem?_eq_some_iff.1 hk).1
      refine⟨cs.getD (off+k) undef,?_,(hcell k y hk).1.2,(hcell k y hk).2⟩
      rw[Nat.zero_add]
      simp[hlt]
theorem KE{α β:Type}(f:α→β):∀l:List α,(l.map fun b=>[f b]).flatten=l.map f
  |[]=>rfl
  |b::l=>by simp only[List.map_cons,List.flatten_cons,List.singleton_append,KE f l]
theorem Hp.moved{n0:Nat}{fp0:List Nat}{A0:QS}(h:Hp n0 fp0 A0 own w A)(hn:n0≤w.heap.size){i:Nat}{o o':Own}{ob:Obj}(hi:own[i]? =some o)(hfp:o'.fp=[w.heap.size])(ho:o'.ok (QH w ob) A):
    Hp n0 fp0 A0 (own.set i o') (QH w ob) A:=by
  have hp:=h.perm (Ys hi)
  have h1:Hp n0 fp0 A0 (own.eraseIdx i) w A:=by
    have:Hp n0 fp0 A0 (own.eraseIdx i++[o]) w A:=hp.perm (by simpa using (List.perm_append_singleton o (own.eraseIdx i)).symm)
    exact this.left
  have h2:=h1.push hn (o:=o') (ob:=ob) hfp ho
  refine h2.perm ?_
  have hlt:=(List.getElem?_eq_some_iff.1 hi).1
  have hs:(own.set i o')[i]? =some o':=by simp[hlt]
  have:=Ys hs
  rw[List.eraseIdx_set_eq]at this
  exact this.symm
theorem G4(w:World)(o:Obj):w.drew.alloc o=QH (Q9 w) o:=rfl
theorem Um{v z:Value}{v':Value}(hs:a.eval s=v)(hx:a.eval x=z)(h:(Builtin.append_ #[t,tx] ty #[v,z]).run P w=.ok v' w')(dd:Option Tmp)(gd:Option (Nat×Bool)):
    (execOp a.eval ⟨dd,.call ⟨.builtin .append,#[s,x],#[t,tx]⟩,ty,pos,af,gd⟩).run P w=.ok (.value v') w':=by
  simp[execOp,resolve,invoke,builtin,hs,hx,h,Result.andThen]
theorem JL.append(i:Nat){v:Value}{e:U7}{xs ys:List (List AV)}(hU:P.underlying t=some (.slice et))(hE:WU P et e=true)(hb0:Nat.blt 0 e.bytes=true)(hsv:Ev E ⟨n,env,own,F,D⟩ s (.c v))
    (ho:own[i]? =some (.arr v e xs)) (hx:∀A a w,SatA E A ⟨n,env,own,F,D⟩ a w→SrcA P w A tx (a.eval x) e ys) (hreach:(xs.length+ys.length)*e.bytes≤Qr) (hd:Nat.blt d n=true)
    (h:∀v',JL P E ops rest ⟨n,(d,.c v')::env,own.set i (.arr v' e (xs++ys)),F,D⟩ Q):
    JL P E ops (⟨some d,.call ⟨.builtin .append,#[s,x],#[t,tx]⟩,ty,pos,af,none⟩::rest) ⟨n,env,own,F,D⟩ Q:=fun a w ⟨A,hA⟩=>by
  refine wpListIn_plain rfl fun K hK=>?_
  refine Hd (by intro c h;cases h) ?_
  unfold Oper.wp
  obtain⟨ti,tz,hi,hsz,hby,hz,hzs,hz1⟩:=Y5 hE
  obtain⟨news,hsrc,hnc,hyl⟩:=hx A a w hA
  rw[← hsz]at hsrc
  have hb1:1≤e.bytes:=Ui hb0
  have hneed:xs.length+ys.length≤Qr:=Nat.le_trans (Nat.le_mul_of_pos_right _ hb1) hreach
  unfold Qr at hneed hreach
  have hnl:news.length=ys.flatten.length:=by rw[hsrc.newsLen,hsz,QE ys hyl]
  have h63:((xs.length+ys.length:Nat):Int)≤9223372036854775807:=by omega
  have hfit:∀sCap,sCap<xs.length+ys.length→Builtin.nextslicecap (xs.length+ys.length) sCap*ti.bytes≤281474976710656:=fun sCap hlt=>growslice_fits hlt (by rw[hby];omega)
  have hgw:∀fr b,A fr b→b<w.heap.size→∀o,(QH (Q9 w) o).heap[b]? =w.heap[b]? :=fun fr b _ hlt o=>(Keep.push [] (Q9 w) o).block b hlt (by simp)
  -- a new row
  have grow:∀(base:Option Addr) (sCap:Nat) (olds:List Value),v=.slice base xs.length sCap→(Builtin.firstCells ti.size xs.length (.slice base xs.length sCap)).run P w.drew=.ok olds.toArray w.drew→
      olds.length=xs.flatten.length→(∀x∈xs,x.length=e.sz)→Cells w A olds.toArray 0 xs.flatten→sCap<xs.length+ys.length→
      Oper.wp P ⟨some d,.call ⟨.builtin .append,#[s,x],#[t,tx]⟩,ty,pos,af,none⟩ a w K (Wh E Q):=by
    intro base sCap olds hv hold hol hxl hoc hlt
    have hr:=run_append_grow_src (P:=P) w t tx ty et ti tz hU hi hz base xs.length sCap olds hold (a.eval x) ys.length news hsrc hlt h63 (hfit _ hlt)
    have hge:=grownCap_ge w (xs.length+ys.length) sCap et
    unfold Oper.wp
    rw[Um (hsv.eq hA) rfl (by rw[hv];exact hr),Oper.upon_value,G4]
    refine hK _ _ (h _ _ _ ⟨A,SatA.put ?_ (Ui hd) (.c _)⟩)
    have hd':=hA.draw
    obtain⟨cap,hcap⟩:∃cap,grownCap w (xs.length+ys.length) sCap et=cap+1:=⟨grownCap w (xs.length+ys.length) sCap et-1,by omega⟩
    have hxy:(xs++ys).length=xs.length+ys.length:=by simp
    refine hd'.step (.push _ _ _) (fun _ _ h=>h) (hd'.hp.moved hd'.keep.size ho (o':=.arr _ e (xs++ys)) ?_ (.inr ⟨w.heap.size,cap,_,et,by rw[hxy,hcap],Ya _ _,by omega,?_,?_,?_⟩))
    · rw[hcap];rfl
    · refine KJ ?_ (hoc.ones hol) hsrc.one hz1
      have hol':=QE xs hxl
      have hyl':=QE ys hyl
      simp only[Array.size_append,List.size_toArray,List.length_append,size_zeroCells,hzs,hol,hnl,hol',hyl',hcap]
      rw[← Nat.add_mul,← Nat.add_mul]
      congr 1;omega
    · intro z hz'
      rcases List.mem_append.1 hz' with hz'|hz'
      · exact hxl z hz'
      · exact hyl z hz'
    · rw[List.flatten_append]
      intro k y hk
      rw[Nat.zero_add]
      by_cases hk1:k<xs.flatten.length
      · rw[List.getElem?_append_left hk1]at hk
        obtain⟨u,h1,h0,h2⟩:=hoc k y hk
        refine⟨u,?_,h0,h2.move (fun _ _ h _=>h) fun fr b hb hlt=>hgw fr b hb hlt _⟩
        rw[Nat.zero_add]at h1
        rw[Array.getElem?_append_left (by simp;omega)]
        simp only[List.getElem?_toArray]at h1⊢
        rw[List.getElem?_append_left (by omega)];exact h1
      · rw[List.getElem?_append_right (by omega)]at hk
        have hk2:=(List.getElem?_eq_some_iff.1 hk).1
        obtain⟨u,h1,h0,h2⟩:=hnc _ y hk
        refine⟨u,?_,h0,h2.move (fun _ _ h _=>h) fun fr b hb hlt=>hgw fr b hb hlt _⟩
        rw[Nat.zero_add]at h1
        rw[Array.getElem?_append_left (by simp;omega)]
        simp only[List.getElem?_toArray]at h1⊢
        rw[List.getElem?_append_right (by omega),hol];exact h1
  rcases hA.arr i ho with ⟨a0,hv,hxs⟩|⟨b,cap,us,t',hv,hb,hle,hus,hxl,hc⟩
  · subst hxs
    by_cases hys:ys=[]
    · subst hys
      have hn0:news=[]:=List.eq_nil_of_length_eq_zero (by simpa using hnl)
      subst hn0
      have hc0:(Builtin.firstCells ti.size 0 (a.eval x)).run P w=.ok #[] w:=by simpa using hsrc.cells
      have hr:(Builtin.append_ #[t,tx] ty #[v,a.eval x]).run P w=.ok v w:=by
        rcases hsrc.kind with ⟨e',hk⟩|hk<;>cases a0<;>simp[hv,Builtin.append_,Qq _ hU,Qq _ hk,sizeOf,typeInfo,hi,hsrc.len,hc0,storeCells]
      rw[Um (hsv.eq hA) rfl hr,Oper.upon_value]
      refine hK _ _ (h v _ _ ⟨A,SatA.put ?_ (Ui hd) (.c _)⟩)
      have:own.set i (.arr v e ([]++[]))=own:=by
        have hlt:=(List.getElem?_eq_some_iff.1 ho)
        apply List.ext_getElem?
        intro k
        rw[List.getElem?_set]
        split
        · rename_i hik;subst hik;rw[if_pos hlt.1,ho];rfl
        · rfl
      rw[this];exact hA
    · have:0<ys.length:=List.length_pos_iff.2 hys
      refine grow a0 0 [] hv ?_ (by simp) (fun x hx=>by cases hx) (fun k y hk=>by simp at hk) (by simp;omega)
      cases a0 with
      |none=>exact run_firstCells_none w.drew ti.size 0 0 0
      |some a'=>exact run_firstCells_some w.drew ti.size 0 a' 0 0 [] (by simp) (by intro _ _ h';simp at h')
  · have hfl:=QE xs hxl
    by_cases hroom:xs.length+ys.length≤cap+1
    · -- in place
      have hml:xs.length*e.sz+news.length≤us.size:=by rw[hsrc.newsLen,hsz,hus.size,← Nat.add_mul];exact Nat.mul_le_mul_right _ hroom
      obtain⟨w1,us1,hr1,hk1,hz1,hb1,hs1,hu1⟩:=WB (P:=P) (off:=xs.length*e.sz) news 0 us w hb (by simpa using hml) (List.all_eq_true.2 hsrc.one)
      have hr:(Builtin.append_ #[t,tx] ty #[v,a.eval x]).run P w=.ok (.slice (some ⟨b,0,none⟩) (xs.length+ys.length) (cap+1)) w1:=by
        rw[← hsz]at hr1
        rcases hsrc.kind with ⟨e',hk⟩|hk<;>simp[hv,Builtin.append_,Qq _ hU,Qq _ hk,sizeOf,typeInfo,hi,hsrc.len,hroom,hsrc.cells,Wv,hr1]
      rw[Um (hsv.eq hA) rfl hr,Oper.upon_value]
      refine hK _ _ (h _ _ _ ⟨A,SatA.put ?_ (Ui hd) (.c _)⟩)
      have hmem:=List.mem_of_getElem? ho
      have hof:(Own.arr v e xs).fp=[b]:=by rw[hv];rfl
      have hfp:∀fr c,A fr c→c<w.heap.size→w1.heap[c]? =w.heap[c]? :=fun fr c hc hlt=>hk1.block c hlt fun hm'=>by
        exact(hA.hp.fp c (Ur hmem (by rw[hof];exact hm'))).2.2 fr hc
      refine hA.step (hk1.mono fun c hc=>Ur hmem (by rw[hof];exact hc)) (fun _ _ h=>h) (hA.hp.upd (o':=.arr (.slice (some ⟨b,0,none⟩) (xs.length+ys.length) (cap+1)) e (xs++ys)) ho (by rw[hof];rfl) (by rw[hof];exact hk1) hz1
        (.inr ⟨b,cap,us1,t',by simp,hb1,by simpa using hroom,⟨by rw[hs1,hus.size],fun k u hk=>by
          rw[hu1 k]at hk
          split at hk
          · exact hsrc.one u (List.mem_of_getElem? hk)
          · exact hus.one k u hk⟩,fun z hz'=>?_,?_⟩))
      · rcases List.mem_append.1 hz' with hz'|hz'
        · exact hxl z hz'
        · exact hyl z hz'
      · rw[List.flatten_append]
        intro k y hk
        rw[Nat.zero_add,hu1 k]
        by_cases hk1':k<xs.flatten.length
        · rw[List.getElem?_append_left hk1']at hk
          obtain⟨u,h1,h0,h2⟩:=hc k y hk
          rw[Nat.zero_add]at h1
          exact⟨u,by rw[if_neg (by omega)];exact h1,h0,h2.move (fun _ _ h _=>h) hfp⟩
        · rw[List.getElem?_append_right (by omega)]at hk
          have hk2:=(List.getElem?_eq_some_iff.1 hk).1
          obtain⟨u,h1,h0,h2⟩:=hnc _ y hk
          rw[Nat.zero_add,List.getElem?_toArray]at h1
          refine⟨u,?_,h0,h2.move (fun _ _ h _=>h) hfp⟩
          rw[if_pos (by omega),← h1,hfl,Nat.add_zero]
    · have hcu:∀k,k<xs.flatten.length→us[k]? =some (us.getD k undef):=fun k hk=>by
        obtain⟨u,h1,_,_⟩:=hc k _ (List.getElem?_eq_getElem hk)
        rw[Nat.zero_add]at h1
        simp[Array.getD_eq_getD_getElem?,h1]
      have hget:∀k u,((List.range (xs.length*e.sz)).map fun k=>us.getD k undef)[k]? =some u→k<xs.length*e.sz∧u=us.getD k undef:=fun k u hk=>by
        rw[List.getElem?_map]at hk
        by_cases hlt:k<xs.length*e.sz
        · rw[List.getElem?_range hlt]at hk;cases hk;exact⟨hlt,rfl⟩
        · rw[List.getElem?_eq_none (by simpa using hlt)]at hk;cases hk
      refine grow (some ⟨b,0,none⟩) (cap+1) ((List.range (xs.length*e.sz)).map fun k=>us.getD k undef) hv ?_ (by rw[hfl];simp) hxl (fun k y hk=>?_) (by omega)
      · refine run_firstCells_some w.drew ti.size xs.length ⟨b,0,none⟩ xs.length (cap+1) _ (by rw[hsz];simp) fun j u hj=>?_
        obtain⟨h1,rfl⟩:=hget j u hj
        have:w.drew.heap[b]? =some (.cells us t' (0,0)):=hb
        rw[Wv,Xy this,Nat.zero_add]
        exact hcu j (by omega)
      · obtain⟨u,h1,h0,h2⟩:=hc k y hk
        have hlt:k<xs.length*e.sz:=by rw[← hfl];exact(List.getElem?_eq_some_iff.1 hk).1
        rw[Nat.zero_add]at h1⊢
        exact⟨u,by simp[hlt,Array.getD_eq_getD_getElem?,h1],h0,h2⟩
end

end
section
/- What is built of parts: structs, arrays, slices. -/
def Xg(place:Nat→Option (Nat×Nat))(cs:List AV):List (Nat×List AV)→Option (List AV)
  |[]=>some cs
  |(i,z)::rest=>match place i with
    |none=>none
    |some (off,sz)=>match Nat.beq z.length sz&&Nat.ble (off+z.length) cs.length with
      |true=>Xg place (Q1 cs off z) rest
      |false=>none
section
variable {P:Program} {E:Wy} {st:St} {Q:Exit→St→Prop} {n:Nat} {env:List (Nat×AV)} {own:List Own} {F:List (Value×AV)} {D:List Deferred} {ops:Array Oper} {rest:List Oper}
variable {A:QS} {a:Act} {w w':World} {t et ty:TypeId} {pos:String} {af:Array Edge} {d:Nat} {gd:Option (Nat×Bool)} {dd:Option Tmp}
inductive PartsR(w:World)(A:QS):List (Nat×Value)→List (Nat×List AV)→Prop
  |nil:PartsR w A [] []
  |cons {i:Nat} {v:Value} {z:List AV} {vs:List (Nat×Value)} {zs:List (Nat×List AV)} (hl:v.cells.toList.length=z.length) (h1:v.cells.toList.all (·.oneCell')=true) (hc:Cells w A v.cells.toList.toArray 0 z) (h:PartsR w A vs zs):
      PartsR w A ((i,v)::vs) ((i,z)::zs)
theorem Nc(off:Nat):∀(l:List Value) (i:Nat) (cs:Array Value),off+i+l.length≤cs.size→
    ((l.zipIdx i).foldl (fun cs p=>cs.setIfInBounds (off+p.2) p.1) cs).size=cs.size∧
    ∀k,((l.zipIdx i).foldl (fun cs p=>cs.setIfInBounds (off+p.2) p.1) cs)[k]? =if off+i≤k∧k<off+i+l.length then l[k-(off+i)]? else cs[k]?
  |[],i,cs,_=>⟨rfl,fun k=>by rw[if_neg (by simp)];rfl⟩
  |v::l,i,cs,hl=>by
    simp only[List.length_cons]at hl
    obtain⟨h1,h2⟩:=Nc off l (i+1) (cs.setIfInBounds (off+i) v) (by simp;omega)
    simp only[List.zipIdx_cons,List.foldl_cons]
    refine⟨by rw[h1];simp,fun k=>?_⟩
    rw[h2 k]
    simp only[List.length_cons]
    by_cases hk:k=off+i
    · subst hk
      rw[if_neg (by omega),if_pos (by omega)]
      simp[show off+i<cs.size by omega]
    · by_cases h3:off+(i+1)≤k∧k<off+(i+1)+l.length
      · rw[if_pos h3,if_pos (by omega),show k-(off+i)=(k-(off+(i+1)))+1 by omega];simp
      · rw[if_neg h3,if_neg (by omega)]
        rw[Array.getElem?_setIfInBounds_ne (by omega)]
theorem GH(place:Nat→Option (Nat×Nat)):∀{parts:List (Nat×Value)} {zs:List (Nat×List AV)},PartsR w A parts zs→∀{cs:Array Value} {ys ys':List AV},cs.size=ys.length→Cells w A cs 0 ys→Xg place ys zs=some ys'→
    ∃cs',Instr.fill place cs parts=some cs'∧cs'.size=ys'.length∧Cells w A cs' 0 ys'
  |_,_,.nil,cs,ys,ys',hs,hc,h=>by
    simp only[Xg,Option.some.injEq]at h;subst h
    exact⟨cs,rfl,hs,hc⟩
  |_,_,.cons (i:=i) (v:=v) (z:=z) (vs:=vs) (zs:=zs) hl h1 hcz hrec,cs,ys,ys',hs,hc,h=>by
    unfold Xg at h
    cases hp:place i with
    |none=>simp[hp]at h
    |some p=>
      obtain⟨off,sz⟩:=p
      simp only[hp]at h
      split at h
      · rename_i hb
        simp only[Bool.and_eq_true]at hb
        have hz:=Nat.eq_of_beq_eq_true hb.1
        have ho:=Nat.le_of_ble_eq_true hb.2
        have hvl:v.cells.size=z.length:=by rw[← hl];simp
        have hfold:v.cells.zipIdx.foldl (fun cs (c,j)=>cs.setIfInBounds (off+j) c) cs=(v.cells.toList.zipIdx 0).foldl (fun cs p=>cs.setIfInBounds (off+p.2) p.1) cs:=by
          rw[← Array.foldl_toList,Array.toList_zipIdx]
        obtain⟨f1,f2⟩:=Nc off v.cells.toList 0 cs (by rw[Nat.add_zero,hl];omega)
        simp only[Nat.add_zero]at f2
        obtain⟨cs',r1,r2,r3⟩:=GH place hrec (cs:=(v.cells.toList.zipIdx 0).foldl (fun cs p=>cs.setIfInBounds (off+p.2) p.1) cs) (by rw[f1,hs,QG ho]) (hc.spliced hcz hl ho f2) h
        refine⟨cs',?_,r2,r3⟩
        unfold Instr.fill
        simp only[hp]
        rw[if_neg (by simp;omega),hfold]
        exact r1
      · cases h
theorem PartsR.of{idx:List Nat}{l:List Operand}{zs:List AV}(hA:SatA E A st a w)(hl:EvL E st l zs)(hp:zs.all AV.plain=true)(hi:idx.length=l.length):
    PartsR w A ((idx.zip l).map fun p=>(p.1,a.eval p.2)) (idx.zip (zs.map AV.cellsOf)):=by
  induction hl generalizing idx with
  |nil=>cases idx<;>first|exact .nil|simp at hi
  |cons h hs ih=>
    cases idx with
    |nil=>simp at hi
    |cons i idx=>
      simp only[List.all_cons,Bool.and_eq_true]at hp
      obtain⟨h1,h2,h3⟩:=(h A a w hA).cellsOf hp.1
      exact .cons h1 h2 h3 (ih hp.2 (by simpa using hi))
def US(P:Program)(t:TypeId):Option (List (Nat×Nat)):=match P.underlying t with
  |some (.struct fields)=>fields.toList.mapM (fun f=>(P.info? f.type).map fun i=>(f.offset,i.size))
  |_=>none
def arrOf(P:Program)(t:TypeId):Option Nat:=match P.underlying t with
  |some (.array _ e)=>(P.info? e).map (·.size)
  |_=>none
theorem Ly{vs:List Value}(hz:QO P t=some vs):∃i zv,P.info? t=some i∧i.zero=some zv∧zv.cells.toList=vs:=by
  unfold QO at hz
  cases hi:P.info? t with
  |none=>rw[hi]at hz;cases hz
  |some i=>
    rw[hi]at hz
    cases hzz:i.zero with
    |none=>simp[hzz]at hz
    |some zv=>exact⟨i,zv,rfl,hzz,by simpa[hzz]using hz⟩
theorem QW.build{pl:List (Nat×Nat)}{zc:List Value}{idx:List Nat}{l:List Operand}{zs ys:List AV}{parts:Array (Nat×Operand)}(hP:US P t=some pl)(hz:QO P t=some zc)(hz1:zc.all (·.oneCell')=true)
    (hl:EvL E st l zs) (hparts:parts=(idx.zip l).toArray) (hp:zs.all AV.plain=true) (hi:idx.length=l.length) (hf:Xg (pl.toArray[·]?) (zc.map AV.c) (idx.zip (zs.map AV.cellsOf))=some ys):
    QW P E st ⟨dd,.build t parts,ty,pos,af,gd⟩ (.agg ys):=.pure fun A a w hs=>by
  obtain⟨ti,zv,h1,h2,h3⟩:=Ly hz
  obtain⟨cs',r1,r2,r3⟩:=GH (pl.toArray[·]?) (PartsR.of hs hl hp hi) (cs:=zv.cells) (ys:=zc.map AV.c) (by rw[← Array.length_toList,h3,List.length_map]) (by
    have:=Cells.const (w:=w) (A:=A) hz1
    rw[← h3]at this⊢
    rwa [Array.toArray_toList]at this) hf
  refine⟨.agg cs',?_,.mk_agg r2 r3⟩
  have hb:P.built t ((parts.map fun(i,x)=>(i,a.eval x)).toList)=some cs':=by
    unfold Program.built
    unfold US at hP
    cases hu:P.underlying t with
    |none=>simp[hu]at hP
    |some td=>
      cases td<;>try (simp[hu]at hP;done)
      simp only[hu]at hP
      simp only[h1,h2,hP]
      rw[← r1,hparts]
      simp
  simp only[execOp,Sem.run_bind,run_build w t _ _ hb,Result.andThen_ok,Sem.run_pure]
theorem SatA.fresh(hA:SatA E A st a w){cs:Array Value}{ys:List AV}(hs:cs.size=ys.length)(hc:Cells w A cs 0 ys):
    ∃A',SatA E A' st a (QH w (.cells cs t))∧Frm w A (QH w (.cells cs t)) A'∧(∀fr,A' fr w.heap.size)∧Cells (QH w (.cells cs t)) A' cs 0 ys:=by
  obtain⟨n,env,own,F,D⟩:=st
  let A':QS:=fun fr b=>A fr b∨b=w.heap.size
  have hup:∀fr b,A fr b→A' fr b:=fun fr b hb=>.inl hb
  have hkeep:∀fr b,A fr b→b<w.heap.size→(QH w (.cells cs t)).heap[b]? =w.heap[b]? :=fun fr b _ hlt=>(Keep.push [] w _).block b hlt (by simp)
  refine⟨A',hA.step (.push _ _ _) hup ⟨fun b hb=>hb.imp (hA.hp.mono b) id,fun fr b hb=>hup fr b (hA.hp.sup fr b hb),fun fr b hb=>?_,fun fr b hb=>?_,fun b hb=>?_,hA.hp.nodup,fun o ho=>?_⟩,
    fun u y h=>h.move (fun fr b hb _=>hup fr b hb) hkeep,fun fr=>.inr rfl,hc.move (fun fr b hb _=>hup fr b hb) hkeep⟩
  · rcases hb with hb|rfl
    · exact hA.hp.sub fr b hb
    · exact .inr hA.keep.size
  · rw[WA]
    rcases hb with hb|rfl
    · have:=hA.hp.lt fr b hb;omega
    · omega
  · obtain⟨h1,h2,h3⟩:=hA.hp.fp b hb
    exact⟨by rw[WA];omega,h2,fun fr h=>h.elim (h3 fr) (fun he=>by omega)⟩
  · exact(hA.hp.own o ho).move (fun fr b hb _=>hup fr b hb) hkeep fun b hb=>(Keep.push [] w _).block b (hA.hp.fp b (Ur ho hb)).1 (by simp)
theorem H9{pl:Nat→Option (Nat×Nat)}{e:U7}{zc:List Value}{idx:List Nat}{l:List Operand}{zs:List AV}{xs:List (List AV)}{parts:Array (Nat×Operand)}{len:Nat}(hU:P.underlying t=some (.slice et))(hE:WU P et e=true)
    (hz:QO P et=some zc) (hz1:zc.all (·.oneCell')=true) (hA:SatA E A st a w)
    (hl:EvL E st l zs) (hparts:parts=(idx.zip l).toArray) (hp:zs.all AV.plain=true) (hi:idx.length=l.length) (hsmall:Nat.ble (len*e.sz) 16777216=true) (hpos:Nat.blt 0 (len*e.sz)=true)
    (hf:Xg (fun i=>some (i*e.sz,e.sz)) ((List.range (len*e.sz)).map fun k=>AV.c (zc.getD (k%zc.length) undef)) (idx.zip (zs.map AV.cellsOf))=some xs.flatten):
    ∃cs,(execOp a.eval ⟨dd,.buildSlice t len parts,ty,pos,af,gd⟩).run P w=.ok (.value (.slice (some ⟨w.heap.size,0,none⟩) len len)) (QH w (.cells cs et))∧cs.size=xs.flatten.length∧Cells w A cs 0 xs.flatten:=by
  obtain⟨ti,tz,hi1,hsz,hby,hz2,hzs,_⟩:=Y5 hE
  obtain⟨ti',zv,h1,h2,h3⟩:=Ly hz
  rw[hi1]at h1;cases h1
  rw[hz2]at h2;cases h2
  have hzl:zc.length=e.sz:=by rw[← h3,Array.length_toList,hzs]
  have hps:=Ui hpos
  have hbase:∀k,k<len*e.sz→tz.cells[k%tz.cells.size]! =zc.getD (k%zc.length) undef∧(zc.getD (k%zc.length) undef).oneCell'=true:=fun k hk=>by
    have he:0<e.sz:=Nat.pos_of_ne_zero fun h=>by rw[h,Nat.mul_zero]at hps;omega
    have hlt:k%e.sz<e.sz:=Nat.mod_lt _ he
    rw[hzs,hzl]
    have hg:zc.getD (k%e.sz) undef=zc[k%e.sz]'(by omega):=by simp[List.getD_eq_getElem?_getD,show k%e.sz<zc.length by omega]
    rw[hg]
    refine⟨?_,(List.all_eq_true.1 hz1) _ (List.getElem_mem _)⟩
    subst h3
    rw[getElem!_pos tz.cells (k%e.sz) (by omega)]
    simp
  obtain⟨cs,r1,r2,r3⟩:=GH (fun i=>some (i*e.sz,e.sz)) (PartsR.of hA hl hp hi) (cs:=(Array.range (len*e.sz)).map (tz.cells[·%tz.cells.size]!)) (by simp) (fun k y hk=>by
    rw[List.getElem?_map]at hk
    by_cases hlt:k<len*e.sz
    · rw[List.getElem?_range hlt]at hk;cases hk
      obtain⟨b1,b2⟩:=hbase k hlt
      exact⟨_,by simp[hlt,b1],b2,.c _⟩
    · rw[List.getElem?_eq_none (by simpa using hlt)]at hk;cases hk) hf
  refine⟨cs,?_,r2,r3⟩
  have hr:=run_buildSlice (P:=P) w t et len (parts.map fun(i,x)=>(i,a.eval x)) cs ti tz hU hi1 hz2 (by rw[hsz];have:=Nat.le_of_ble_eq_true hsmall;omega) (by rw[hsz];omega) (by rw[hsz,← r1,hparts];simp)
  simp only[execOp,Sem.run_bind,hr,Result.andThen_ok,Sem.run_pure]
  rfl
theorem QW.buildSlice{e:U7}{zc:List Value}{idx:List Nat}{l:List Operand}{zs:List AV}{xs:List (List AV)}{parts:Array (Nat×Operand)}{len:Nat}(hU:P.underlying t=some (.slice et))(hE:WU P et e=true)
    (hz:QO P et=some zc) (hz1:zc.all (·.oneCell')=true) (hl:EvL E st l zs) (hparts:parts=(idx.zip l).toArray) (hp:zs.all AV.plain=true) (hi:idx.length=l.length) (hsmall:Nat.ble (len*e.sz) 16777216=true) (hpos:Nat.blt 0 (len*e.sz)=true)
    (hf:Xg (fun i=>some (i*e.sz,e.sz)) ((List.range (len*e.sz)).map fun k=>AV.c (zc.getD (k%zc.length) undef)) (idx.zip (zs.map AV.cellsOf))=some xs.flatten) (hlen:xs.length=len) (hxl:(xs.all fun x=>Nat.beq x.length e.sz)=true)
    (hb:Nat.ble (len*e.bytes) Qr=true):QW P E st ⟨dd,.buildSlice t len parts,ty,pos,af,gd⟩ (.sl true true e xs):=fun A a w hA K Qx hK=>by
  obtain⟨cs,hr,hs,hc⟩:=H9 (pl:=fun _=>none) (dd:=dd) (ty:=ty) (pos:=pos) (af:=af) (gd:=gd) hU hE hz hz1 hA hl hparts hp hi hsmall hpos hf
  refine Hd (by intro c h;cases h) ?_
  unfold Oper.wp
  rw[hr,Oper.upon_value]
  obtain⟨A',h1,h2,h3,h4⟩:=hA.fresh (t:=et) hs hc
  refine hK _ _ A' h2 h1 ?_
  subst hlen
  refine .sl true true e xs w.heap.size 0 xs.length cs et (0,0) (fun k=>cs.getD k undef) (h3 true) (Ya _ _) (Nat.le_refl _) (fun _=>rfl) (fun x hx=>Nat.eq_of_beq_eq_true ((List.all_eq_true.1 hxl) x hx)) (Nat.le_of_ble_eq_true hb)
    (fun k y hk=>?_) (fun k y hk=>?_)
  · obtain⟨u,g1,g0,_⟩:=h4 k y hk
    rw[Nat.zero_add]at g1⊢
    simp[Array.getD_eq_getD_getElem?,g1,g0]
  · obtain⟨u,g1,_,g2⟩:=h4 k y hk
    rw[Nat.zero_add]at g1
    simpa[Array.getD_eq_getD_getElem?,g1]using g2
end

end
section
/- Regions that draw their order, in the form in which the walks use them. -/
section
variable {P:Program} {E:Wy} {Q:Exit→St→Prop} {n:Nat} {env:List (Nat×AV)} {own:List Own} {F:List (Value×AV)} {D:List Deferred} {ops:Array Oper} {K:List (Nat×AV)→Prop}
def sel(sl:List Nat):List (Nat×AV)→List (Nat×AV)
  |[]=>[]
  |(s,x)::don=>match sl.any (Nat.beq s)with|true=>(s,x)::sel sl don|false=>sel sl don
def chk(o:Oper)(sl:List Nat):List (Nat×AV)→Nat→Bool
  |[],_=>true
  |(s,_)::don,i=>match sl.any (Nat.beq s)with|true=>depsOk o [i-1]&&chk o sl don (i-1)|false=>chk o sl don (i-1)
theorem Ek{o:Oper}{sl:List Nat}{env:List (Nat×AV)}:∀{don:List (Nat×AV)} {i:Nat},i=don.length→chk o sl don i=true→NB o don.reverse env (sel sl don++env)
  |[],i,_,_=>fun s x h=>.inr (by simpa[sel]using h)
  |(s0,x0)::don,i,hi,h=>fun s x hl=>by
    have hi':i-1=don.length:=by simp at hi;omega
    have hrec:chk o sl don (i-1)=true→lk (sel sl don++env) s=some x→(∃j,depsOk o [j]=true∧((s0,x0)::don).reverse[j]? =some (s,x))∨lk env s=some x:=fun hc hl=>by
      rcases Ek (don:=don) (i:=i-1) hi' hc s x hl with ⟨j,h1,h2⟩|h
      · exact .inl ⟨j,h1,by rw[List.reverse_cons,List.getElem?_append_left (List.getElem?_eq_some_iff.1 h2).1];exact h2⟩
      · exact .inr h
    unfold sel at hl
    unfold chk at h
    split at hl
    · rename_i hb
      rw[hb]at h
      simp only[Bool.and_eq_true]at h
      rcases WX hl with ⟨rfl,rfl⟩|⟨_,hl⟩
      · exact .inl ⟨i-1,h.1,by rw[hi',List.reverse_cons,List.getElem?_append_right (by simp)];simp⟩
      · exact hrec h.2 hl
    · rename_i hb
      rw[hb]at h
      exact hrec h hl
def MixK(P:Program)(E:Wy)(ops:Array Oper)(n:Nat)(env:List (Nat×AV))(own:Nat→List Own)(M:Nat)(F:List (Value×AV))(D:List Deferred)(i j p:Nat)(os:List Oper)(don:List (Nat×AV))(K:List (Nat×AV)→Prop):Prop:=
  i=don.length→∃all lv,AnyM P E ops n env own M F D i j p os don.reverse all lv∧K all.reverse
variable {ow:Nat→List Own} {M i j p:Nat}
theorem MixK.nil{don:List (Nat×AV)}(h:K don):MixK P E ops n env ow M F D i M p [] don K:=fun _=>⟨don.reverse,_,.nil i p don.reverse,by rw[List.reverse_reverse];exact h⟩
theorem MixK.quiet{o:Oper}{os:List Oper}{don:List (Nat×AV)}{d:Nat}{x:AV}(sl:List Nat)(hd:o.dst=some d)(hn:Nat.blt d n=true)(hc:chk o sl don i=true)
    (hs:∀q,q≤M→Step P E ops ⟨n,sel sl don++env,ow q,F,D⟩ o x) (h:MixK P E ops n env ow M F D (i+1) j p os ((d,x)::don) K):MixK P E ops n env ow M F D i j p (o::os) don K:=fun hi=>by
  obtain⟨all,lv,h1,h2⟩:=h (by simp[hi])
  rw[List.reverse_cons]at h1
  exact⟨all,_,.quiet hd hn (Ek hi hc) hs h1,h2⟩
theorem EB(j:Nat)(y:AV)(l:List (Nat×AV))(s:Nat):lk ((j,y)::l) s=match Nat.beq j s with|true=>some y|false=>lk l s:=rfl
theorem Ut(l env:List (Nat×AV))(s:Nat)(x:AV):lk (l++env) s=some x↔lk l s=some x∨(lk l s=none∧lk env s=some x):=by
  induction l with
  |nil=>simp[lk]
  |cons p l ih=>
    obtain⟨j,y⟩:=p
    rw[List.cons_append,EB,EB]
    cases Nat.beq j s with
    |true=>simp
    |false=>exact ih
theorem X2:∀(l:List (Nat×AV)) (s:Nat) (x:AV),lk l s=some x→(s,x)∈l
  |[],_,_,h=>by simp[lk]at h
  |(j,y)::l,s,x,h=>by
    rcases WX h with ⟨rfl,rfl⟩|⟨_,h⟩
    · simp
    · exact List.mem_cons_of_mem _ (X2 l s x h)
theorem GJ:∀(l:List (Nat×AV)) (s:Nat),lk l s=none→∀x,(s,x)∉l
  |[],_,_,x,h=>by cases h
  |(j,y)::l,s,h,x,hm=>by
    unfold lk at h
    split at h
    · cases h
    · rename_i hb
      rcases List.mem_cons.1 hm with hm|hm
      · cases hm;simp at hb
      · exact GJ l s h x hm
theorem J.region_mixK{id:Nat}{l:List Oper}(k M:Nat)(ow:Nat→List Own)(how:ow 0=own)(hm:P.follows .mixedOrders=true)(hnd:XF (WM (l.take k))=true)(hbk:Xi 0 l=true)(ht:Kr k l=true)(hk:Nat.ble k l.length=true)
    (h:MixK P E l.toArray n (U1 (WM (l.take k)) env) ow M F D 0 0 0 (l.take k) [] fun steps=>JL P E l.toArray (l.drop k) ⟨n,steps++U1 (WM (l.take k)) env,ow M,F,D⟩ Q):
    J P E (.region id l.toArray true) ⟨n,env,own,F,D⟩ Q:=by
  obtain⟨steps,lv,h1,h2⟩:=h rfl
  have hlen:(l.take k).length=k:=by have:=Nat.le_of_ble_eq_true hk;simp;omega
  subst how
  obtain⟨_,hl1,_,_,_,_,_,hst⟩:=h1.get rfl
  simp only[List.reverse_nil,List.length_nil,Nat.zero_add]at hst hl1
  -- the slots are apart: the order of the list says nothing
  have hslot:∀(a b:Nat) (x y:AV) (s:Nat),steps[a]? =some (s,x)→steps[b]? =some (s,y)→a=b:=by
    intro a b x y s ha hb
    have ha':a<(l.take k).length:=by have:=(List.getElem?_eq_some_iff.1 ha).1;omega
    have hb':b<(l.take k).length:=by have:=(List.getElem?_eq_some_iff.1 hb).1;omega
    rcases hst a _ (List.getElem?_eq_getElem ha')with ⟨_,d,x',_,h3,h4,h5,_⟩|⟨_,_,_,h3,h4,_⟩<;>rcases hst b _ (List.getElem?_eq_getElem hb')with ⟨_,d',y',_,h6,h7,h8,_⟩|⟨_,_,_,h6,h7,_⟩<;>
      rw[h3]at ha<;>rw[h6]at hb<;>simp only[Option.some.injEq,Prod.mk.injEq]at ha hb
    · obtain⟨rfl,_⟩:=ha
      obtain⟨rfl,_⟩:=hb
      exact Y3 hnd (List.getElem?_eq_getElem ha') (List.getElem?_eq_getElem hb') h4 h7
    · omega
    · omega
    · omega
  refine Rt hm (List.take_append_drop k l).symm hnd hbk (by rw[hlen];exact ht) h1 fun a w ⟨A,hA⟩=>h2 a w ⟨A,hA.size,hA.defers,hA.keep,hA.hp,fun s x hl=>hA.env s x ?_,hA.facts⟩
  rw[Ut]at hl⊢
  rcases hl with hl|⟨hl1',hl2⟩
  · left
    have h3:(s,x)∈steps:=by simpa using X2 _ _ _ hl
    cases h4:lk steps s with
    |none=>exact absurd h3 (GJ _ _ h4 x)
    |some y=>
      have h5:=X2 _ _ _ h4
      obtain⟨a,ha⟩:=List.getElem?_of_mem h3
      obtain⟨b,hb⟩:=List.getElem?_of_mem h5
      have:=hslot a b x y s ha hb
      subst this
      rw[ha]at hb;cases hb;rfl
  · right
    refine⟨?_,hl2⟩
    cases h4:lk steps s with
    |none=>rfl
    |some y=>exact absurd (by simpa using X2 _ _ _ h4) (GJ _ _ hl1' y)
def AnyK(P:Program)(E:Wy)(ops:Array Oper)(n:Nat)(env:List (Nat×AV))(own:List Own)(F:List (Value×AV))(D:List Deferred)(i:Nat)(os:List Oper)(don:List (Nat×AV))(K:List (Nat×AV)→Prop):Prop:=
  MixK P E ops n env (fun _=>own) 0 F D i 0 0 os don K
theorem AnyK.nil{don:List (Nat×AV)}(h:K don):AnyK P E ops n env own F D i [] don K:=MixK.nil h
theorem AnyK.cons{o:Oper}{os:List Oper}{don:List (Nat×AV)}{d:Nat}{x:AV}(sl:List Nat)(hd:o.dst=some d)(hn:Nat.blt d n=true)(hc:chk o sl don i=true)
    (hs:Step P E ops ⟨n,sel sl don++env,own,F,D⟩ o x) (h:AnyK P E ops n env own F D (i+1) os ((d,x)::don) K):AnyK P E ops n env own F D i (o::os) don K:=
  MixK.quiet sl hd hn hc (fun _ _=>hs) h
theorem Ud{id:Nat}{l:List Oper}(k:Nat)(hm:P.follows .mixedOrders=true)(hnd:XF (WM (l.take k))=true)(hbk:Xi 0 l=true)(ht:Kr k l=true)(hk:Nat.ble k l.length=true)
    (h:AnyK P E l.toArray n (U1 (WM (l.take k)) env) own F D 0 (l.take k) [] fun steps=>JL P E l.toArray (l.drop k) ⟨n,steps++U1 (WM (l.take k)) env,own,F,D⟩ Q):
    J P E (.region id l.toArray true) ⟨n,env,own,F,D⟩ Q:=.region_mixK k 0 (fun _=>own) rfl hm hnd hbk ht hk h
theorem LStep.store_box(i:Nat){b off:Nat}{ys ys':List AV}{z:AV}{t:TypeId}{g:Bool}{m B:Nat}{x y:Operand}{ty:TypeId}{pos:String}{af:Array Edge}(hT:Un P t=some (g,m,B))(hx:Ev E ⟨n,env,own,F,D⟩ x (.c (.pointer (some ⟨b,off,none⟩))))
    (ho:own[i]? =some (.box b ys)) (hy:Ev E ⟨n,env,own,F,D⟩ y z) (hz:z.plain=true) (hm:z.cellsOf.length=m) (hl:Nat.ble (off+m) ys.length=true) (hs:Q1 ys off z.cellsOf=ys')
    {own':List Own} (hown:own.set i (.box b ys')=own'):LStep P E ⟨n,env,own,F,D⟩ own' ⟨none,.store t x y,ty,pos,af,none⟩:=fun A a w hA K Qx hK=>by
  refine Hd (by intro c h;cases h) ?_
  unfold Oper.wp
  subst hs hown
  obtain⟨us,t',hb,hsz,hc⟩:=hA.box i ho
  obtain⟨h1,h2,h3⟩:=(hy A a w hA).cellsOf hz
  have hle:off+z.cellsOf.length≤ys.length:=by rw[hm];exact Nat.le_of_ble_eq_true hl
  obtain⟨w',us',hr,hk,hz',hb',hsz',hu'⟩:=XY (P:=P) (off:=off) hT rfl (h1.trans hm) hb (by omega) h2
  have hrun:(execOp a.eval ⟨none,.store t x y,ty,pos,af,none⟩).run P w=.ok .skip w':=by
    simp only[execOp,Instr.storeAt,hx.eq hA,Instr.sureAddr,Sem.run_bind,Sem.run_pure,Result.andThen_ok,hr]
  rw[hrun,Oper.upon_skip]
  have hfp:∀fr c,A fr c→c<w.heap.size→w'.heap[c]? =w.heap[c]? :=fun fr c hc hlt=>hk.block c hlt fun hm'=>by
    simp only[List.mem_singleton]at hm'
    subst hm'
    exact(hA.hp.fp c (Ur (List.mem_of_getElem? ho) (by simp[Own.fp]))).2.2 fr hc
  refine hK w' A (fun u y h=>h.move (fun _ _ h _=>h) hfp) (hA.step (hk.mono fun c hc=>?_) (fun _ _ h=>h) (hA.hp.upd (o':=.box b _) ho rfl hk hz' ⟨us',t',hb',?_,?_⟩))
  · simp only[List.mem_singleton]at hc;subst hc;exact Ur (List.mem_of_getElem? ho) (by simp[Own.fp])
  · rw[hsz',hsz,QG hle]
  · exact(hc.spliced h3 h1 hle hu').keep hfp
end

end
section
/- Elements of own arrays: their places, loads and stores; slicing; texts of octets; a kept environment around a loop. -/
section
variable {P:Program} {E:Wy} {st:St} {Q:Exit→St→Prop} {n B:Nat} {env:List (Nat×AV)} {own:List Own} {F:List (Value×AV)} {D:List Deferred} {ops:Array Oper} {rest:List Oper}
variable {A:QS} {a:Act} {w w':World} {t et ty:TypeId} {pos:String} {af:Array Edge} {d:Nat} {dd:Option Tmp} {gd:Option (Nat×Bool)} {x y:Operand} {g:Bool} {m:Nat}
theorem Rd.of_gp{v u:Value}{off:Nat}(h:Rd w A u (.gp v off)):∃b o n cap,v=.slice (some ⟨b,o,none⟩) n cap∧u=.pointer (some ⟨b,o+off,none⟩):=by
  cases h with
  |gp b o n cap off=>exact⟨b,o,n,cap,rfl,rfl⟩
theorem Re{α:Type}{sz:Nat}{xs:List (List α)}(hs:∀x∈xs,x.length=sz){m:Nat}{x:List α}(h:xs[m]? =some x){k:Nat}{y:α}(hk:x[k]? =some y):xs.flatten[m*sz+k]? =some y:=
  KF xs hs m x h k y hk
theorem SatA.elem(hs:SatA E A st a w)(i:Nat){v:Value}{e:U7}{xs:List (List AV)}(ho:st.own[i]? =some (.arr v e xs)){ys:List AV}(hm:xs[m]? =some ys):
    ∃b cap us t,v=.slice (some ⟨b,0,none⟩) xs.length (cap+1)∧w.heap[b]? =some (.cells us t (0,0))∧xs.length≤cap+1∧RowOf us ((cap+1)*e.sz)∧
        (∀x∈xs,x.length=e.sz)∧Cells w A us 0 xs.flatten∧Cells w A us (m*e.sz) ys:=by
  rcases hs.arr i ho with ⟨_,_,hx⟩|⟨b,cap,us,t,hv,h1,h2,h3,h4,h5⟩
  · subst hx;simp at hm
  · refine⟨b,cap,us,t,hv,h1,h2,h3,h4,h5,fun k y hk=>?_⟩
    have:=h5 _ _ (Re h4 hm hk)
    simpa using this
theorem Y0(i:Nat){v:Value}{e:U7}{xs:List (List AV)}{k:IntKind}{j:Int}{off:Nat}(hU:P.underlying t=some (.slice et))(hT:Un P et=some (g,n,B))(hn:e.sz=n)
    (h:Ev E st x (.c v)) (ho:st.own[i]? =some (.arr v e xs)) (hi:Ev E st y (.c (.int k j))) (hjm:j=(m:Int)) (hlt:m<xs.length) (hoff:m*n=off):
    QW P E st ⟨dd,.indexAddr t x y,ty,pos,af,gd⟩ (.gp v off):=.pure fun A a w hs=>by
  subst hjm hoff hn
  rcases hs.arr i ho with ⟨_,_,hx⟩|⟨b,cap,us,t',hv,h1,h2,h3,h4,h5⟩
  · subst hx;simp at hlt
  · subst hv
    refine⟨.pointer (some ⟨b,0+m*e.sz,none⟩),?_,.gp b 0 _ _ _⟩
    simp only[execOp,h.eq hs,hi.eq hs,Instr.indexAt,asIntOf,Sem.run_bind,Sem.run_pure,Result.andThen_ok,Qq _ hU]
    rw[if_pos (by omega)]
    simp[Us hT,Wv]
theorem DY(i:Nat){v:Value}{e:U7}{xs:List (List AV)}{ys zs:List AV}{off o:Nat}(hT:Un P t=some (true,n,B))(h:Ev E st x (.gp v off))(ho:st.own[i]? =some (.arr v e xs))
    (hm:xs[m]? =some ys) (hoff:off=m*e.sz+o) (hz:(ys.drop o).take n=zs) (hl:zs.length=n):QW P E st ⟨dd,.load t x,ty,pos,af,gd⟩ (.agg zs):=.pure fun A a w hs=>by
  obtain⟨b,cap,us,t',hv,h1,h2,h3,h4,h5,h6⟩:=hs.elem i ho hm
  obtain⟨b',o0,n',cap',hv',hu⟩:=(h A a w hs).of_gp
  rw[hv']at hv
  simp only[Value.slice.injEq,Option.some.injEq,Addr.mk.injEq]at hv
  obtain⟨⟨rfl,rfl,_⟩,_,_⟩:=hv
  subst hz hoff
  obtain⟨v,r1,r2⟩:=Xn hT h1 ((h6.drop o).take n) hl
  exact⟨v,by simp only[execOp,Instr.loadAt,hu,Instr.sureAddr,Sem.run_bind,Sem.run_pure,Result.andThen_ok,Nat.zero_add,r1],r2⟩
theorem RL{α:Type}{l r zs:List α}{o:Nat}(h:o+zs.length≤l.length):Q1 (l++r) o zs=Q1 l o zs++r:=by
  unfold Q1
  rw[List.take_append_of_le_length (by omega),List.drop_append_of_le_length (by omega)]
  simp
theorem NG{α:Type}{l r zs:List α}{o:Nat}:Q1 (l++r) (l.length+o) zs=l++Q1 r o zs:=by
  unfold Q1
  rw[List.take_length_add_append,show l.length+o+zs.length=l.length+(o+zs.length) by omega,List.drop_length_add_append]
  simp
theorem H1{α:Type}{sz o:Nat}{zs:List α}:∀(xs:List (List α)) (m:Nat) (ys:List α),(∀x∈xs,x.length=sz)→xs[m]? =some ys→o+zs.length≤sz→
    (xs.set m (Q1 ys o zs)).flatten=Q1 xs.flatten (m*sz+o) zs
  |[],m,ys,_,h,_=>by simp at h
  |x::xs,0,ys,hs,h,ho=>by
    simp at h;subst h
    have hx:=hs x (by simp)
    simp only[List.set_cons_zero,List.flatten_cons,Nat.zero_mul,Nat.zero_add]
    rw[RL (by omega)]
  |x::xs,m+1,ys,hs,h,ho=>by
    have hx:=hs x (by simp)
    have ih:=H1 xs m ys (fun x hx=>hs x (by simp[hx])) (by simpa using h) ho
    simp only[List.set_cons_succ,List.flatten_cons,ih]
    rw[show(m+1)*sz+o=x.length+(m*sz+o) by rw[hx,Nat.succ_mul];omega,NG]
theorem YK(i:Nat){v:Value}{e:U7}{xs xs':List (List AV)}{ys:List AV}{z:AV}{off o:Nat}(hT:Un P t=some (g,n,B))(hx:Ev E ⟨m,env,own,F,D⟩ x (.gp v off))
    (ho:own[i]? =some (.arr v e xs)) {k:Nat} (hk:xs[k]? =some ys) (hoff:off=k*e.sz+o) (hy:Ev E ⟨m,env,own,F,D⟩ y z) (hz:z.plain=true) (hm:z.cellsOf.length=n) (hl:Nat.ble (o+n) e.sz=true)
    (hs:xs.set k (Q1 ys o z.cellsOf)=xs') {own':List Own} (hown:own.set i (.arr v e xs')=own')
    (h:JL P E ops rest ⟨m,env,own',F,D⟩ Q):
    JL P E ops (⟨none,.store t x y,ty,pos,af,none⟩::rest) ⟨m,env,own,F,D⟩ Q:=fun a w ⟨A,hA⟩=>by
  refine wpListIn_plain rfl fun K hK=>?_
  refine Hd (by intro c h;cases h) ?_
  unfold Oper.wp
  subst hs hown
  obtain⟨b,cap,us,t',hv,h1,h2,h3,h4,h5,h6⟩:=hA.elem i ho hk
  obtain⟨b',o0,n',cap',hv',hu⟩:=(hx A a w hA).of_gp
  have hvv:=hv
  rw[hv']at hvv
  simp only[Value.slice.injEq,Option.some.injEq,Addr.mk.injEq]at hvv
  obtain⟨⟨rfl,rfl,_⟩,_,_⟩:=hvv
  obtain⟨z1,z2,z3⟩:=(hy A a w hA).cellsOf hz
  have hle:o+z.cellsOf.length≤e.sz:=by rw[hm];exact Nat.le_of_ble_eq_true hl
  have hkl:k<xs.length:=(List.getElem?_eq_some_iff.1 hk).1
  have hyl:ys.length=e.sz:=h4 ys (List.mem_of_getElem? hk)
  have hfl:=QE xs h4
  have hin:off+z.cellsOf.length≤xs.flatten.length:=by
    rw[hfl,hoff]
    have:(k+1)*e.sz≤xs.length*e.sz:=Nat.mul_le_mul_right _ hkl
    rw[Nat.succ_mul]at this;omega
  have hus:xs.flatten.length≤us.size:=by rw[hfl,h3.size];exact Nat.mul_le_mul_right _ h2
  obtain⟨w',us',hr,hkp,hz',hb',hsz',hu'⟩:=XY (P:=P) (off:=off) hT rfl (z1.trans hm) h1 (by omega) z2
  have hrun:(execOp a.eval ⟨none,.store t x y,ty,pos,af,none⟩).run P w=.ok .skip w':=by
    simp only[execOp,Instr.storeAt,hu,Instr.sureAddr,Sem.run_bind,Sem.run_pure,Result.andThen_ok,Nat.zero_add,hr]
  rw[hrun,Oper.upon_skip]
  have hmem:=List.mem_of_getElem? ho
  have hof:(Own.arr v e xs).fp=[b']:=by simp[Own.fp,KH,hv]
  have hfp:∀fr c,A fr c→c<w.heap.size→w'.heap[c]? =w.heap[c]? :=fun fr c hc hlt=>hkp.block c hlt fun hm'=>by
    simp only[List.mem_singleton]at hm'
    subst hm'
    exact(hA.hp.fp c (Ur hmem (by rw[hof];simp))).2.2 fr hc
  refine hK _ _ (h _ _ ⟨A,hA.step (hkp.mono fun c hc=>?_) (fun _ _ h=>h) (hA.hp.upd (o':=.arr v e _) ho rfl (by rw[hof];exact hkp) hz' (.inr ⟨b',cap,us',t',by simp[hv],hb',by simpa using h2,⟨by rw[hsz',h3.size],fun q u hq=>by
    rw[hu' q]at hq
    split at hq
    · exact(List.all_eq_true.1 z2) u (List.mem_of_getElem? hq)
    · exact h3.one q u hq⟩,fun x hx=>?_,?_⟩))⟩)
  · exact Ur hmem (by rw[hof];exact hc)
  · rcases List.mem_or_eq_of_mem_set hx with hx|rfl
    · exact h4 x hx
    · rw[QG (by omega),hyl]
  · rw[H1 xs k ys h4 hk hle,← hoff]
    exact(h5.spliced z3 z1 hin hu').keep hfp
/-! ### slicing -/
theorem KP{k:IntKind}{y:Nat}{m:Nat}{c:BoundsCode}(h:m≤y):(Instr.sliceBound (.int k (m:Int)) y c).run P w=.ok m w:=by
  simp[Instr.sliceBound,asIntOf,h]
def bnd(k:IntKind):Option Nat→Option Value
  |none=>none
  |some m=>some (.int k (m:Int))
theorem XJ{ad:Option Addr}{len cap:Nat}{k k':IntKind}(hU:P.underlying t=some (.slice et))(hT:Un P et=some (g,n,B))(lo hi:Option Nat)(h1:lo.getD 0≤hi.getD len)(h2:hi.getD len≤cap):
    (Instr.sliceAt t (.slice ad len cap) (bnd k lo) (bnd k' hi) none).run P w=.ok (.slice (if cap=lo.getD 0 then ad else ad.map (·.add (lo.getD 0*n))) (hi.getD len-lo.getD 0) (cap-lo.getD 0)) w:=by
  cases lo<;>cases hi<;>simp only[bnd,Option.getD_some,Option.getD_none]at h1 h2⊢ <;>
    simp[Instr.sliceAt,Instr.slice,Instr.sliceBounds,Qq _ hU,Us hT,KP h1,KP h2]
theorem Kc{α:Type}{sz:Nat}:∀(xs:List (List α)),(∀x∈xs,x.length=sz)→∀l,(xs.drop l).flatten=xs.flatten.drop (l*sz)
  |xs,_,0=>by simp
  |[],_,l+1=>by simp
  |x::xs,hs,l+1=>by
    have hx:=hs x (by simp)
    rw[List.drop_succ_cons,Kc xs (fun x hx=>hs x (by simp[hx])) l,List.flatten_cons,show(l+1)*sz=x.length+l*sz by rw[hx,Nat.succ_mul];omega,List.drop_length_add_append]
theorem Kb{α:Type}{sz:Nat}:∀(xs:List (List α)),(∀x∈xs,x.length=sz)→∀l,(xs.take l).flatten=xs.flatten.take (l*sz)
  |xs,_,0=>by simp
  |[],_,l+1=>by simp
  |x::xs,hs,l+1=>by
    have hx:=hs x (by simp)
    rw[List.take_succ_cons,List.flatten_cons,Kb xs (fun x hx=>hs x (by simp[hx])) l,List.flatten_cons,show(l+1)*sz=x.length+l*sz by rw[hx,Nat.succ_mul];omega,List.take_length_add_append]
theorem Rd.sub{fr clip c':Bool}{e:U7}{xs:List (List AV)}{ad:Option Addr}{len cap cap' l h:Nat}(hr:Rd w A (.slice ad len cap) (.sl fr clip e xs))(hlh:l≤h)(hh:h≤xs.length)(hcap:h-l≤cap')(hc:c'=true→cap'=h-l)
    (ad':Option Addr) (had:l<h→ad'=ad.map (·.add (l*e.sz))):Rd w A (.slice ad' (h-l) cap') (.sl fr c' e ((xs.take h).drop l)):=by
  by_cases hz:l=h
  · subst hz
    have:(xs.take l).drop l=[]:=by simp
    rw[this,Nat.sub_self]
    exact .emp _ _ _ _ _ fun hh=>by have:=hc hh;omega
  · have hlt:l<h:=by omega
    cases hr with
    |emp=>simp at hh;omega
    |sl _ _ _ _ b off cap cs t fz u hA hb hcap0 hclip hsz hreach hu hr=>
      rw[had hlt]
      have hlen:((xs.take h).drop l).length=h-l:=by simp;omega
      have hfl:((xs.take h).drop l).flatten=(xs.flatten.take (h*e.sz)).drop (l*e.sz):=by
        rw[Kc _ (fun x hx=>hsz x (List.mem_of_mem_take hx)),Kb _ hsz]
      have hget:∀k y,((xs.take h).drop l).flatten[k]? =some y→xs.flatten[l*e.sz+k]? =some y:=fun k y hk=>by
        rw[hfl,List.getElem?_drop,List.getElem?_take]at hk
        split at hk
        · exact hk
        · cases hk
      rw[← hlen,Option.map_some,Wv]
      refine .sl _ _ _ _ b (off+l*e.sz) cap' cs t fz (fun k=>u (l*e.sz+k)) hA hb (by omega) (fun hh=>by rw[hc hh,hlen]) (fun x hx=>hsz x (List.mem_of_mem_take (List.mem_of_mem_drop hx))) ?_ (fun k y hk=>?_) (fun k y hk=>hr _ _ (hget k y hk))
      · refine Nat.le_trans (Nat.mul_le_mul_right _ ?_) hreach;simp;omega
      · have:=hu _ _ (hget k y hk)
        rw[Nat.add_assoc];exact this
theorem Rd.sl_val{v:Value}{fr clip:Bool}{e:U7}{xs:List (List AV)}(h:Rd w A v (.sl fr clip e xs)):∃ad cap,v=.slice ad xs.length cap∧xs.length≤cap∧(clip=true→cap=xs.length):=by
  obtain⟨ad,cap,hv,h1,h2,_⟩:=h.of_sl
  exact⟨ad,cap,hv,h2,h1⟩
theorem Mu{k:IntKind}{i:Int}{l:Nat}{o:Operand}(h:Ev E st o (.c (.int k i)))(hi:i=(l:Int)){A:QS}{a:Act}{w:World}(hs:SatA E A st a w):a.eval o=.int k (l:Int):=by rw[h.eq hs,hi]
section
variable {fr clip:Bool} {e:U7} {xs:List (List AV)} {lo hi mx:Operand} {k k' k'':IntKind} {i j j':Int} {l h h':Nat}
theorem DV(hU:P.underlying t=some (.slice et))(hT:Un P et=some (g,n,B))(hn:e.sz=n)(hx:Ev E st x (.sl fr clip e xs))(hlo:Ev E st lo (.c (.int k i)))(hi:i=(l:Int))(hl:l≤xs.length):
    QW P E st ⟨dd,.slice t x (some lo) none none,ty,pos,af,gd⟩ (.sl fr clip e (xs.drop l)):=.pure fun A a w hs=>by
  have hr:=hx A a w hs
  obtain⟨ad,cap,hv,h1,h2⟩:=hr.sl_val
  rw[hv]at hr
  refine⟨.slice (if cap=l then ad else ad.map (·.add (l*n))) (xs.length-l) (cap-l),?_,?_⟩
  · have:=XJ (P:=P) (w:=w) (ad:=ad) (k:=k) (k':=.i64) hU hT (some l) none (len:=xs.length) (cap:=cap) (by simpa using hl) (by simpa using h1)
    simp only[bnd,Option.getD_some,Option.getD_none]at this
    simp only[execOp,hv,Option.map_some,Option.map_none,Mu hlo hi hs,Sem.run_bind,this,Result.andThen_ok,Sem.run_pure]
  · have:=hr.sub (c':=clip) (cap':=cap-l) (l:=l) (h:=xs.length) hl (Nat.le_refl _) (by omega) (fun hc=>by rw[h2 hc]) (if cap=l then ad else ad.map (·.add (l*n))) (fun hlt=>by rw[if_neg (by omega),hn])
    simpa using this
theorem DW(hU:P.underlying t=some (.slice et))(hT:Un P et=some (g,n,B))(hn:e.sz=n)(hx:Ev E st x (.sl fr clip e xs))(hhi:Ev E st hi (.c (.int k j)))(hj:j=(h:Int))(hh:h≤xs.length):
    QW P E st ⟨dd,.slice t x none (some hi) none,ty,pos,af,gd⟩ (.sl fr false e (xs.take h)):=.pure fun A a w hs=>by
  have hr:=hx A a w hs
  obtain⟨ad,cap,hv,h1,h2⟩:=hr.sl_val
  rw[hv]at hr
  refine⟨.slice (if cap=0 then ad else ad.map (·.add (0*n))) (h-0) (cap-0),?_,?_⟩
  · have:=XJ (P:=P) (w:=w) (ad:=ad) (k:=.i64) (k':=k) hU hT none (some h) (len:=xs.length) (cap:=cap) (by simp) (by simp;omega)
    simp only[bnd,Option.getD_some,Option.getD_none]at this
    simp only[execOp,hv,Option.map_some,Option.map_none,Mu hhi hj hs,Sem.run_bind,this,Result.andThen_ok,Sem.run_pure]
  · have:=hr.sub (c':=false) (cap':=cap-0) (l:=0) (h:=h) (Nat.zero_le _) hh (by omega) (fun hc=>by cases hc) (if cap=0 then ad else ad.map (·.add (0*n))) (fun hlt=>by rw[if_neg (by omega),hn])
    simpa using this
end
theorem DA(l:List UInt8)(a b:Nat):(⟨l.toArray⟩:ByteArray).extract a b=⟨((l.take b).drop a).toArray⟩:=by
  apply ByteArray.ext
  simp[ByteArray.data_extract,List.extract_eq_take_drop]
  rw[List.drop_take]
section
variable {l:List UInt8} {lo hi:Operand} {k k':IntKind} {i j:Int} {m h:Nat}
theorem H6(hU:P.underlying t=some .string)(hx:Ev E st x (.c (Q4 l)))(hhi:Ev E st hi (.c (.int k i)))(hi':i=(m:Int))(hl:m≤l.length):
    QW P E st ⟨dd,.slice t x none (some hi) none,ty,pos,af,gd⟩ (.c (Q4 (l.take m))):=.pure fun A a w hs=>by
  refine⟨Q4 (l.take m),?_,.c _⟩
  have hsz:(⟨l.toArray⟩:ByteArray).size=l.length:=by simp[ByteArray.size]
  simp only[execOp,hx.eq hs,Option.map_some,Option.map_none,Mu hhi hi' hs,Instr.sliceAt,Instr.slice,Instr.sliceBounds,Qq _ hU,Sem.run_bind,Sem.run_pure,Result.andThen_ok,hsz,DA]
  simp[KP hl]
end
/-! ### texts of octets -/
def W0(l:List UInt8):List (List AV):=l.map fun b=>[.c (.int .u8 (b.toNat:Int))]
theorem UU(l:List UInt8):(W0 l).length=l.length:=by simp[W0]
theorem Tw{l:List UInt8}{i:Nat}{b:UInt8}(h:l[i]? =some b):(W0 l)[i]? =some [.c (.int .u8 (b.toNat:Int))]:=by simp[W0,h]
theorem G2(l:List UInt8):(W0 l).flatten=l.map fun b=>.c (.int .u8 (b.toNat:Int)):=KE _ l
end

end
section
/- From the form's reading of an input to what the logic reads. -/
theorem Nu{w:World}{A:QS}{v:Value}{x:AV}{vs:List Value}{xs:List AV}(h:Rd w A v x)(hs:RdL w A vs.toArray xs):RdL w A (v::vs).toArray (x::xs):=by
  refine⟨by have:=hs.1;simpa using this,fun i y hy=>?_⟩
  cases i with
  |zero=>simp at hy;subst hy;simpa[Array.getD_eq_getD_getElem?]using h
  |succ i=>
    have:=hs.2 i y (by simpa using hy)
    simpa[Array.getD_eq_getD_getElem?]using this
section
variable {H:Type} {enc:TypeId×Value→H} {P:Program} {w:World} {sp:Nat→Bool} {held:Bool}
structure RdC(w:World)(cs:List Value)(ys:List AV):Prop where
  len:cs.length=ys.length
  get:∀(k:Nat) (y:AV),ys[k]? =some y→∃u,cs[k]? =some u∧u.oneCell'=true∧Rd w (Md w) u y
theorem RdC.one{v:Value}{y:AV}(h1:v.oneCell'=true)(h:Rd w (Md w) v y):RdC w [v] [y]:=
  ⟨rfl,fun k z hk=>by
    cases k with
    |zero=>simp at hk;subst hk;exact⟨v,rfl,h1,h⟩
    |succ k=>simp at hk⟩
def Fits(P:Program)(t:TypeId)(d:DataW H):Prop:=∀n∈d.weights P t,n≤Qr
theorem Fits.of{ts:List TypeId}{ds:List (DataW H)}(h:(DataW.weightsEach P ts ds).all (·≤reachBytes)=true){j:Nat}{t:TypeId}{d:DataW H}(ht:ts[j]? =some t)(hd:ds[j]? =some d):Fits P t d:=fun n hn=>by
  have:=List.all_eq_true.1 h _ (DataW.weights_mem_each ht hd n hn)
  have h2:reachBytes=Qr:=rfl
  simpa[h2]using this
theorem Ke{e:TypeId}:∀{l:List (DataW H)} {d:DataW H},d∈l→∀n∈d.weights P e,n∈DataW.weightsAll P e l
  |d'::r,d,hd,n,hn=>by
    simp only[DataW.weightsAll,List.mem_append]
    rcases List.mem_cons.1 hd with rfl|h
    · exact Or.inl hn
    · exact Or.inr (Ke h n hn)
abbrev trd(enc:TypeId×Value→H)(P:Program)(w:World)(fuel:Nat)(t:TypeId)(cs:List Value):=DataW.trod enc P w 0 (fun _=>true) true fuel t cs
theorem rd_str{t:TypeId}{fuel:Nat}{cs:List Value}{x:DataW H×List MemPlace}(ht:P.underlying t=some .string)(h:trd enc P w fuel t cs=some x)(hf:Fits P t x.1):∃s:List UInt8,s.length≤Qr∧RdC w cs [.c (Q4 s)]:=by
  obtain⟨s,rfl,rfl,_⟩:=DataW.trod_string ht h
  exact⟨s.data.toList,hf _ (by simp[DataW.weights]),.one rfl (.c _)⟩
theorem L3{α:Type}{sz:Nat}(h0:0<sz):∀(xs:List (List α)),(∀x∈xs,x.length=sz)→∀(k:Nat) (y:α),xs.flatten[k]? =some y→∃i j x,xs[i]? =some x∧x[j]? =some y∧k=i*sz+j∧j<sz
  |[],_,k,y,h=>by simp at h
  |a::xs,hs,k,y,h=>by
    have ha:a.length=sz:=hs a (by simp)
    rw[List.flatten_cons]at h
    by_cases hlt:k<a.length
    · rw[List.getElem?_append_left hlt]at h
      exact⟨0,k,a,rfl,h,by simp,by omega⟩
    · rw[List.getElem?_append_right (by omega)]at h
      obtain⟨i,j,x,h1,h2,h3,h4⟩:=L3 h0 xs (fun x hx=>hs x (by simp[hx])) _ y h
      exact⟨i+1,j,x,by simpa using h1,h2,by rw[Nat.succ_mul];omega,h4⟩
theorem Nq{a:Addr}{n:Nat}{cs:List Value}(h:w.cells? 0 a n=some cs):cs.length=n∧∀j,j<n→w.cell? (a.add j)=cs[j]? :=by
  unfold World.cells? at h
  rw[if_pos (Nat.zero_le _)]at h
  exact⟨by simpa using mapM_some_length h,fun j hj=>mapM_some_get h j j (by simp[hj])⟩
theorem Bq{α:Type}{t e:TypeId}{ei:U7}{f:α→List AV}{Wf:α→Prop}{fuel:Nat}{cs:List Value}{x:DataW H×List MemPlace}(ht:P.underlying t=some (.slice e))(hc:P.cellsOf e=ei.sz)(hb:P.bytesOf e=ei.bytes)(h0:0<ei.sz)
    (h:trd enc P w fuel t cs=some x) (hfit:Fits P t x.1) (hlen:∀a,(f a).length=ei.sz)
    (hx:∀m cs' y,m<fuel→trd enc P w m e cs'=some y→Fits P e y.1→∃a,Wf a∧RdC w cs' (f a)):
    ∃l:List α,(∀a∈l,Wf a)∧l.length*ei.bytes≤Qr∧RdC w cs [.sl false false ei (l.map f)]:=by
  rcases DataW.trod_slice ht h with ⟨rfl,rfl⟩|⟨a,len,cap,elems,rest,n,rfl,rfl,rfl,_,hle,hmax,hel,hget,_,_⟩
  · exact⟨[],(fun _ h=>by cases h),by simp,.one rfl (.emp _ _ _ _ _ (fun h=>by cases h))⟩
  have hw1:(elems.length+rest.length)*ei.bytes≤Qr:=hfit _ (by simp[DataW.weights,ht,hb])
  have hw2:∀d∈elems,Fits P e d.1:=fun d hd k hk=>hfit k (by
    simp only[DataW.weights,ht,List.mem_cons,List.mem_append]
    exact .inr (.inl (Ke (List.mem_map.2 ⟨d,hd,rfl⟩) k hk)))
  have key:∀i:Fin len,∃p:α×List Value,Wf p.1∧RdC w p.2 (f p.1)∧w.cells? 0 (a.add (i*ei.sz)) ei.sz=some p.2:=fun i=>by
    have:=hget i i.2
    rw[hc,List.getElem?_eq_getElem (by rw[hel];exact i.2)]at this
    obtain⟨cs',h1,h2⟩:=Option.bind_eq_some_iff.1 this
    obtain⟨y,g1,g2⟩:=hx n cs' _ (Nat.lt_succ_self n) h2 (hw2 _ (List.getElem_mem _))
    exact⟨(y,cs'),g1,g2,h1⟩
  let pick:Fin len→α×List Value:=fun i=>Classical.choose (key i)
  have hpick:∀i,Wf (pick i).1∧RdC w (pick i).2 (f (pick i).1)∧w.cells? 0 (a.add (i*ei.sz)) ei.sz=some (pick i).2:=fun i=>Classical.choose_spec (key i)
  have hll:(List.ofFn fun i=>(pick i).1).length=len:=by simp
  refine⟨List.ofFn fun i=>(pick i).1,fun y hy=>?_,?_,.one rfl ?_⟩
  · obtain⟨i,rfl⟩:=List.mem_ofFn.1 hy
    exact(hpick i).1
  · rw[hll]
    refine Nat.le_trans (Nat.mul_le_mul_right _ ?_) hw1
    omega
  · by_cases hz:len=0
    · subst hz
      exact .emp _ _ _ _ _ (fun h=>by cases h)
    have hp:0<len:=by omega
    -- the block
    obtain⟨g1,g2⟩:=Nq (hpick ⟨0,hp⟩).2.2
    have g3:=g2 0 h0
    rw[List.getElem?_eq_getElem (by omega)]at g3
    have ha0:(a.add (0*ei.sz)).add 0=a:=by simp[Addr.add]
    rw[show((⟨0,hp⟩:Fin len):Nat)=0 from rfl,ha0]at g3
    obtain⟨b,off,spot⟩:=a
    unfold World.cell? at g3
    cases hblk:w.heap[b]? with
    |none=>simp[hblk]at g3
    |some o=>
      cases o with
      |cells us t' fz=>
        simp only[hblk]at g3
        cases spot with
        |some s=>simp at g3
        |none=>
          have hcell:∀(i:Fin len) (j:Nat),j<ei.sz→us[off+(i*ei.sz+j)]? =(pick i).2[j]? :=fun i j hj=>by
            have:=(Nq (hpick i).2.2).2 j hj
            rw[Wv,Wv,Xy hblk]at this
            rw[← this];congr 1;omega
          have hsz:∀z∈(List.ofFn fun i=>(pick i).1).map f,z.length=ei.sz:=fun z hz=>by
            obtain⟨y,_,rfl⟩:=List.mem_map.1 hz
            exact hlen y
          have hall:∀k y,((List.ofFn fun i=>(pick i).1).map f).flatten[k]? =some y→us[off+k]? =some (us.getD (off+k) undef)∧(us.getD (off+k) undef).oneCell'=true∧Rd w (Md w) (us.getD (off+k) undef) y:=fun k y hk=>by
            obtain⟨i,j,z,h1,h2,rfl,h4⟩:=L3 h0 _ hsz k y hk
            have hi:i<len:=by have:=(List.getElem?_eq_some_iff.1 h1).1;simpa using this
            have hz:z=f (pick ⟨i,hi⟩).1:=by
              rw[List.getElem?_map,List.getElem?_ofFn,dif_pos hi]at h1
              simpa using h1.symm
            subst hz
            obtain⟨u,k1,k2,k3⟩:=(hpick ⟨i,hi⟩).2.1.get j y h2
            have k4:=hcell ⟨i,hi⟩ j h4
            rw[k1]at k4
            have:us.getD (off+(i*ei.sz+j)) undef=u:=by simp only[Array.getD_eq_getD_getElem?];rw[show us[off+(i*ei.sz+j)]? =some u from k4];rfl
            rw[this]
            exact⟨k4,k2,k3⟩
          have hlm:((List.ofFn fun i=>(pick i).1).map f).length=len:=by simp
          have hlt:b<w.heap.size:=(Array.getElem?_eq_some_iff.1 hblk).1
          have:=Rd.sl (w:=w) (A:=Md w) false false ei ((List.ofFn fun i=>(pick i).1).map f) b off cap us t' fz (fun k=>us.getD (off+k) undef) ⟨rfl,hlt⟩ hblk (by rw[hlm];exact hle) (fun h=>by cases h) hsz
            (by rw[hlm];exact Nat.le_trans (Nat.mul_le_mul_right _ (by omega)) hw1) (fun k y hk=>⟨(hall k y hk).1,(hall k y hk).2.1⟩) (fun k y hk=>(hall k y hk).2.2)
          rw[hlm]at this
          exact this
      |_=>simp[hblk]at g3
theorem CU{α:Type}{f:α→List AV}{Wf:α→Prop}{t e:TypeId}{ei:U7}{v:Value}{d:DataW H}{ps:List MemPlace}{r:Reach}{b0:Nat}(hT:P.underlying t=some (.slice e))(hc:P.cellsOf e=ei.sz)(hb:P.bytesOf e=ei.bytes)(h0:0<ei.sz)(hval:Value.okWide P w r b0 t v)
    (h:DataW.Trod enc P w 0 (fun _=>true) true t v d ps) (hfit:Fits P t d) (hlen:∀a,(f a).length=ei.sz) (hx:∀m cs' y,trd enc P w m e cs'=some y→Fits P e y.1→∃a,Wf a∧RdC w cs' (f a)):
    ∃l:List α,(∀a∈l,Wf a)∧l.length*ei.bytes≤Qr∧Rd w (Md w) v (.sl false false ei (l.map f)):=by
  obtain⟨a,len,cap,rfl⟩:=Go.WideShapes.okWide_slice hT hval
  obtain⟨fuel,hf⟩:=h
  obtain⟨l,h1,h2,h3⟩:=Bq hT hc hb h0 hf hfit hlen (fun m cs' y _=>hx m cs' y)
  obtain⟨u,k1,_,k3⟩:=h3.get 0 _ rfl
  simp[Value.cells]at k1
  subst k1
  exact⟨l,h1,h2,k3⟩
theorem CE{t:TypeId}(hl:laidOutB P=true)(hr:P.readableRec t=true)(hrow:t<P.types.size){W':World}{v:Value}{d:DataW H}{ps:List MemPlace}(h:DataW.Trod enc P w 0 (fun _=>true) true t v d ps)(hlt:∀p∈ps,p.block<w.heap.size)(bel:Below w.heap.size w W'):
    DataW.Trod enc P W' 0 (fun b=>decide (b<w.heap.size)) true t v d ps:=
  Go.WideElems.Trod_stays hl hr hrow h (fun p hp=>bel.same (hlt p hp)) fun p hp=>by simpa using hlt p hp
end

end
section
/- Rules for floats, for functions without a Go body, for function values, max and min; contracts that tell of their result. -/
abbrev Yv(b:Nat):Value:=.float .f64 b
abbrev ford(a b:Nat):Option Ordering:=FloatKind.f64.format.order a b
abbrev FnR(P:Program)(f:FuncId)(xs:List AV)(R:AV→Prop):Prop:=AC P f [] xs fun r own'=>own'=[]∧∃x,r=.ret x∧R x
section
variable {P:Program} {E:Wy} {st:St} {t:TypeId} {g:Bool} {m B:Nat} {w:World} {dd:Option Tmp} {ty:TypeId} {pos:String} {af:Array Edge} {gd:Option (Nat×Bool)} {x y z:Operand} {yt:TypeId}
variable {Q:Exit→St→Prop} {n:Nat} {env:List (Nat×AV)} {own:List Own} {F:List (Value×AV)} {D:List Deferred} {d:Nat} {ops:Array Oper} {rest:List Oper}
theorem PX{f:FuncId}{l:List Operand}{tys:Array TypeId}{xs:List AV}{R:AV→Prop}(hf:QJ P f=true)(hd:Nat.blt d n=true)(hargs:EvL E ⟨n,env,own,F,D⟩ l xs)(hAC:FnR P f xs R)
    (hret:∀z,R z→JL P E ops rest ⟨n,(d,z)::env,own,F,D⟩ Q):
    JL P E ops (⟨some d,.call ⟨.value (.func f),l.toArray,tys⟩,ty,pos,af,none⟩::rest) ⟨n,env,own,F,D⟩ Q:=
  JL.call (op:=[]) (ro:=own) hf hd hargs (.refl _) hAC (fun z own' ⟨h1,z',h2,h3⟩=>by subst h1;cases h2;exact hret z h3) (fun v own' ⟨_,z',h2,_⟩=>by cases h2)
theorem FL{f:FuncId}{fo:Operand}{fi ca:List Value}{l:List Operand}{tys:Array TypeId}{xs zs:List AV}{R:AV→Prop}(hf:QJ P f=true)(hd:Nat.blt d n=true)
    (hfo:Ev E ⟨n,env,own,F,D⟩ fo (.c (.func (.func f) fi.toArray ca.toArray))) (hargs:EvL E ⟨n,env,own,F,D⟩ l xs) (hzs:fi.map AV.c++xs++ca.map AV.c=zs) (hAC:FnR P f zs R)
    (hret:∀z,R z→JL P E ops rest ⟨n,(d,z)::env,own,F,D⟩ Q):
    JL P E ops (⟨some d,.call ⟨.value fo,l.toArray,tys⟩,ty,pos,af,none⟩::rest) ⟨n,env,own,F,D⟩ Q:=
  JL.callV (op:=[]) (ro:=own) hf hd hfo hargs hzs (.refl _) hAC (fun z own' ⟨h1,z',h2,h3⟩=>by subst h1;cases h2;exact hret z h3) (fun v own' ⟨_,z',h2,_⟩=>by cases h2)
theorem QW.ext{f:FuncId}{tys:Array TypeId}{v r:Value}(hext:∀w,(callFunc f #[v]).run P w=.ok (.value r) w)(hx:Ev E st x (.c v)):
    QW P E st ⟨dd,.call ⟨.value (.func f),#[x],tys⟩,ty,pos,af,gd⟩ (.c r):=.pure fun A a w hs=>by
  refine⟨r,?_,.c r⟩
  have:=hext w
  simp only[execOp,resolve,Act.eval,Deferred.ofValue,Sem.run_bind,Sem.run_pure,Result.andThen_ok,invoke]
  simpa[hx.eq hs]using this
section
variable {a b:Nat}
theorem G9(hx:Ev E st x (.c (Yv a)))(hy:Ev E st y (.c (Yv b))):QW P E st ⟨dd,.binOp .neq t x y yt,ty,pos,af,gd⟩ (.c (.bool (ford a b !=some .eq))):=.bin hx hy Xv (fun w=>by simp[binOp,Op.floatCmp])
theorem Mp(hx:Ev E st x (.c (Yv a)))(hy:Ev E st y (.c (Yv b))):QW P E st ⟨dd,.binOp .gtr t x y yt,ty,pos,af,gd⟩ (.c (.bool (ford a b==some .gt))):=.bin hx hy Xv (fun w=>by simp[binOp,Op.floatCmp])
theorem PS(hx:Ev E st x (.c (Yv a)))(hy:Ev E st y (.c (Yv b))):QW P E st ⟨dd,.binOp .geq t x y yt,ty,pos,af,gd⟩ (.c (.bool (ford a b==some .gt||ford a b==some .eq))):=.bin hx hy Xv (fun w=>by simp[binOp,Op.floatCmp])
end
def UH(op:BinOp)(a b:Nat):Option Nat:=
  match op with
  |.add=>FloatKind.f64.format.add a b
  |.sub=>FloatKind.f64.format.sub a b
  |.mul=>FloatKind.f64.format.mul a b
  |_=>FloatKind.f64.format.div a b
def Kx(c:Nat):Prop:=∃t:Nat,c=(t%2)*2^63+0x7ff0000000000000+1+(t / 2)%(2^52-1)
theorem KZ{op:BinOp}{a b:Nat}(hop:op=.add∨op=.sub∨op=.mul∨op=.quo)(hx:Ev E ⟨n,env,own,F,D⟩ x (.c (Yv a)))(hy:Ev E ⟨n,env,own,F,D⟩ y (.c (Yv b)))(hd:Nat.blt d n=true)
    (h:∀c,(UH op a b=some c∨(UH op a b=none∧Kx c))→JL P E ops rest ⟨n,(d,.c (Yv c))::env,own,F,D⟩ Q):
    JL P E ops (⟨some d,.binOp op t x y yt,ty,pos,af,none⟩::rest) ⟨n,env,own,F,D⟩ Q:=fun act w ⟨A,hA⟩=>by
  refine wpListIn_plain rfl fun K hK=>?_
  refine Hd (by intro c h;cases h) ?_
  unfold Oper.wp
  have hb:binOp op t (Yv a) (Yv b)=Op.floatArith op .f64 a b:=by rcases hop with rfl|rfl|rfl|rfl<;>simp[binOp]
  have hg:(eqGuard op t x y (Yv a) (Yv b)).run P w=.ok () w:=Xv w
  cases hc:UH op a b with
  |some c=>
    have hr:(execOp act.eval ⟨some d,.binOp op t x y yt,ty,pos,af,none⟩).run P w=.ok (.value (Yv c)) w:=by
      simp only[execOp,hx.eq hA,hy.eq hA,Sem.run_bind,hg,Result.andThen_ok,hb,Op.floatArith]
      rcases hop with rfl|rfl|rfl|rfl<;>simp[UH]at hc<;>simp[hc]
    rw[hr,Oper.upon_value]
    exact hK _ _ (h c (.inl hc) _ _ ⟨A,hA.put (Ui hd) (.c _)⟩)
  |none=>
    have hr:(execOp act.eval ⟨some d,.binOp op t x y yt,ty,pos,af,none⟩).run P w=.ok (.value (Yv (Question.cut (.nanBits .f64 a b) (w.tape w.drawn (.nanBits .f64 a b))))) (Q9 w):=by
      simp only[execOp,hx.eq hA,hy.eq hA,Sem.run_bind,hg,Result.andThen_ok,hb,Op.floatArith]
      rcases hop with rfl|rfl|rfl|rfl<;>simp[UH]at hc<;>simp[hc,Question.forced]<;>rfl
    rw[hr,Oper.upon_value]
    refine hK _ _ (h _ (.inr ⟨hc,⟨_,rfl⟩⟩) _ _ ⟨A,hA.draw.put (Ui hd) (.c _)⟩)
theorem D2{k:IntKind}{a:Int}{s:TypeId}(hs:(P.underlying s).isSome=true)(hU:P.underlying t=some (.float .f64))(hx:Ev E st x (.c (.int k a))):
    QW P E st ⟨dd,.convert s t x,ty,pos,af,gd⟩ (.c (Yv (FloatKind.f64.nearest a))):=.pure fun A act w hs'=>by
  obtain⟨ds,hds⟩:=Option.isSome_iff_exists.1 hs
  exact⟨_,by simp only[execOp,hx.eq hs',Go.convert,Sem.run_bind,Qq _ hds,Qq _ hU,Result.andThen_ok,Conv.intToFloat,Sem.run_pure],.c _⟩
theorem D3{a:Nat}{s:TypeId}{i:Int}(hs:(P.underlying s).isSome=true)(hU:P.underlying t=some (.int .i64))(hx:Ev E st x (.c (Yv a)))
    (hi:(FloatKind.f64.decode a).toInt .zero=some i) (hb: -9223372036854775808≤i∧i≤9223372036854775807):
    QW P E st ⟨dd,.convert s t x,ty,pos,af,gd⟩ (.c (.int .i64 i)):=.pure fun A act w hs'=>by
  obtain⟨ds,hds⟩:=Option.isSome_iff_exists.1 hs
  have hb':IntKind.i64.min≤i∧i≤IntKind.i64.max:=hb
  exact⟨_,by simp only[execOp,hx.eq hs',Go.convert,Sem.run_bind,Qq _ hds,Qq _ hU,Result.andThen_ok,Conv.floatToInt,hi,if_pos hb',Sem.run_pure],.c _⟩
theorem QW.max2{k:IntKind}{a b:Int}{tys:Array TypeId}(hx:Ev E st x (.c (.int k a)))(hy:Ev E st y (.c (.int k b))):
    QW P E st ⟨dd,.call ⟨.builtin .max,#[x,y],tys⟩,ty,pos,af,gd⟩ (.c (.int k (if b>a then b else a))):=.pure fun A act w hs=>
  ⟨_,by simp[execOp,resolve,invoke,builtin,Builtin.max_,hx.eq hs,hy.eq hs,Builtin.max2],.c _⟩
theorem QW.min2{k:IntKind}{a b:Int}{tys:Array TypeId}(hx:Ev E st x (.c (.int k a)))(hy:Ev E st y (.c (.int k b))):
    QW P E st ⟨dd,.call ⟨.builtin .min,#[x,y],tys⟩,ty,pos,af,gd⟩ (.c (.int k (if b<a then b else a))):=.pure fun A act w hs=>
  ⟨_,by simp[execOp,resolve,invoke,builtin,Builtin.min_,hx.eq hs,hy.eq hs,Builtin.min2],.c _⟩
inductive EvC(E:Wy)(st:St):List Operand→List Value→Prop
  |nil:EvC E st [] []
  |cons {x:Operand} {v:Value} {l:List Operand} {vs:List Value} (h:Ev E st x (.c v)) (hs:EvC E st l vs):EvC E st (x::l) (v::vs)
theorem EvC.eq{l:List Operand}{vs:List Value}(h:EvC E st l vs){A:QS}{act:Act}{w:World}(hs:SatA E A st act w):l.map act.eval=vs:=by
  induction h with
  |nil=>rfl
  |cons h _ ih=>simp[h.eq hs,ih]
theorem WN{fn:Go.Fn}{l l':List Operand}{vs vs':List Value}(h:EvC E st l vs)(h':EvC E st l' vs'):
    QW P E st ⟨dd,.makeFunc fn l.toArray l'.toArray,ty,pos,af,gd⟩ (.c (.func fn vs.toArray vs'.toArray)):=.pure fun A act w hs=>
  ⟨_,by
    have h1:=h.eq hs
    have h2:=h'.eq hs
    simp only[execOp,Instr.makeFunc,Sem.run_bind,Sem.run_pure,Result.andThen_ok,List.map_toArray,h1,h2],.c _⟩
end

end
section
/- Numbers as words: what a word is, and how two words stand to each other, by whole numbers alone. -/
abbrev My(b:Nat):Ieee.Datum:=Ieee.double.read b
def isNan(b:Nat):Bool:=(My b).isNaN
def NL:Nat:=0x7ff8000000000000
def UT(b:Nat):Nat:=if isNan b then NL else b
theorem Ri(n:Int):compare n n=.eq:=by simp[compare,compareOfLessAndEq]
theorem Fk(b:Nat):ford b b=if isNan b then none else some .eq:=by
  show(My b).order (My b)=if(My b).isNaN then none else some .eq
  cases h:My b with
  |nan s t=>simp[Ieee.Datum.order,Ieee.Datum.isNaN]
  |infinity s=>cases s<;>simp[Ieee.Datum.order,Ieee.Datum.isNaN,compare,compareOfLessAndEq]
  |number s m i=>simp[Ieee.Datum.order,Ieee.Datum.isNaN,Ri]
theorem Y4(b:Nat):(ford b b !=some .eq)=isNan b:=by
  rw[Fk];cases isNan b<;>rfl
theorem De{c:Nat}(h:Kx c):isNan c=true:=by
  obtain⟨t,rfl⟩:=h
  unfold isNan My Ieee.Format.read Ieee.Format.signWeight Ieee.Format.infRung Ieee.Format.binade Ieee.double
  have h1:(t / 2)%(2^52-1)<2^52-1:=Nat.mod_lt _ (by decide)
  have h2:((t%2)*2^63+0x7ff0000000000000+1+(t / 2)%(2^52-1))%2^(11+52)=0x7ff0000000000000+1+(t / 2)%(2^52-1):=by omega
  simp only[h2]
  rw[if_neg (by omega),if_neg (by omega),if_neg (by omega)]
  rfl
/-! ### how two words stand to each other -/
def Q7(b:Nat):Nat:=b%2^63
def Kk(b:Nat):Bool:=b / 2^63%2==1
def Ux:Nat:=2047*2^52
def sr(b:Nat):Int:=if Kk b then -(Q7 b:Int)else Q7 b
def UF(r:Nat):Nat:=if r<2^52 then r else(2^52+r%2^52)*2^(r / 2^52-1)
def Ul:Int:= -1074
theorem LL(b:Nat):My b=
    if Q7 b<2^52 then .number (Kk b) (Q7 b) Ul
    else if Q7 b<Ux then .number (Kk b) (2^52+Q7 b%2^52) (Ul+((Q7 b / 2^52-1:Nat):Int))
    else if Q7 b=Ux then .infinity (Kk b)else .nan (Kk b) (Q7 b-Ux):=rfl
theorem WF(b:Nat):isNan b=decide (Ux<Q7 b):=by
  unfold isNan
  rw[LL]
  unfold Ux
  split
  · simp[Ieee.Datum.isNaN];omega
  · split
    · simp[Ieee.Datum.isNaN];omega
    · split
      · simp[Ieee.Datum.isNaN];omega
      · simp[Ieee.Datum.isNaN];omega
theorem Ez{r r':Nat}(h:r<r'):UF r<UF r':=by
  unfold UF
  by_cases h1:r'<2^52
  · rw[if_pos (by omega),if_pos h1];exact h
  · rw[if_neg h1]
    have hp:0<2^(r' / 2^52-1):=Nat.two_pow_pos _
    by_cases h2:r<2^52
    · rw[if_pos h2]
      calc r<2^52:=h2
        _≤(2^52+r'%2^52)*1:=by omega
        _≤_:=Nat.mul_le_mul_left _ hp
    · rw[if_neg h2]
      have hf:r%2^52<2^52:=Nat.mod_lt _ (by decide)
      by_cases he:r / 2^52=r' / 2^52
      · rw[he]
        refine Nat.mul_lt_mul_of_pos_right ?_ hp
        omega
      · have hlt:r / 2^52<r' / 2^52:=by omega
        have h1':1≤r / 2^52:=by omega
        calc (2^52+r%2^52)*2^(r / 2^52-1)<(2^52*2)*2^(r / 2^52-1):=Nat.mul_lt_mul_of_pos_right (by omega) (Nat.two_pow_pos _)
          _=2^52*2^(r / 2^52-1+1):=by rw[show 2^(r / 2^52-1+1)=2^(r / 2^52-1)*2 from Nat.pow_succ _ _,Nat.mul_assoc,Nat.mul_comm 2]
          _≤2^52*2^(r' / 2^52-1):=Nat.mul_le_mul_left _ (Nat.pow_le_pow_right (by decide) (by omega))
          _≤_:=Nat.mul_le_mul_right _ (by omega)
theorem Xb{r r':Nat}:(UF r<UF r'↔r<r')∧(UF r=UF r'↔r=r'):=by
  rcases Nat.lt_trichotomy r r' with h|h|h
  · have:=Ez h;exact⟨by omega,by omega⟩
  · subst h;exact⟨by omega,by simp⟩
  · have:=Ez h;exact⟨by omega,by omega⟩
theorem WH(a b:Int):compare a b=if a<b then .lt else if a=b then .eq else .gt:=by
  simp only[compare,compareOfLessAndEq]
theorem MM(a b:Int)(k:Nat):compare (a*2^k) (b*2^k)=compare a b:=by
  have hp:(0:Int)<2^k:=Int.pow_pos (by decide)
  rw[WH,WH]
  by_cases h1:a<b
  · rw[if_pos h1,if_pos (Int.mul_lt_mul_of_pos_right h1 hp)]
  · rw[if_neg h1,if_neg (by intro h;exact h1 (Int.lt_of_mul_lt_mul_right h (Int.le_of_lt hp)))]
    by_cases h2:a=b
    · rw[if_pos h2,if_pos (by rw[h2])]
    · rw[if_neg h2,if_neg (by intro h;exact h2 (Int.eq_of_mul_eq_mul_right (Int.ne_of_gt hp) h))]
theorem KO(s:Bool)(m k:Nat):Ieee.signed s m k=(if s then -(m:Int)else m)*2^k:=by
  unfold Ieee.signed
  rw[Nat.shiftLeft_eq]
  cases s<;>simp[Int.neg_mul]
theorem GE(s:Bool)(m a c:Nat)(h:c≤a):Ieee.signed s m a=Ieee.signed s m (a-c)*2^c:=by
  rw[KO,KO,Int.mul_assoc,← Int.pow_add,Nat.sub_add_cancel h]
theorem MB(s t:Bool)(m k a b:Nat):(Ieee.Datum.number s m (Ul+a)).order (.number t k (Ul+b))=some (compare (Ieee.signed s m a) (Ieee.signed t k b)):=by
  have hb:min (Ul+(a:Int)) (Ul+b)=Ul+((min a b:Nat):Int):=by
    rcases Nat.le_total a b with h|h
    · rw[Nat.min_eq_left h,Int.min_eq_left (by omega)]
    · rw[Nat.min_eq_right h,Int.min_eq_right (by omega)]
  simp only[Ieee.Datum.order,hb]
  rw[show(Ul+(a:Int)-(Ul+((min a b:Nat):Int))).toNat=a-min a b by omega,show(Ul+(b:Int)-(Ul+((min a b:Nat):Int))).toNat=b-min a b by omega]
  rw[GE s m a (min a b) (Nat.min_le_left _ _),GE t k b (min a b) (Nat.min_le_right _ _),MM]
theorem Y9{b:Nat}(h:Q7 b<Ux):∃m a:Nat,My b=.number (Kk b) m (Ul+a)∧m*2^a=UF (Q7 b):=by
  rw[LL]
  by_cases h1:Q7 b<2^52
  · exact⟨Q7 b,0,by rw[if_pos h1];simp,by simp[UF,h1]⟩
  · exact⟨_,_,by rw[if_neg h1,if_pos h],by simp[UF,h1]⟩
theorem HQ{s:Bool}{m a r:Nat}(h:m*2^a=UF r):Ieee.signed s m a=if s then -(UF r:Int)else UF r:=by
  rw[KO,← h]
  cases s<;>simp[Int.neg_mul]
theorem E8(x y:Nat):ford x y=if isNan x||isNan y then none else some (compare (sr x) (sr y)):=by
  show(My x).order (My y)=_
  rw[WF,WF]
  by_cases hx:Ux<Q7 x
  · have:My x=.nan (Kk x) (Q7 x-Ux):=by rw[LL,if_neg (by unfold Ux at hx;omega),if_neg (by omega),if_neg (by omega)]
    rw[this];simp[Ieee.Datum.order,hx]
  · by_cases hy:Ux<Q7 y
    · have:My y=.nan (Kk y) (Q7 y-Ux):=by rw[LL,if_neg (by unfold Ux at hy;omega),if_neg (by omega),if_neg (by omega)]
      rw[this]
      simp only[hy,hx,decide_true,decide_false,Bool.or_true,if_true]
      cases My x<;>rfl
    · simp only[hy,hx,decide_false,Bool.or_false,Bool.false_eq_true,if_false]
      have hinf:∀b,Q7 b=Ux→My b=.infinity (Kk b):=fun b hb=>by rw[LL,if_neg (by unfold Ux at hb;omega),if_neg (by omega),if_pos hb]
      have hr0:0<Ux:=by decide
      by_cases hxi:Q7 x=Ux
      · by_cases hyi:Q7 y=Ux
        · rw[hinf x hxi,hinf y hyi]
          simp only[Ieee.Datum.order,sr,hxi,hyi]
          cases Kk x<;>cases Kk y<;>rfl
        · obtain⟨m,a,hm,_⟩:=Y9 (b:=y) (by omega)
          rw[hinf x hxi,hm]
          simp only[Ieee.Datum.order,sr,hxi,WH]
          cases Kk x<;>cases Kk y<;>simp<;>(try rw[if_neg (by omega),if_neg (by omega)])<;>(try omega)
      · obtain⟨m,a,hm,hma⟩:=Y9 (b:=x) (by omega)
        by_cases hyi:Q7 y=Ux
        · rw[hinf y hyi,hm]
          simp only[Ieee.Datum.order,sr,hyi,WH]
          cases Kk x<;>cases Kk y<;>simp<;>(try rw[if_neg (by omega),if_neg (by omega)])<;>(try omega)
        · obtain⟨k,b,hk,hkb⟩:=Y9 (b:=y) (by omega)
          rw[hm,hk,MB,HQ hma,HQ hkb]
          have h1:=Xb (r:=Q7 x) (r':=Q7 y)
          have h2:=Xb (r:=Q7 y) (r':=Q7 x)
          have h0:UF 0=0:=by decide
          have h3:=Xb (r:=0) (r':=Q7 x)
          have h4:=Xb (r:=0) (r':=Q7 y)
          rw[h0]at h3 h4
          simp only[sr,WH]
          congr 1
          cases Kk x<;>cases Kk y<;>simp only[if_true,if_false,Bool.false_eq_true]
          · by_cases hl:Q7 x<Q7 y
            · rw[if_pos (by have:=h1.1.2 hl;omega),if_pos (by omega)]
            · by_cases he:Q7 x=Q7 y
              · rw[he];simp
              · rw[if_neg (by have:=h1.1;omega),if_neg (by have:=h1.2;omega),if_neg (by omega),if_neg (by omega)]
          · by_cases he:Q7 x=0∧Q7 y=0
            · rw[he.1,he.2];simp[h0]
            · rw[if_neg (by omega),if_neg (by have:=h3.2;have:=h4.2;omega),if_neg (by omega),if_neg (by omega)]
          · by_cases he:Q7 x=0∧Q7 y=0
            · rw[he.1,he.2];simp[h0]
            · rw[if_pos (by have:=h3.1;have:=h4.1;omega),if_pos (by omega)]
          · by_cases hl:Q7 y<Q7 x
            · rw[if_pos (by have:=h2.1.2 hl;omega),if_pos (by omega)]
            · by_cases he:Q7 x=Q7 y
              · rw[he];simp
              · rw[if_neg (by have:=h2.1;omega),if_neg (by have:=h1.2;omega),if_neg (by omega),if_neg (by omega)]
/-! ### comparisons as Bools -/
section
variable {x y:Nat}
theorem Th(hx:isNan x=false)(hy:isNan y=false):ford x y=some (compare (sr x) (sr y)):=by rw[E8,hx,hy];rfl
theorem KT(hx:isNan x=false)(hy:isNan y=false):(ford x y==some .gt)=decide (sr y<sr x):=by
  rw[Th hx hy,WH]
  by_cases h1:sr x<sr y
  · rw[if_pos h1];simp;omega
  · rw[if_neg h1]
    by_cases h2:sr x=sr y
    · rw[if_pos h2];simp;omega
    · rw[if_neg h2];simp;omega
theorem L0(hx:isNan x=false)(hy:isNan y=false):(ford x y==some .eq)=decide (sr x=sr y):=by
  rw[Th hx hy,WH]
  by_cases h1:sr x<sr y
  · rw[if_pos h1];simp;omega
  · rw[if_neg h1]
    by_cases h2:sr x=sr y
    · rw[if_pos h2];simp;omega
    · rw[if_neg h2];simp;omega
end
theorem Fm{x y:Nat}(h:isNan x=true):ford x y=none:=by rw[E8,h];rfl
/-! ### bits -/
theorem Lz(n:Nat)(h:n<2^64):IntKind.u64.wrap (n:Int)=n:=wu64 (by omega)
theorem Cn(a b:Nat)(ha:a<2^64)(hb:b<2^64):YS .or .u64 (a:Int) (b:Int)=((a|||b:Nat):Int):=by
  show IntKind.u64.wrap (((BitVec.ofInt 64 (a:Int))|||(BitVec.ofInt 64 (b:Int))).toNat:Int)=_
  rw[BitVec.ofInt_natCast,BitVec.ofInt_natCast,BitVec.toNat_or,BitVec.toNat_ofNat,BitVec.toNat_ofNat,Nat.mod_eq_of_lt ha,Nat.mod_eq_of_lt hb]
  exact Lz _ (Nat.or_lt_two_pow ha hb)
theorem Tx(a b:Nat)(ha:a<2^64)(hb:b<2^64):YS .xor .u64 (a:Int) (b:Int)=((a^^^b:Nat):Int):=by
  show IntKind.u64.wrap (((BitVec.ofInt 64 (a:Int))^^^(BitVec.ofInt 64 (b:Int))).toNat:Int)=_
  rw[BitVec.ofInt_natCast,BitVec.ofInt_natCast,BitVec.toNat_xor,BitVec.toNat_ofNat,BitVec.toNat_ofNat,Nat.mod_eq_of_lt ha,Nat.mod_eq_of_lt hb]
  exact Lz _ (Nat.xor_lt_two_pow ha hb)
theorem PJ(a k:Nat):a&&& (2^k-1)=a%2^k:=Nat.and_two_pow_sub_one_eq_mod a k
theorem Ty(a b:Nat)(ha:a<2^64)(hb:b<2^64):YS .andNot .u64 (a:Int) (b:Int)=((a&&& (2^64-1-b):Nat):Int):=by
  show IntKind.u64.wrap (((BitVec.ofInt 64 (a:Int))&&& ~~~(BitVec.ofInt 64 (b:Int))).toNat:Int)=_
  rw[BitVec.ofInt_natCast,BitVec.ofInt_natCast,BitVec.toNat_and,BitVec.toNat_not,BitVec.toNat_ofNat,BitVec.toNat_ofNat,Nat.mod_eq_of_lt ha,Nat.mod_eq_of_lt hb]
  exact Lz _ (Nat.lt_of_le_of_lt Nat.and_le_left ha)
theorem absbits(b:Nat)(hb:b<2^64):YS .andNot .u64 (b:Int) 9223372036854775808=((b%2^63:Nat):Int):=by
  have:=Ty b 9223372036854775808 hb (by decide)
  rw[show((9223372036854775808:Nat):Int)=9223372036854775808 from rfl]at this
  rw[this,show 2^64-1-9223372036854775808=2^63-1 from rfl,PJ]
theorem HJ{b:Nat}(h:2^63≤b)(h2:b<2^64):IntKind.i64.wrap (b:Int)=(b:Int)-2^64:=by
  rw[IntKind.wrap_i64];omega
/-! ### the page's numbers -/
def YR(b:Nat):Int:=if isNan b then 5 else if Q7 b=Ux then 4 else if 2^52≤Q7 b then 3 else if 0<Q7 b then 2 else if 2^63≤b then 1 else 0
def Gk(b:Nat):Nat:=if isNan b then 2^64-1 else if 2^63≤b then 2^64-1-b else b+2^63
theorem RQ(b:Nat):Q7 (b%2^63)=Q7 b:=by unfold Q7;omega
theorem Sh(b:Nat):Kk (b%2^63)=false:=by
  unfold Kk
  rw[Nat.div_eq_of_lt (Nat.mod_lt _ (by decide))];rfl
theorem KR(b:Nat):isNan (b%2^63)=isNan b:=by rw[WF,WF,RQ]
theorem Hi(b:Nat):sr (b%2^63)=Q7 b:=by unfold sr;rw[Sh,RQ];rfl
theorem T8{b:Nat}(hb:b<2^64)(hn:isNan b=false):
    YS .xor .u64 (b:Int) (YS .or .u64 (IntKind.u64.wrap ((IntKind.i64.wrap (b:Int)).fdiv (2^63))) 9223372036854775808)=(Gk b:Int):=by
  unfold Gk
  rw[hn,if_neg (by decide)]
  by_cases h:2^63≤b
  · rw[HJ h hb,if_pos h]
    have h1:((b:Int)-2^64).fdiv (2^63)= -1:=by
      rw[Int.fdiv_eq_ediv_of_nonneg _ (by decide)];omega
    rw[h1,show IntKind.u64.wrap (-1)=((2^64-1:Nat):Int)from rfl]
    have h2:=Cn (2^64-1) 9223372036854775808 (by decide) (by decide)
    rw[show((9223372036854775808:Nat):Int)=9223372036854775808 from rfl]at h2
    rw[h2,Tx _ _ hb (by decide),show(2^64-1|||9223372036854775808)=2^64-1 from rfl]
    congr 1
    have:b^^^(2^64-1)=2^64-1-b:=by
      have h3:=BitVec.toNat_not (x:=BitVec.ofNat 64 b)
      rw[← BitVec.xor_allOnes,BitVec.toNat_xor,BitVec.toNat_allOnes,BitVec.toNat_ofNat,Nat.mod_eq_of_lt hb]at h3
      exact h3
    exact this
  · rw[Yy (by omega),if_neg h]
    have h1:(b:Int).fdiv (2^63)=0:=by
      rw[Int.fdiv_eq_ediv_of_nonneg _ (by decide)];omega
    rw[h1,show IntKind.u64.wrap 0=((0:Nat):Int)from rfl]
    have h2:=Cn 0 9223372036854775808 (by decide) (by decide)
    rw[show((9223372036854775808:Nat):Int)=9223372036854775808 from rfl]at h2
    rw[h2,Tx _ _ hb (by decide)]
    congr 1
    show b^^^2^63=b+2^63
    have h3:b<2^63:=by omega
    have h4:(b^^^2^63)%2^63=b:=by rw[Nat.xor_mod_two_pow,Nat.mod_eq_of_lt h3];simp
    have h5:(b^^^2^63) / 2^63=1:=by rw[Nat.xor_div_two_pow,Nat.div_eq_of_lt h3];rfl
    omega

end
section
/- Numbers: what is written is no NaN; the four operations and the floor as functions of words. -/
theorem Y1{s:Bool}{r:Nat}(h:r<2^63):Q7 (Ieee.double.word s r)=r∧Kk (Ieee.double.word s r)=s∧Ieee.double.word s r<2^64:=by
  have hw:Ieee.double.word s r=if s then 2^63+r else r:=rfl
  rw[hw]
  unfold Q7 Kk
  cases s
  · simp only[Bool.false_eq_true,if_false]
    refine⟨by omega,?_,by omega⟩
    rw[Nat.div_eq_of_lt h];rfl
  · simp only[if_true]
    refine⟨by omega,?_,by omega⟩
    rw[show(2^63+r) / 2^63=1 by omega];rfl
theorem Lf:Ux<2^63:=by decide
theorem GI(s:Bool)(m:Nat)(p:Int):∃r,r≤Ux∧Ieee.double.nearest s m p=Ieee.double.word s r:=by
  unfold Ieee.Format.nearest
  split
  · exact⟨0,Nat.zero_le _,rfl⟩
  · exact⟨_,Nat.min_le_right _ _,rfl⟩
theorem TV{d:Ieee.Datum}(h:d.isNaN=false):∃r,r≤Ux∧Ieee.double.write d=Ieee.double.word d.neg r:=by
  cases d with
  |nan s t=>simp[Ieee.Datum.isNaN]at h
  |infinity s=>exact⟨Ux,Nat.le_refl _,rfl⟩
  |number s m p=>exact GI s m p
theorem Gr{s:Bool}{r:Nat}(h:r≤Ux):isNan (Ieee.double.word s r)=false:=by
  rw[WF,(Y1 (Nat.lt_of_le_of_lt h Lf)).1];simp;omega
theorem XV{d:Ieee.Datum}(h:d.isNaN=false):isNan (Ieee.double.write d)=false:=by
  obtain⟨r,hr,hw⟩:=TV h
  rw[hw];exact Gr hr
theorem Gc(d:Ieee.Datum):Ieee.double.write d<2^64:=by
  cases d with
  |nan s t=>
    refine(Y1 ?_).2.2
    have h:t%Ieee.double.binade<2^52:=Nat.mod_lt _ (by decide)
    have:Ieee.double.infRung=Ux:=rfl
    rw[this];unfold Ux;omega
  |infinity s=>exact(Y1 (r:=Ux) Lf).2.2
  |number s m p=>obtain⟨r,hr,hw⟩:=GI s m p;show Ieee.double.nearest s m p<_;rw[hw];exact(Y1 (Nat.lt_of_le_of_lt hr Lf)).2.2
theorem H2{op:BinOp}{a b c:Nat}(h:UH op a b=some c):isNan c=false∧c<2^64:=by
  have key:∀{o:Option Ieee.Datum},(∀d,o=some d→d.isNaN=false)→o.map Ieee.double.write=some c→isNan c=false∧c<2^64:=by
    intro o ho h
    cases o with
    |none=>cases h
    |some d=>cases h;exact⟨XV (ho d rfl),Gc d⟩
  have hsum:∀x y d,Ieee.Datum.sum x y=some d→d.isNaN=false:=by
    intro x y d h
    cases x<;>cases y<;>simp[Ieee.Datum.sum]at h
    · subst h;rfl
    · subst h;rfl
    · subst h;rfl
    · rw[← h.2];rfl
  have hprod:∀x y d,Ieee.Datum.product x y=some d→d.isNaN=false:=by
    intro x y d h
    cases x<;>cases y<;>simp[Ieee.Datum.product]at h
    · subst h;rfl
    · rw[← h.2];rfl
    · rw[← h.2];rfl
    · subst h;rfl
  have hquo:∀k x y d,Ieee.Datum.quotient k x y=some d→d.isNaN=false:=by
    intro k x y d h
    cases x<;>cases y<;>simp only[Ieee.Datum.quotient]at h<;>(repeat' split at h)<;>first|(cases h;rfl)|cases h
  cases op<;>first|exact key (hsum _ _) h|exact key (hprod _ _) h|exact key (hquo _ _ _) h
def Wd(op:BinOp)(a b:Nat):Nat:=(UH op a b).getD NL
theorem TA{op:BinOp}{a b c:Nat}(h:UH op a b=some c∨(UH op a b=none∧Kx c)):UT c=Wd op a b:=by
  rcases h with h|⟨h,hn⟩
  · simp[Wd,h,UT,(H2 h).1]
  · simp[Wd,h,UT,De hn]
def Dx(b:Nat):Nat:=Ieee.double.write ((My b).integral .down)
def Hh(b:Nat):Nat:=Ieee.double.write ((My b).integral .zero)
def Ka(b:Nat):Nat:=if isNan b then NL else Dx b
theorem Kg{b:Nat}(h:isNan b=false)(way:Ieee.Toward):((My b).integral way).isNaN=false:=by
  unfold isNan at h
  cases hd:My b with
  |nan s t=>rw[hd]at h;simp[Ieee.Datum.isNaN]at h
  |infinity s=>rfl
  |number s m p=>rfl
theorem CR{s:Bool}{t:Nat}:isNan (Ieee.double.write (.nan s (Ieee.double.quiet t)))=true:=by
  show isNan (Ieee.double.word s (Ux+(t|||2^51)%2^52))=true
  have h1:(t|||2^51)%2^52<2^52:=Nat.mod_lt _ (by decide)
  have h2:(t|||2^51)%2^52≠0:=by
    intro h
    have h3:((t|||2^51)%2^52).testBit 51=true:=by
      rw[Nat.testBit_mod_two_pow,Nat.testBit_or,Nat.testBit_two_pow_self];simp
    rw[h]at h3;simp at h3
  rw[WF,(Y1 (by unfold Ux;omega)).1]
  exact decide_eq_true (by omega)
section
variable {P:Program} {E:Wy} {Q:Exit→St→Prop} {n:Nat} {env:List (Nat×AV)} {own:List Own} {F:List (Value×AV)} {D:List Deferred} {d:Nat} {ops:Array Oper} {rest:List Oper}
variable {ty:TypeId} {pos:String} {af:Array Edge} {x:Operand}
theorem G1{f:FuncId}{fn:Func}{e:Array Value→Sem Value}(h1:P.funcs[f]? =some fn)(h2:(fn.name== "runtime.NumGoroutine")=false)(h3:fn.body.isNone=true)
    (h4:(Extern.findNext fn).isNone=true) (h5:Extern.find fn=some e) (args:Array Value) (w:World):
    (callFunc f args).run P w=((e args).run P w).andThen fun v w=>.ok (.value v) w:=by
  have h4':Extern.findNext fn=none:=by cases h:Extern.findNext fn<;>simp_all
  simp only[callFunc,Sem.run_bind,run_program,Result.andThen_ok,h1,h2,h3,h4',h5,Bool.false_eq_true,if_false,if_true,run_mark]
  rfl
theorem Cp{f:FuncId}{tys:Array TypeId}{nm:String}{way:Ieee.Toward}{b:Nat}
    (hf:∀(b:Nat) w,(callFunc f #[Yv b]).run P w=((Extern.MathFloor.toIntegral nm way #[Yv b]).run P w).andThen fun v w=>.ok (.value v) w)
    (hx:Ev E ⟨n,env,own,F,D⟩ x (.c (Yv b))) (hd:Nat.blt d n=true)
    (h:∀c,((isNan b=false∧c=Ieee.double.write ((My b).integral way))∨(isNan b=true∧isNan c=true))→JL P E ops rest ⟨n,(d,.c (Yv c))::env,own,F,D⟩ Q):
    JL P E ops (⟨some d,.call ⟨.value (.func f),#[x],tys⟩,ty,pos,af,none⟩::rest) ⟨n,env,own,F,D⟩ Q:=fun act w ⟨A,hA⟩=>by
  refine wpListIn_plain rfl fun K hK=>?_
  refine Hd (by intro c h;cases h) ?_
  unfold Oper.wp
  have hrun:(execOp act.eval ⟨some d,.call ⟨.value (.func f),#[x],tys⟩,ty,pos,af,none⟩).run P w=((Extern.MathFloor.toIntegral nm way #[Yv b]).run P w).andThen fun v w=>.ok (.value v) w:=by
    rw[← hf b w]
    simp only[execOp,resolve,Act.eval,Deferred.ofValue,Sem.run_bind,Sem.run_pure,Result.andThen_ok,invoke]
    simp[hx.eq hA]
  rw[hrun]
  have heq:Extern.MathFloor.toIntegral nm way #[Yv b]=(match FloatKind.f64.decode b with
      |.nan s t=>if FloatKind.f64.format.quiet t=t then pure (Yv b)else do
        let kept ← choose (.extern "math.Floor,Ceil,Trunc,RoundToEven.signallingNaN kept" 2)
        pure (Yv (if kept==1 then b else FloatKind.f64.encode (.nan s (FloatKind.f64.format.quiet t))))
      |d=>pure (Yv (FloatKind.f64.encode (d.integral way)))):=rfl
  rw[heq]
  simp only[FloatKind.decode,FloatKind.encode,show FloatKind.f64.format=Ieee.double from rfl]
  cases hd':My b with
  |nan s t=>
    have hnb:isNan b=true:=by unfold isNan;rw[hd'];rfl
    have hd'':Ieee.double.read b=.nan s t:=hd'
    simp only[hd'']
    by_cases hq:Ieee.double.quiet t=t
    · simp only[hq,if_true,Sem.run_pure,Result.andThen_ok,Oper.upon_value]
      exact hK _ _ (h b (.inr ⟨hnb,hnb⟩) _ _ ⟨A,hA.put (Ui hd) (.c _)⟩)
    · have hk:∀c,isNan c=true→K (act.put (some d) (Yv c)) (Q9 w):=fun c hc=>hK _ _ (h c (.inr ⟨hnb,hc⟩) _ _ ⟨A,hA.draw.put (Ui hd) (.c _)⟩)
      simp only[hq,if_false,Sem.run_bind,run_choose,Question.forced]
      simp only[show(2=1)=False by simp,decide_false,Bool.false_eq_true,if_false,Result.andThen_ok,Sem.run_pure,Oper.upon_value]
      refine hk _ ?_
      split
      · exact hnb
      · exact CR
  |infinity s=>
    have hnb:isNan b=false:=by unfold isNan;rw[hd'];rfl
    have hd'':Ieee.double.read b=.infinity s:=hd'
    simp only[hd'',Sem.run_pure,Result.andThen_ok,Oper.upon_value]
    exact hK _ _ (h _ (.inl ⟨hnb,by rw[hd']⟩) _ _ ⟨A,hA.put (Ui hd) (.c _)⟩)
  |number s m p=>
    have hnb:isNan b=false:=by unfold isNan;rw[hd'];rfl
    have hd'':Ieee.double.read b=.number s m p:=hd'
    simp only[hd'',Sem.run_pure,Result.andThen_ok,Oper.upon_value]
    exact hK _ _ (h _ (.inl ⟨hnb,by rw[hd']⟩) _ _ ⟨A,hA.put (Ui hd) (.c _)⟩)
end

end
section
/- Expressions as plain trees: their cells, and what the page says of one part. -/
inductive EX where
  |mk (op:Int) (bits:Nat) (text:List UInt8) (args:List EX)
def EX.op:EX→Int|.mk o _ _ _=>o
def EX.bits:EX→Nat|.mk _ b _ _=>b
def EX.text:EX→List UInt8|.mk _ _ t _=>t
def EX.args:EX→List EX|.mk _ _ _ l=>l
def RB:U7:=⟨4,56⟩
mutual
/-- The cells of an expression. -/
def EX.cs(fr:Bool):EX→List AV
  |.mk o b t l=>[.c (.int .i64 o),.c (.int .u64 (b:Int)),.c (Q4 t),.sl fr false RB (EX.css fr l)]
def EX.css(fr:Bool):List EX→List (List AV)
  |[]=>[]
  |v::r=>v.cs fr::EX.css fr r
end
theorem EX.css_eq(fr:Bool):∀l,EX.css fr l=l.map (EX.cs fr)
  |[]=>rfl
  |v::r=>by simp[EX.css,EX.css_eq fr r]
theorem EX.css_length(fr:Bool)(l:List EX):(EX.css fr l).length=l.length:=by simp[EX.css_eq]
theorem EX.css_get(fr:Bool){l:List EX}{i:Nat}{v:EX}(h:l[i]? =some v):(EX.css fr l)[i]? =some (v.cs fr):=by simp[EX.css_eq,h]
inductive EX.wf:EX→Prop
  |mk {o:Int} {b:Nat} {t:List UInt8} {l:List EX} (h1: -9223372036854775808≤o∧o≤9223372036854775807) (h2:b<2^64) (h3:t.length≤Qr) (h4:l.length*56≤Qr) (h5:∀x∈l,EX.wf x):EX.wf (.mk o b t l)
/-! ### one part -/
def Uw(o:Int):Int:=
  if o<0∨30≤o then -2 else if o≤7 then 0 else if o=23 then -1 else if o=8∨o=10∨o=15∨o=20∨o=26 then 1 else if o=21 then 3 else 2
def UY(o:Int):Int:=if o=8∨o=25 then 1 else 0
def UP(o:Int):Int:=if o=4 then 128 else if o=8∨o=25 then 16 else 0
def EX.ok(e:EX):Bool:=
  decide (Uw e.op≠ -2)&&(Uw e.op== -1||((e.args.length:Int)==Uw e.op))&&decide ((e.args.length:Int)≤8)&&decide (UY e.op≤e.text.length)&&decide ((e.text.length:Int)≤UP e.op)&&
    (if e.op=3 then UT e.bits==e.bits else e.bits==0)

end
section
/- Calls that pass own entries, or lend them to be read; what is read through blocks of one sort alone; loops that keep the slots around them. -/
inductive Fl(p:Bool→Prop):AV→Prop
  |c (v:Value):Fl p (.c v)
  |gp (v:Value) (o:Nat):Fl p (.gp v o)
  |sl {fr clip:Bool} {e:U7} {xs:List (List AV)} (hp:p fr) (h:∀(k:Nat) (y:AV),xs.flatten[k]? =some y→Fl p y):Fl p (.sl fr clip e xs)
  |ref {fr:Bool} {ys:List AV} (hp:p fr) (h:∀(k:Nat) (y:AV),ys[k]? =some y→Fl p y):Fl p (.ref fr ys)
  |agg {ys:List AV} (h:∀(k:Nat) (y:AV),ys[k]? =some y→Fl p y):Fl p (.agg ys)
  |tup {ys:List AV} (h:∀(k:Nat) (y:AV),ys[k]? =some y→Fl p y):Fl p (.tup ys)
  |wh {t:Bool} {x:AV} (h:Fl p x):Fl p (.wh t x)
def FlL(p:Bool→Prop)(ys:List AV):Prop:=∀(k:Nat) (y:AV),ys[k]? =some y→Fl p y
theorem FlL.nil{p:Bool→Prop}:FlL p []:=fun k y h=>by simp at h
theorem FlL.cons{p:Bool→Prop}{y:AV}{ys:List AV}(h:Fl p y)(hs:FlL p ys):FlL p (y::ys):=fun k z hk=>by
  cases k with
  |zero=>simp at hk;subst hk;exact h
  |succ k=>exact hs k z (by simpa using hk)
theorem FlL.append{p:Bool→Prop}{ys zs:List AV}(h:FlL p ys)(hs:FlL p zs):FlL p (ys++zs):=fun k z hk=>by
  by_cases hlt:k<ys.length
  · rw[List.getElem?_append_left hlt]at hk;exact h k z hk
  · rw[List.getElem?_append_right (by omega)]at hk;exact hs _ z hk
theorem FlL.c{p:Bool→Prop}:∀(vs:List Value),FlL p (vs.map AV.c)
  |[]=>.nil
  |v::vs=>.cons (.c v) (FlL.c vs)
abbrev NA:AV→Prop:=Fl (·=true)
theorem Rd.flags{w w':World}{A A':QS}{p:Bool→Prop}{v:Value}{x:AV}(h:Rd w A v x)(hx:Fl p x)(hA:∀fr b,p fr→A fr b→A' fr b)(hw:∀fr b,p fr→A fr b→w'.heap[b]? =w.heap[b]?):Rd w' A' v x:=by
  induction h with
  |c v=>exact .c v
  |emp fr clip e a cap hc=>exact .emp fr clip e a cap hc
  |sl fr clip e xs b off cap cs t fz u hA' hb hcap hclip hsz hreach hu _ ih=>
    cases hx with
    |sl hp h=>exact .sl fr clip e xs b off cap cs t fz u (hA _ _ hp hA') (by rw[hw _ _ hp hA'];exact hb) hcap hclip hsz hreach hu fun k y hk=>ih k y hk (h k y hk)
  |ref fr ys b off cs t fz u hA' hb hu _ ih=>
    cases hx with
    |ref hp h=>exact .ref fr ys b off cs t fz u (hA _ _ hp hA') (by rw[hw _ _ hp hA'];exact hb) hu fun k y hk=>ih k y hk (h k y hk)
  |agg vs ys u hn hu _ ih=>cases hx with|agg h=>exact .agg vs ys u hn hu fun k y hk=>ih k y hk (h k y hk)
  |tup vs ys u hn hu _ ih=>cases hx with|tup h=>exact .tup vs ys u hn hu fun k y hk=>ih k y hk (h k y hk)
  |wh t v x _ h0 ih=>cases hx with|wh h=>exact .wh t v x (fun ht=>ih ht h) h0
  |gp b o n cap off=>exact .gp b o n cap off
inductive XA(p:Bool→Prop):Own→Prop
  |box {b:Nat} {ys:List AV} (h:FlL p ys):XA p (.box b ys)
  |arr {v:Value} {e:U7} {xs:List (List AV)} (h:FlL p xs.flatten):XA p (.arr v e xs)
  |grp {l:List Own} (h:∀o∈l,XA p o):XA p (.grp l)
  |mp {b:Nat} {ks:List Value}:XA p (.mp b ks)
theorem Cells.flags{w w':World}{A A':QS}{p:Bool→Prop}{us:Array Value}{off:Nat}{ys:List AV}(h:Cells w A us off ys)(hy:FlL p ys)(hA:∀fr b,p fr→A fr b→A' fr b)(hw:∀fr b,p fr→A fr b→w'.heap[b]? =w.heap[b]?):Cells w' A' us off ys:=
  fun k y hk=>let ⟨u,h1,h0,h2⟩:=h k y hk;⟨u,h1,h0,h2.flags (hy k y hk) hA hw⟩
mutual
theorem Own.ok.flags{w:World}{A A':QS}{p:Bool→Prop}(hA:∀fr b,p fr→A fr b→A' fr b):∀{o:Own},o.ok w A→XA p o→o.ok w A'
  |.box b ys,h,hx=>by
    simp only[Own.ok]at h⊢
    obtain⟨us,t,h1,h2,h3⟩:=h
    cases hx with|box hy=>exact⟨us,t,h1,h2,h3.flags hy hA fun _ _ _ _=>rfl⟩
  |.arr v e xs,h,hx=>by
    simp only[Own.ok]at h⊢
    cases hx with
    |arr hy=>
      rcases h with h|⟨b,cap,us,t,hv,h1,h2,h3,h4,h5⟩
      · exact .inl h
      · exact .inr ⟨b,cap,us,t,hv,h1,h2,h3,h4,h5.flags hy hA fun _ _ _ _=>rfl⟩
  |.grp l,h,hx=>by
    simp only[Own.ok]at h⊢
    cases hx with|grp hy=>exact Own.okl.flags hA h hy
  |.mp b ks,h,hx=>by
    simp only[Own.ok]at h⊢
    exact h
theorem Own.okl.flags{w:World}{A A':QS}{p:Bool→Prop}(hA:∀fr b,p fr→A fr b→A' fr b):∀{l:List Own},Own.okl w A l→(∀o∈l,XA p o)→Own.okl w A' l
  |[],_,_=>by simp[Own.okl]
  |o::l,h,hx=>by
    simp only[Own.okl]at h⊢
    exact⟨Own.ok.flags hA h.1 (hx o (by simp)),Own.okl.flags hA h.2 fun o ho=>hx o (by simp[ho])⟩
end
theorem Gt:∀l:List Own,Yn l=UM l
  |[]=>by simp[Yn,UM]
  |o::l=>by simp[Yn,UM,Gt l]
theorem Xp{w:World}{A:QS}:∀{l:List Own},Own.okl w A l↔∀o∈l,o.ok w A
  |[]=>by simp[Own.okl]
  |o::l=>by simp[Own.okl,Xp (l:=l)]
/-! ### masks -/
inductive Cd where
  |k
  |p
  |l
  deriving DecidableEq
def Yf:List Cd→List Own→List Own
  |[],own=>own
  |_::_,[]=>[]
  |.k::ms,o::own=>o::Yf ms own
  |.p::ms,_::own=>Yf ms own
  |.l::ms,_::own=>Yf ms own
def QI:List Cd→List Own→List Own
  |[],_=>[]
  |_::_,[]=>[]
  |.p::ms,o::own=>o::QI ms own
  |.k::ms,_::own=>QI ms own
  |.l::ms,_::own=>QI ms own
def Wg:List Cd→List Own→List Own
  |[],_=>[]
  |_::_,[]=>[]
  |.l::ms,o::own=>o::Wg ms own
  |.k::ms,_::own=>Wg ms own
  |.p::ms,_::own=>Wg ms own
def QZ:List Cd→List Own→List Own→List Own
  |[],ps,own=>own++ps
  |_::_,ps,[]=>ps
  |.p::ms,p::ps,_::own=>p::QZ ms ps own
  |.p::ms,[],_::own=>QZ ms [] own
  |.k::ms,ps,o::own=>o::QZ ms ps own
  |.l::ms,ps,o::own=>o::QZ ms ps own
theorem Qk:∀(ms:List Cd) (own:List Own),own.Perm (QI ms own++(Wg ms own++Yf ms own))
  |[],own=>by simp[QI,Wg,Yf]
  |_::_,[]=>by simp[QI,Wg,Yf]
  |.p::ms,o::own=>by simpa[QI,Wg,Yf]using Qk ms own
  |.l::ms,o::own=>by
    simp only[QI,Wg,Yf,List.cons_append]
    exact(List.Perm.cons o (Qk ms own)).trans List.perm_middle.symm
  |.k::ms,o::own=>by
    simp only[QI,Wg,Yf]
    refine(List.Perm.cons o (Qk ms own)).trans ?_
    rw[← List.append_assoc,← List.append_assoc]
    exact List.perm_middle.symm
theorem Ky:∀(ms:List Cd) (ps own:List Own),(ps++(Wg ms own++Yf ms own)).Perm (QZ ms ps own)
  |[],ps,own=>by simpa[QZ,Wg,Yf]using List.perm_append_comm
  |_::_,ps,[]=>by simp[QZ,Wg,Yf]
  |.p::ms,p::ps,_::own=>by simpa[QZ,Wg,Yf]using Ky ms ps own
  |.p::ms,[],_::own=>by simpa[QZ,Wg,Yf]using Ky ms [] own
  |.k::ms,ps,o::own=>by
    simp only[QZ,Wg,Yf]
    refine List.Perm.trans ?_ (List.Perm.cons o (Ky ms ps own))
    rw[← List.append_assoc,← List.append_assoc]
    exact List.perm_middle
  |.l::ms,ps,o::own=>by
    simp only[QZ,Wg,Yf,List.cons_append]
    exact List.perm_middle.trans (List.Perm.cons o (Ky ms ps own))
section
variable {P:Program} {E:Wy} {st:St} {Q:Exit→St→Prop} {n B:Nat} {env:List (Nat×AV)} {own:List Own} {F:List (Value×AV)} {D:List Deferred} {ops:Array Oper} {rest:List Oper}
variable {A:QS} {a:Act} {w w':World} {t et ty:TypeId} {pos:String} {af:Array Edge} {d:Nat} {dd:Option Tmp} {gd:Option (Nat×Bool)} {x y:Operand} {g:Bool} {m:Nat}
def Lent(G:List (Value×AV))(O:List Own):Prop:=∀(w:World) (A:QS),Own.okl w A O→(∀b∈UM O,A false b)→(∀b,A true b→A false b)→∀p∈G,Rd w A p.1 p.2
theorem Lent.nil{O:List Own}:Lent [] O:=fun w A _ _ _ p hp=>by cases hp
def HI:Wl→Prop
  |.ret x=>NA x
  |.pan _=>True
theorem SatA.callG{E:Wy}(ms:List Cd){f:FuncId}{l:List Operand}{xs:List AV}{fi ca:List Value}{R:Wl→List Own→Prop}{G:List (Value×AV)}(hG:Lent G (Wg ms own))
    (hfr:Wg ms own=[]∨∀r o,R r o→HI r∧∀x∈o,XA (·=true) x)
    (hA:SatA E A ⟨n,env,own,F,D⟩ a w) (hargs:∀E',EvL E' ⟨n,env,QI ms own++Yf ms own,G++F,D⟩ l xs) (hAC:AC P f (QI ms own) (fi.map AV.c++xs++ca.map AV.c) R)
    {KK:Ending→World→Prop} (hK:∀r own' A' w',R r own'→Frm w A w' A'→SatA E A' ⟨n,env,QZ ms own' own,F,D⟩ a w'→∀e,RdE w' A' e r→KK e w'):
    Calls P f (fi.toArray++l.toArray.map a.eval++ca.toArray) w KK:=by
  obtain⟨O,hO⟩:∃O,O=Wg ms own:=⟨_,rfl⟩
  obtain⟨op,hop⟩:∃op,op=QI ms own:=⟨_,rfl⟩
  obtain⟨ro,hro⟩:∃ro,ro=Yf ms own:=⟨_,rfl⟩
  have hperm:own.Perm (op++(O++ro)):=by rw[hO,hop,hro];exact Qk ms own
  have hmrg:∀ps,(ps++(O++ro)).Perm (QZ ms ps own):=fun ps=>by rw[hO,hro];exact Ky ms ps own
  rw[← hO]at hG hfr
  rw[← hop,← hro]at hargs
  rw[← hop]at hAC
  have h:=hA.perm hperm
  have hn0:=h.keep.size
  have hnd:=h.hp.nodup
  simp only[Q2,List.nodup_append]at hnd
  obtain⟨hd1,⟨hd2,hd3,hd4⟩,hd5⟩:=hnd
  let A1:QS:=fun fr b=>A fr b∨(fr=false∧b∈UM O)
  have hup:∀fr b,A fr b→A1 fr b:=fun fr b hb=>.inl hb
  have hfp:∀b,b∈UM op∨b∈UM O∨b∈UM ro→b<w.heap.size∧(b∈E.fp0∨E.w0.heap.size≤b)∧∀fr,¬A fr b:=fun b hb=>h.hp.fp b (by simp only[Q2,List.mem_append];exact hb)
  have hmv:∀{v x},Rd w A v x→Rd w A1 v x:=fun hr=>hr.move (fun fr b hb _=>hup fr b hb) fun _ _ _ _=>rfl
  have hokm:∀{o:Own},o.ok w A→o.ok w A1:=fun ho=>ho.move (fun fr b hb _=>hup fr b hb) (fun _ _ _ _=>rfl) fun _ _=>rfl
  have hA1lt:∀fr b,A1 fr b→b<w.heap.size:=fun fr b hb=>hb.elim (h.hp.lt fr b) fun hb=>(hfp b (.inr (.inl hb.2))).1
  have hA1m:∀b,A1 true b→A1 false b:=fun b hb=>hb.elim (fun hb=>.inl (h.hp.mono b hb)) fun hb=>by cases hb.1
  have hnot:∀b,b∈UM op∨b∈UM ro→∀fr,¬A1 fr b:=fun b hb fr hA=>by
    rcases hA with hA|⟨_,hA⟩
    · exact(hfp b (hb.elim .inl fun hb=>.inr (.inr hb))).2.2 fr hA
    · rcases hb with hb|hb
      · exact hd5 b hb b (List.mem_append_left _ hA) rfl
      · exact hd4 b hA b hb rfl
  -- the callee's start
  have hstart:Hp w.heap.size (UM op) A1 op w A1:=⟨hA1m,fun _ _ h=>h,fun _ _ h=>.inl h,hA1lt,fun b hb=>⟨(hfp b (.inl hb)).1,.inl hb,hnot b (.inl hb)⟩,hd1,fun o ho=>hokm (h.hp.own o (List.mem_append_left _ ho))⟩
  -- the arguments
  have hargs':SatA ⟨w,UM (op++ro),A1,none⟩ A1 ⟨n,env,op++ro,G++F,D⟩ a w:=by
    refine⟨h.size,h.defers,.refl _ _,⟨hA1m,fun _ _ h=>h,fun _ _ h=>.inl h,hA1lt,fun b hb=>?_,?_,fun o ho=>?_⟩,fun i x hl=>hmv (h.env i x hl),fun p hp=>?_⟩
    · have hb':=hb
      rw[Q2,List.mem_append]at hb
      exact⟨(hfp b (hb.elim .inl fun hb=>.inr (.inr hb))).1,.inl hb',hnot b hb⟩
    · rw[Q2,List.nodup_append]
      exact⟨hd1,hd3,fun b hb c hc=>hd5 b hb c (List.mem_append_right _ hc)⟩
    · rcases List.mem_append.1 ho with ho|ho
      · exact hokm (h.hp.own o (List.mem_append_left _ ho))
      · exact hokm (h.hp.own o (List.mem_append_right _ (List.mem_append_right _ ho)))
    · rcases List.mem_append.1 hp with hp|hp
      · exact hG w A1 (Xp.2 fun o ho=>hokm (h.hp.own o (List.mem_append_right _ (List.mem_append_left _ ho)))) (fun b hb=>.inr ⟨rfl,hb⟩) hA1m p hp
      · exact hmv (h.facts p hp)
  refine(hAC w A1 _ hstart (((hargs _).rdL hargs').around fi ca)).mono ?_
  rintro e w' ⟨r,own',A',hR,hk,hp,hr⟩
  let A2:QS:=fun fr b=>A' fr b∧b∉UM O
  have hA2:∀fr b,A fr b→A2 fr b:=fun fr b hb=>⟨hp.sup fr b (hup fr b hb),fun hm=>(hfp b (.inr (.inl hm))).2.2 fr hb⟩
  have hfix:∀b,b<w.heap.size→b∉UM op→w'.heap[b]? =w.heap[b]? :=fun b hb hm=>hk.block b hb hm
  have hop':∀fr b,A fr b→b∉UM op:=fun fr b hb hm=>(hfp b (.inl hm)).2.2 fr hb
  have hmv2:∀{v x},Rd w A v x→Rd w' A2 v x:=fun hr=>hr.move (fun fr b hb _=>hA2 fr b hb) fun fr b hb hlt=>hfix b hlt (hop' fr b hb)
  have hrest:∀b,b∈UM O∨b∈UM ro→b∉UM op:=fun b hb hm=>hd5 b hm b (List.mem_append.2 hb) rfl
  have hokr:∀o,o∈O∨o∈ro→o.ok w' A2:=fun o ho=>
    (h.hp.own o (List.mem_append_right _ (List.mem_append.2 ho))).move (fun fr b hb _=>hA2 fr b hb) (fun fr b hb hlt=>hfix b hlt (hop' fr b hb))
      fun b hb=>by
        have:b∈UM O∨b∈UM ro:=ho.imp (fun ho=>Ur ho hb) fun ho=>Ur ho hb
        exact hfix b (hfp b (.inr this)).1 (hrest b this)
  have hA'O:∀b,A' true b→b∉UM O:=fun b hb hm=>by
    rcases hp.sub true b hb with h1|h1
    · rcases h1 with h1|h1
      · exact(hfp b (.inr (.inl hm))).2.2 _ h1
      · cases h1.1
    · have:=(hfp b (.inr (.inl hm))).1;omega
  have hres:SatA E A2 ⟨n,env,own'++(O++ro),F,D⟩ a w':=by
    refine⟨h.size,h.defers,h.keep.trans hk fun b hb=>(hfp b (.inl hb)).2.1,⟨fun b hb=>⟨hp.mono b hb.1,hb.2⟩,fun fr b hb=>hA2 fr b (h.hp.sup fr b hb),fun fr b hb=>?_,fun fr b hb=>hp.lt fr b hb.1,fun b hb=>?_,?_,fun o ho=>?_⟩,
      fun i x hl=>hmv2 (h.env i x hl),fun p hp=>hmv2 (h.facts p hp)⟩
    · rcases hp.sub fr b hb.1 with h1|h1
      · rcases h1 with h1|h1
        · exact h.hp.sub fr b h1
        · exact absurd h1.2 hb.2
      · exact .inr (Nat.le_trans hn0 h1)
    · simp only[Q2,List.mem_append]at hb
      rcases hb with hb|hb
      · obtain⟨g1,g2,g3⟩:=hp.fp b hb
        refine⟨g1,?_,fun fr hA=>g3 fr hA.1⟩
        rcases g2 with g2|g2
        · exact(hfp b (.inl g2)).2.1
        · exact .inr (Nat.le_trans hn0 g2)
      · obtain⟨g1,g2,g3⟩:=hfp b (.inr hb)
        refine⟨Nat.lt_of_lt_of_le g1 hk.size,g2,fun fr hA=>?_⟩
        rcases hp.sub fr b hA.1 with h1|h1
        · rcases h1 with h1|h1
          · exact g3 fr h1
          · exact hA.2 h1.2
        · omega
    · simp only[Q2]
      refine List.nodup_append.2 ⟨hp.nodup,List.nodup_append.2 ⟨hd2,hd3,hd4⟩,fun b hb c hc hbc=>?_⟩
      subst hbc
      have hc':=List.mem_append.1 hc
      rcases(hp.fp b hb).2.1 with g2|g2
      · exact hrest b hc' g2
      · have:=(hfp b (.inr hc')).1;omega
    · rcases List.mem_append.1 ho with ho|ho
      · rcases hfr with hfr|hfr
        · have:A2=A':=by
            funext fr b
            simp[A2,hfr,UM]
          rw[this];exact hp.own o ho
        · exact(hp.own o ho).flags (p:=(·=true)) (fun fr b hf hb=>by subst hf;exact⟨hb,hA'O b hb⟩) ((hfr _ _ hR).2 o ho)
      · exact hokr o (List.mem_append.1 ho)
  refine hK r own' A2 w' hR (fun u y h=>hmv2 h) (hres.perm (hmrg own')) e ?_
  cases r with
  |ret x=>
    obtain⟨v,h1,h2⟩:=hr
    refine⟨v,h1,?_⟩
    rcases hfr with hfr|hfr
    · have:A2=A':=by
        funext fr b
        simp[A2,hfr,UM]
      rw[this];exact h2
    · exact h2.flags (p:=(·=true)) (hfr _ _ hR).1 (fun fr b hf hb=>by subst hf;exact⟨hb,hA'O b hb⟩) fun _ _ _ _=>rfl
  |pan v=>exact hr
theorem JL.callG(ms:List Cd){f:FuncId}{fo:Operand}{fi ca:List Value}{l:List Operand}{tys:Array TypeId}{xs zs:List AV}{R:Wl→List Own→Prop}{G:List (Value×AV)}(hf:QJ P f=true)(hd:Nat.blt d n=true)
    (hfo:Ev E ⟨n,env,own,F,D⟩ fo (.c (.func (.func f) fi.toArray ca.toArray))) (hG:Lent G (Wg ms own)) (hargs:∀E',EvL E' ⟨n,env,QI ms own++Yf ms own,G++F,D⟩ l xs) (hzs:fi.map AV.c++xs++ca.map AV.c=zs) (hAC:AC P f (QI ms own) zs R)
    (hfr:Wg ms own=[]∨∀r o,R r o→HI r∧∀x∈o,XA (·=true) x)
    (hret:∀x own',R (.ret x) own'→JL P E ops rest ⟨n,(d,x)::env,QZ ms own' own,F,D⟩ Q)
    (hpan:∀v own',R (.pan v) own'→Q (.panic [{v,recovered:=false}]) ⟨n,env,QZ ms own' own,F,D⟩):
    JL P E ops (⟨some d,.call ⟨.value fo,l.toArray,tys⟩,ty,pos,af,none⟩::rest) ⟨n,env,own,F,D⟩ Q:=fun a w ⟨A,hA⟩=>by
  refine wpListIn_plain rfl fun K hK=>?_
  refine Hd (by intro c h;cases h) ?_
  unfold Oper.wp
  rw[Ku hf (hfo.eq hA),Oper.upon_enter]
  subst hzs
  refine SatA.callG ms hG hfr hA hargs hAC fun r own' A' w' hR _ hsat e hr=>?_
  cases r with
  |ret x=>
    obtain⟨v,rfl,hv⟩:=hr
    exact hK _ _ (hret x own' hR _ _ ⟨A',hsat.put (Ui hd) hv⟩)
  |pan v=>
    obtain rfl:=hr
    exact⟨_,hpan v own' hR,A',hsat⟩
theorem JL.callF(ms:List Cd){f:FuncId}{l:List Operand}{tys:Array TypeId}{xs:List AV}{R:Wl→List Own→Prop}{G:List (Value×AV)}(hf:QJ P f=true)(hd:Nat.blt d n=true)
    (hG:Lent G (Wg ms own)) (hargs:∀E',EvL E' ⟨n,env,QI ms own++Yf ms own,G++F,D⟩ l xs) (hAC:AC P f (QI ms own) xs R)
    (hfr:Wg ms own=[]∨∀r o,R r o→HI r∧∀x∈o,XA (·=true) x)
    (hret:∀x own',R (.ret x) own'→JL P E ops rest ⟨n,(d,x)::env,QZ ms own' own,F,D⟩ Q)
    (hpan:∀v own',R (.pan v) own'→Q (.panic [{v,recovered:=false}]) ⟨n,env,QZ ms own' own,F,D⟩):
    JL P E ops (⟨some d,.call ⟨.value (.func f),l.toArray,tys⟩,ty,pos,af,none⟩::rest) ⟨n,env,own,F,D⟩ Q:=
  JL.callG (fi:=[]) (ca:=[]) ms hf hd .func hG hargs (by simp) hAC hfr hret hpan
theorem PT(ms:List Cd){f:FuncId}{fo:Operand}{fi ca:List Value}{l:List Operand}{tys:Array TypeId}{xs zs:List AV}{z:AV}{G:List (Value×AV)}(hf:QJ P f=true)
    (hfo:Ev E ⟨n,env,own,F,D⟩ fo (.c (.func (.func f) fi.toArray ca.toArray))) (hG:Lent G (Wg ms own)) (hp:QI ms own=[]) (hmo:QZ ms [] own=own) (hargs:∀E',EvL E' ⟨n,env,QI ms own++Yf ms own,G++F,D⟩ l xs)
    (hzs:fi.map AV.c++xs++ca.map AV.c=zs) (h:Fn P f zs z) (hz:NA z):
    QW P E ⟨n,env,own,F,D⟩ ⟨dd,.call ⟨.value fo,l.toArray,tys⟩,ty,pos,af,gd⟩ z:=fun A a w hA K Qx hK=>by
  refine Hd (by intro c h;cases h) ?_
  unfold Oper.wp
  rw[Ku hf (hfo.eq hA),Oper.upon_enter]
  subst hzs
  have h':AC P f (QI ms own) (fi.map AV.c++xs++ca.map AV.c) fun r own'=>r=.ret z∧own'=[]:=by rw[hp];exact h
  have hfr:∀(r:Wl) (o:List Own),r=.ret z∧o=[]→HI r∧∀x∈o,XA (·=true) x:=fun r o ⟨h1,h2⟩=>by
    subst h1 h2;exact⟨hz,fun x hx=>by cases hx⟩
  refine SatA.callG ms hG (.inr hfr) hA hargs h' fun r own' A' w' ⟨h1,h2⟩ hfm hsat e hr=>?_
  subst h1 h2
  rw[hmo]at hsat
  obtain⟨v,rfl,hv⟩:=hr
  exact hK v w' A' hfm hsat hv
theorem HH(ms:List Cd){f:FuncId}{l:List Operand}{tys:Array TypeId}{xs:List AV}{z:AV}{G:List (Value×AV)}(hf:QJ P f=true)
    (hG:Lent G (Wg ms own)) (hp:QI ms own=[]) (hmo:QZ ms [] own=own) (hargs:∀E',EvL E' ⟨n,env,QI ms own++Yf ms own,G++F,D⟩ l xs)
    (h:Fn P f xs z) (hz:NA z):
    QW P E ⟨n,env,own,F,D⟩ ⟨dd,.call ⟨.value (.func f),l.toArray,tys⟩,ty,pos,af,gd⟩ z:=
  PT (fi:=[]) (ca:=[]) ms hf .func hG hp hmo hargs (by simp) h hz
end

end
section
/- Trees that a call owns: entries in groups; what they read as when they are lent, or closed for good. -/
def OwnEq(o o':Own):Prop:=(∀b,o.fp.count b=o'.fp.count b)∧∀w A,o.ok w A↔o'.ok w A
theorem OwnEq.refl(o:Own):OwnEq o o:=⟨fun _=>rfl,fun _ _=>.rfl⟩
theorem OwnEq.symm{o o':Own}(h:OwnEq o o'):OwnEq o' o:=⟨fun b=>(h.1 b).symm,fun w A=>(h.2 w A).symm⟩
theorem OwnEq.trans{o o' o'':Own}(h:OwnEq o o')(k:OwnEq o' o''):OwnEq o o'':=⟨fun b=>(h.1 b).trans (k.1 b),fun w A=>(h.2 w A).trans (k.2 w A)⟩
theorem OwnEq.mem{o o':Own}(h:OwnEq o o')(b:Nat):b∈o.fp↔b∈o'.fp:=by
  rw[← List.count_pos_iff,← List.count_pos_iff,h.1 b]
theorem OwnEq.grp{l l':List Own}(h1:∀b,(UM l).count b=(UM l').count b)(h2:∀w A,(∀o∈l,o.ok w A)↔∀o∈l',o.ok w A):OwnEq (.grp l) (.grp l'):=
  ⟨fun b=>by simpa[Own.fp,Gt]using h1 b,fun w A=>by simpa[Own.ok,Xp]using h2 w A⟩
theorem OwnEq.grp_perm{l l':List Own}(h:l.Perm l'):OwnEq (.grp l) (.grp l'):=.grp (fun b=>(GS h).count_eq b) fun w A=>⟨fun k o ho=>k o (h.mem_iff.2 ho),fun k o ho=>k o (h.mem_iff.1 ho)⟩
theorem QT(o:Own)(l:List Own):UM (o::l)=o.fp++UM l:=by simp[UM]
theorem UW:UM []=[]:=rfl
theorem OwnEq.cons{o o':Own}{l l':List Own}(h:OwnEq o o')(k:OwnEq (.grp l) (.grp l')):OwnEq (.grp (o::l)) (.grp (o'::l')):=
  .grp (fun b=>by
    have:=k.1 b
    simp only[Own.fp,Gt]at this
    simp only[QT,List.count_append,h.1 b,this]) fun w A=>by
    have:=k.2 w A
    simp only[Own.ok,Xp]at this
    simp only[List.forall_mem_cons,h.2 w A,this]
theorem OwnEq.one(o:Own):OwnEq (.grp [o]) o:=⟨fun b=>by simp[Own.fp,Yn],fun w A=>by simp[Own.ok,Own.okl]⟩
theorem W8(l r:List Own):OwnEq (.grp (.grp l::r)) (.grp (l++r)):=.grp (fun b=>by simp[QT,Q2,Own.fp,Gt]) fun w A=>by simp[Own.ok,Xp,or_imp,forall_and]
mutual
/-- A value reads as x, and all that it is read through is the entry's own. -/
inductive Tr:AV→Value→Own→Prop
  |c {v:Value} {o:Own} (ho:OwnEq (.grp []) o):Tr (.c v) v o
  |sl {e:U7} {xs cs:List (List AV)} {v:Value} {us:List Value} {o o':Own} (h1:cs.flatten=us.map AV.c) (h2:cs.length=xs.length) (h3:∀x∈xs,x.length=e.sz) (h4:∀x∈cs,x.length=e.sz) (h5:us.all (·.oneCell')=true)
      (h6:xs.length*e.bytes≤Qr) (h:TrL xs.flatten us o) (ho:OwnEq (.grp [.arr v e cs,o]) o'):Tr (.sl true false e xs) v o'
  |agg {ys:List AV} {us:List Value} {o:Own} (h5:us.all (·.oneCell')=true) (h:TrL ys us o):Tr (.agg ys) (.agg us.toArray) o
inductive TrL:List AV→List Value→Own→Prop
  |nil {o:Own} (ho:OwnEq (.grp []) o):TrL [] [] o
  |cons {y:AV} {u:Value} {ys:List AV} {us:List Value} {o o' o'':Own} (h:Tr y u o) (hs:TrL ys us o') (ho:OwnEq (.grp [o,o']) o''):TrL (y::ys) (u::us) o''
end
theorem TrL.eqv{x:List AV}{v:List Value}{o o':Own}(h:TrL x v o)(k:OwnEq o o'):TrL x v o':=by
  cases h with
  |nil ho=>exact .nil (ho.trans k)
  |cons h hs ho=>exact .cons h hs (ho.trans k)
theorem TrL.length{ys:List AV}{us:List Value}{o:Own}(h:TrL ys us o):ys.length=us.length:=by
  induction ys generalizing us o with
  |nil=>cases h;rfl
  |cons y ys ih=>
    cases h with
    |cons h hs ho=>simp[ih hs]
theorem TrL.append{ys zs:List AV}{us vs:List Value}{o o' o'':Own}(h:TrL ys us o)(k:TrL zs vs o')(ho:OwnEq (.grp [o,o']) o''):TrL (ys++zs) (us++vs) o'':=by
  induction ys generalizing us o o'' with
  |nil=>
    cases h with
    |nil hn=>
      refine k.eqv (OwnEq.trans ?_ ho)
      exact(OwnEq.one o').symm.trans ((W8 [] [o']).symm.trans (.cons hn (.refl _)))
  |cons y ys ih=>
    cases h with
    |cons h1 hs h2=>
      rename_i u us oa ob
      refine .cons h1 (ih hs (.refl _)) (OwnEq.trans ?_ ho)
      -- [oa, [ob, o']] ~ [[oa, ob], o']
      refine OwnEq.trans ?_ (.cons h2 (.refl _))
      refine OwnEq.trans ?_ (W8 [oa,ob] [o']).symm
      refine OwnEq.trans (.grp_perm (List.Perm.swap _ _ _)) ?_
      refine OwnEq.trans (W8 [ob,o'] [oa]) (.grp_perm ?_)
      exact(List.perm_append_comm (l₁:=[ob,o']) (l₂:=[oa]))
theorem TrL.split{ys zs:List AV}{us:List Value}{o:Own}(h:TrL (ys++zs) us o):∃u1 u2 o1 o2,us=u1++u2∧TrL ys u1 o1∧TrL zs u2 o2∧OwnEq (.grp [o1,o2]) o:=by
  induction ys generalizing us o with
  |nil=>exact⟨[],us,.grp [],o,rfl,.nil (.refl _),h,(W8 [] [o]).trans (OwnEq.one o)⟩
  |cons y ys ih=>
    cases h with
    |cons h1 hs h2=>
      rename_i u us oa ob
      obtain⟨u1,u2,o1,o2,hu,g1,g2,g3⟩:=ih hs
      refine⟨u::u1,u2,.grp [oa,o1],o2,by simp[hu],.cons h1 g1 (.refl _),g2,?_⟩
      refine OwnEq.trans (W8 [oa,o1] [o2]) ?_
      refine OwnEq.trans ?_ h2
      exact .cons (.refl _) (OwnEq.trans (OwnEq.one _).symm (.cons g3 (.refl _)))
theorem Es{w:World}{A:QS}{o o' o'':Own}(ho:OwnEq (.grp [o,o']) o'')(h:o''.ok w A):o.ok w A∧o'.ok w A:=by
  have:=(ho.2 w A).2 h
  simpa[Own.ok,Own.okl]using this
theorem Ld{o o' o'':Own}(ho:OwnEq (.grp [o,o']) o''){b:Nat}(h:b∈o.fp∨b∈o'.fp):b∈o''.fp:=by
  rw[← ho.mem];simpa[Own.fp,Yn]using h
theorem MO{w:World}{A:QS}{us:List Value}{ys:List AV}{cells:Array Value}(h:Cells w A cells 0 (us.map AV.c))(hl:ys.length=us.length)(hr:∀(k:Nat) (y:AV) (u:Value),ys[k]? =some y→us[k]? =some u→Rd w A u y):Cells w A cells 0 ys:=fun k y hk=>by
  obtain⟨u,hu⟩:∃u,us[k]? =some u:=⟨us[k]'(by rw[← hl];exact(List.getElem?_eq_some_iff.1 hk).1),List.getElem?_eq_getElem _⟩
  obtain⟨u',h1,h0,h2⟩:=h k (.c u) (by simp[hu])
  have:=h2.eq
  subst this
  exact⟨_,h1,h0,hr k y _ hk hu⟩
mutual
theorem Tr.rd{w:World}{A:QS}:∀{x:AV} {v:Value} {o:Own},Tr x v o→o.ok w A→(∀b∈o.fp,A true b)→Rd w A v x
  |_,_,_,.c _,_,_=>.c _
  |_,_,_,.sl (e:=e) (xs:=xs) (cs:=cs) (v:=v) (us:=us) (o:=o) h1 h2 h3 h4 h5 h6 h ho,hok,hA=>by
    obtain⟨g1,g2⟩:=Es ho hok
    have hel:=TrL.rd h g2 fun b hb=>hA b (Ld ho (.inr hb))
    have hlen:=h.length
    simp only[Own.ok]at g1
    rcases g1 with ⟨a0,rfl,hcs⟩|⟨b,cap,cells,t,rfl,hb,hcap,hcu,hsz,hc⟩
    · subst hcs
      have:xs=[]:=by cases xs with|nil=>rfl|cons _ _=>simp at h2
      subst this
      exact .emp _ _ _ _ _ fun hh=>by cases hh
    · rw[h1]at hc
      have hc':=MO hc hlen hel
      rw[h2]at hcap⊢
      exact .sl true false e xs b 0 (cap+1) cells t (0,0) (fun k=>cells.getD k undef) (hA b (Ld ho (.inl (by simp[Own.fp,KH])))) hb hcap (fun hh=>by cases hh) h3 h6
        (fun k y hk=>by
          obtain⟨u,k1,k0,_⟩:=hc' k y hk
          rw[Nat.zero_add]at k1⊢
          simp[Array.getD_eq_getD_getElem?,k1,k0])
        fun k y hk=>by
          obtain⟨u,k1,_,k2⟩:=hc' k y hk
          rw[Nat.zero_add]at k1
          simpa[Array.getD_eq_getD_getElem?,k1]using k2
  |_,_,_,.agg (ys:=ys) (us:=us) h5 h,hok,hA=>by
    have hel:=TrL.rd h hok hA
    refine .mk_agg (by simp[h.length]) fun k y hk=>?_
    obtain⟨u,hu⟩:∃u,us[k]? =some u:=⟨us[k]'(by rw[← h.length];exact(List.getElem?_eq_some_iff.1 hk).1),List.getElem?_eq_getElem _⟩
    exact⟨u,by simpa using hu,(List.all_eq_true.1 h5) u (List.mem_of_getElem? hu),hel k y u hk hu⟩
theorem TrL.rd{w:World}{A:QS}:∀{ys:List AV} {us:List Value} {o:Own},TrL ys us o→o.ok w A→(∀b∈o.fp,A true b)→∀(k:Nat) (y:AV) (u:Value),ys[k]? =some y→us[k]? =some u→Rd w A u y
  |_,_,_,.nil _,_,_=>fun k y u hk _=>by simp at hk
  |_,_,_,.cons h hs ho,hok,hA=>fun k y u hk hu=>by
    obtain⟨g1,g2⟩:=Es ho hok
    cases k with
    |zero=>
      simp at hk hu
      subst hk hu
      exact Tr.rd h g1 fun b hb=>hA b (Ld ho (.inl hb))
    |succ k=>exact TrL.rd hs g2 (fun b hb=>hA b (Ld ho (.inr hb))) k y u (by simpa using hk) (by simpa using hu)
end
abbrev PV:AV→Prop:=Fl (·=false)
theorem Tr.lent{x y:AV}{v:Value}{o:Own}(h:Tr x v o)(hl:Le [] x y)(hy:PV y):Lent [(v,y)] [o]:=fun w A hok hA hm p hp=>by
  simp only[List.mem_singleton]at hp
  subst hp
  have hfp:∀b∈o.fp,A false b:=fun b hb=>hA b (by simpa[UM]using hb)
  let A1:QS:=fun fr b=>A fr b∨b∈o.fp
  have hok':o.ok w A:=by simpa[Own.okl]using hok
  have h1:Rd w A1 v x:=h.rd (hok'.move (fun fr b hb _=>.inl hb) (fun _ _ _ _=>rfl) fun _ _=>rfl) fun b hb=>.inr hb
  have h2:Rd w A1 v y:=h1.le (F:=[]) (fun b hb=>hb.imp (hm b) id) (fun p hp=>by cases hp) hl
  exact h2.flags (p:=(·=false)) hy (fun fr b hf hb=>by subst hf;exact hb.elim id (hfp b)) fun _ _ _ _=>rfl
theorem Lent.cons{G G':List (Value×AV)}{o:Own}{O:List Own}(h:Lent G [o])(k:Lent G' O):Lent (G++G') (o::O):=fun w A hok hA hm p hp=>by
  simp only[Own.okl]at hok
  simp only[QT,List.mem_append]at hA
  rcases List.mem_append.1 hp with hp|hp
  · exact h w A (by simpa[Own.okl]using hok.1) (fun b hb=>hA b (.inl (by simpa[UM]using hb))) hm p hp
  · exact k w A hok.2 (fun b hb=>hA b (.inr hb)) hm p hp
def Clos(G:List (Value×AV))(o:Own):Prop:=∀(w:World) (A:QS),o.ok w A→(∀b∈o.fp,∀fr,A fr b)→∀p∈G,Rd w A p.1 p.2
theorem Tr.clos{x:AV}{v:Value}{o:Own}(h:Tr x v o):Clos [(v,x)] o:=fun w A hok hA p hp=>by
  simp only[List.mem_singleton]at hp
  subst hp
  exact h.rd hok fun b hb=>hA b hb true
theorem Lent.arr{v:Value}{e:U7}{xs:List (List AV)}(hr:xs.length*e.bytes≤Qr):Lent [(v,.sl false false e xs)] [.arr v e xs]:=fun w A hok hA hm p hp=>by
  simp only[List.mem_singleton]at hp
  subst hp
  have hok':(Own.arr v e xs).ok w A:=by simpa[Own.okl]using hok
  have hfp:∀b∈(Own.arr v e xs).fp,A false b:=fun b hb=>hA b (by simpa[UM]using hb)
  simp only[Own.ok]at hok'
  rcases hok' with ⟨a0,rfl,rfl⟩|⟨b,cap,us,t,rfl,hb,hcap,hus,hsz,hc⟩
  · exact .emp _ _ _ _ _ (fun _=>rfl)
  · refine .sl false false e xs b 0 (cap+1) us t (0,0) (fun k=>us.getD k undef) (hfp b (by simp[Own.fp,KH])) hb hcap (fun hh=>by cases hh) hsz hr (fun k y hk=>?_) (fun k y hk=>?_)
    · obtain⟨u,h1,h0,_⟩:=hc k y hk
      rw[Nat.zero_add]at h1⊢
      simp[Array.getD_eq_getD_getElem?,h1,h0]
    · obtain⟨u,h1,_,h2⟩:=hc k y hk
      rw[Nat.zero_add]at h1
      simpa[Array.getD_eq_getD_getElem?,h1]using h2
section
variable {P:Program} {E:Wy} {st:St} {Q:Exit→St→Prop} {n B:Nat} {env:List (Nat×AV)} {own:List Own} {F:List (Value×AV)} {D:List Deferred} {ops:Array Oper} {rest:List Oper}
variable {A:QS} {a:Act} {w w':World}
theorem SatA.close{i:Nat}{o:Own}{G:List (Value×AV)}(h:SatA E A ⟨n,env,own,F,D⟩ a w)(hi:own[i]? =some o)(hG:Clos G o)
    (hfp:∀b∈E.fp0,b∈UM (own.eraseIdx i)):∃A',SatA E A' ⟨n,env,own.eraseIdx i,G++F,D⟩ a w:=by
  have h':=h.perm (Ys hi)
  have hnd:=h'.hp.nodup
  rw[QT]at hnd
  simp only[List.nodup_append]at hnd
  obtain⟨hn1,hn2,hn3⟩:=hnd
  let A':QS:=fun fr b=>A fr b∨b∈o.fp
  have hup:∀fr b,A fr b→A' fr b:=fun fr b hb=>.inl hb
  have hfpx:∀b∈o.fp,b<w.heap.size∧(b∈E.fp0∨E.w0.heap.size≤b)∧∀fr,¬A fr b:=fun b hb=>h'.hp.fp b (by rw[QT];exact List.mem_append_left _ hb)
  have hm:∀{u x},Rd w A u x→Rd w A' u x:=fun hr=>hr.move (fun fr b hb _=>hup fr b hb) fun _ _ _ _=>rfl
  refine⟨A',h'.size,h'.defers,h'.keep,⟨fun b hb=>hb.imp (h'.hp.mono b) id,fun fr b hb=>hup fr b (h'.hp.sup fr b hb),fun fr b hb=>?_,fun fr b hb=>hb.elim (h'.hp.lt fr b) fun hb=>(hfpx b hb).1,fun b hb=>?_,hn2,fun o ho=>?_⟩,
    fun i x hl=>hm (h'.env i x hl),fun p hp=>?_⟩
  · rcases hb with hb|hb
    · exact h'.hp.sub fr b hb
    · refine .inr ((hfpx b hb).2.1.elim (fun hmem=>?_) id)
      exact absurd rfl (hn3 b hb b (hfp b hmem))
  · obtain⟨h1,h2,h3⟩:=h'.hp.fp b (by rw[QT];exact List.mem_append_right _ hb)
    exact⟨h1,h2,fun fr hA=>hA.elim (h3 fr) fun hb'=>hn3 b hb' b hb rfl⟩
  · exact(h'.hp.own o (List.mem_cons_of_mem _ ho)).move (fun fr b hb _=>hup fr b hb) (fun _ _ _ _=>rfl) fun _ _=>rfl
  · rcases List.mem_append.1 hp with hp|hp
    · exact hG w A' ((h'.hp.own _ (List.mem_cons_self)).move (fun fr b hb _=>hup fr b hb) (fun _ _ _ _=>rfl) fun _ _=>rfl) (fun b hb fr=>.inr hb) p hp
    · exact hm (h'.facts p hp)
theorem J.close(i:Nat){o:Own}{G:List (Value×AV)}{own':List Own}{c:Code}(hi:own[i]? =some o)(hG:Clos G o)(ho:own.eraseIdx i=own')(hfp:∀b∈E.fp0,b∈UM own')
    (h:J P E c ⟨n,env,own',G++F,D⟩ Q):J P E c ⟨n,env,own,F,D⟩ Q:=fun a w ⟨A,hA⟩=>by
  subst ho
  obtain⟨A',hA'⟩:=hA.close hi hG hfp
  exact h a w ⟨A',hA'⟩
def Reown(own own':List Own):Prop:=(∀b,(UM own').count b≤(UM own).count b)∧∀w A,(∀o∈own,o.ok w A)→∀o∈own',o.ok w A
theorem Hp.reown{n0:Nat}{fp0:List Nat}{A0:QS}{own':List Own}(h:Hp n0 fp0 A0 own w A)(hr:Reown own own'):Hp n0 fp0 A0 own' w A:=
  ⟨h.mono,h.sup,h.sub,h.lt,fun b hb=>h.fp b (by rw[← List.count_pos_iff]at hb⊢;exact Nat.lt_of_lt_of_le hb (hr.1 b)),by
    rw[List.nodup_iff_count]
    intro b
    exact Nat.le_trans (hr.1 b) ((List.nodup_iff_count.1 h.nodup) b),hr.2 w A h.own⟩
theorem Reown.refl(own:List Own):Reown own own:=⟨fun _=>Nat.le_refl _,fun _ _ h=>h⟩
theorem Reown.trans{a b c:List Own}(h:Reown a b)(k:Reown b c):Reown a c:=⟨fun x=>Nat.le_trans (k.1 x) (h.1 x),fun w A g=>k.2 w A (h.2 w A g)⟩
theorem Reown.perm{a b:List Own}(h:a.Perm b):Reown a b:=⟨fun x=>Nat.le_of_eq ((GS h).count_eq x).symm,fun w A g o ho=>g o (h.mem_iff.2 ho)⟩
theorem Reown.drop(a b:List Own):Reown (a++b) b:=⟨fun x=>by simp[Q2],fun w A g o ho=>g o (List.mem_append_right _ ho)⟩
theorem Reown.left{a b c:List Own}(h:Reown a b):Reown (c++a) (c++b):=⟨fun x=>by simp only[Q2,List.count_append];exact Nat.add_le_add_left (h.1 x) _,fun w A g o ho=>by
  rcases List.mem_append.1 ho with ho|ho
  · exact g o (List.mem_append_left _ ho)
  · exact h.2 w A (fun o ho=>g o (List.mem_append_right _ ho)) o ho⟩
theorem Reown.cons{o:Own}{a b:List Own}(h:Reown a b):Reown (o::a) (o::b):=Reown.left (c:=[o]) h
theorem Reown.eq{o o':Own}{a:List Own}(h:OwnEq o o'):Reown (o::a) (o'::a):=⟨fun x=>by simp only[QT,List.count_append,h.1 x];exact Nat.le_refl _,fun w A g=>by
  simp only[List.forall_mem_cons]at g⊢
  exact⟨(h.2 w A).1 g.1,g.2⟩⟩
theorem WI(l a:List Own):Reown (.grp l::a) (l++a):=⟨fun x=>by simp[QT,Q2,Own.fp,Gt],fun w A g=>by
  simp only[List.forall_mem_cons,Own.ok,Xp]at g
  intro o ho
  rcases List.mem_append.1 ho with ho|ho
  · exact g.1 o ho
  · exact g.2 o ho⟩
theorem W4(l a:List Own):Reown (l++a) (.grp l::a):=⟨fun x=>by simp[QT,Q2,Own.fp,Gt],fun w A g=>by
  simp only[List.forall_mem_cons,Own.ok,Xp]
  exact⟨fun o ho=>g o (List.mem_append_left _ ho),fun o ho=>g o (List.mem_append_right _ ho)⟩⟩
theorem Rn{own:List Own}{i:Nat}{o o1 o2:Own}(hi:own[i]? =some o)(h:OwnEq (.grp [o1,o2]) o):Reown own (own.set i o1++[o2]):=by
  have hlt:=(List.getElem?_eq_some_iff.1 hi).1
  refine(Reown.perm (Ys hi)).trans ((Reown.eq h.symm).trans ((WI [o1,o2] _).trans (Reown.perm ?_)))
  have hs:(own.set i o1)[i]? =some o1:=by simp[hlt]
  have h2:=Ys hs
  rw[List.eraseIdx_set_eq]at h2
  exact((List.Perm.cons o1 (List.perm_append_singleton o2 _).symm)).trans (by
    rw[← List.cons_append];exact List.Perm.append_right [o2] h2.symm)
theorem SatA.reown{own':List Own}(h:SatA E A ⟨n,env,own,F,D⟩ a w)(hr:Reown own own'):SatA E A ⟨n,env,own',F,D⟩ a w:=⟨h.size,h.defers,h.keep,h.hp.reown hr,h.env,h.facts⟩
theorem JL.reown{own':List Own}{l:List Oper}(hr:Reown own own')(h:JL P E ops l ⟨n,env,own',F,D⟩ Q):JL P E ops l ⟨n,env,own,F,D⟩ Q:=fun a w ⟨A,hA⟩=>h a w ⟨A,hA.reown hr⟩
theorem J.reown{own':List Own}{c:Code}(hr:Reown own own')(h:J P E c ⟨n,env,own',F,D⟩ Q):J P E c ⟨n,env,own,F,D⟩ Q:=fun a w ⟨A,hA⟩=>h a w ⟨A,hA.reown hr⟩
theorem QQ{own':List Own}{env':List (Nat×AV)}{F':List (Value×AV)}(henv:EnvLe F env env')(hr:Reown own own')(hF:∀p∈F',p∈F):Wk ⟨n,env,own,F,D⟩ ⟨n,env',own',F',D⟩:=fun E a w ⟨A,h⟩=>
  ⟨A,h.size,h.defers,h.keep,h.hp.reown hr,fun i x hl=>by
    obtain⟨y,hy,hle⟩:=henv.get i x hl
    exact(h.env i y hy).le h.hp.mono h.facts hle,fun p hp=>h.facts p (hF p hp)⟩
/-! ### loops that keep what is around them -/
def Xo:List Nat→List (Nat×AV)→List (Nat×AV)
  |[],_=>[]
  |k::ks,env=>match lk env k with|some x=>(k,x)::Xo ks env|none=>Xo ks env
theorem Ua{ι:Type}{c:Code}(ks:List Nat)(ch:ι→List (Nat×AV))(ow:ι→List Own→List Own)(p:ι→Prop)(μ:ι→Nat)(i0:ι)(h0:p i0)
    (hw:Wk ⟨n,env,own,F,D⟩ ⟨n,ch i0++Xo ks env,ow i0 own,F,D⟩)
    (round:∀i,p i→J P E c ⟨n,ch i++Xo ks env,ow i own,F,D⟩ (thenQ (fun s=>∃j,p j∧μ j<μ i∧Wk s ⟨n,ch j++Xo ks env,ow j own,F,D⟩) Q)):J P E (.loop c) ⟨n,env,own,F,D⟩ Q:=
  J.loop (fun i=>⟨n,ch i++Xo ks env,ow i own,F,D⟩) p μ i0 h0 hw round
theorem Q3(k:Nat)(own:List Own){own':List Own}(h:own.drop k=own'):Reown own own':=by
  subst h
  have:=Reown.drop (own.take k) (own.drop k)
  rwa [List.take_append_drop]at this
end

end
section
/- Deferred calls that recover: their contracts, and contracts of the functions that defer them. Assertions on an interface's value. -/
def DC(P:Program)(f:FuncId)(own:List Own)(xs:List AV)(u:FrameMode)(R:Wl→FrameMode→List Own→Prop):Prop:=
  ∀(w:World) (A0:QS) (vs:Array Value),Hp w.heap.size (UM own) A0 own w A0→RdL w A0 vs xs→
    CallsD P f vs u w fun e u' w'=>∃r own' A,R r u' own'∧Keep (UM own) w w'∧Hp w.heap.size (UM own) A0 own' w' A∧RdE w' A e r
def JD(P:Program)(E:Wy)(c:Code)(u:FrameMode)(st:St)(Q:Exit→St→FrameMode→Prop):Prop:=
  ∀a w (c0:Frame) (cs:List Frame),c0.mode=u→Sat E st a w→c.wpS P (fun e a' cs' w'=>∃s' u',Q e s' u'∧Sat E s' a' w'∧cs'={c0 with mode:=u'}::cs) a (c0::cs) w
section
variable {P:Program} {E:Wy} {st:St} {n:Nat} {env:List (Nat×AV)} {own:List Own} {F:List (Value×AV)} {D:List Deferred} {ops:Array Oper} {rest:List Oper}
variable {A:QS} {a:Act} {w w':World} {u u':FrameMode} {QD:Exit→St→FrameMode→Prop}
theorem JD.of_J{c:Code}(hE:E.rd=none)(h:J P E c st fun e s=>QD e s u):JD P E c u st QD:=fun a w c0 cs hu hs=>by
  have hin:=h a w hs
  rw[hE]at hin
  have hw:c.wp P _ a w:=wpIn_wide.1 hin
  refine wpS_of_wp (wp_mono hw fun e a' w' ⟨s,q,hsat⟩=>⟨s,u,q,hsat,?_⟩)
  subst hu;rfl
def thenD(K:St→FrameMode→Prop)(Q:Exit→St→FrameMode→Prop):Exit→St→FrameMode→Prop
  |.normal,s,u=>K s u
  |e,s,u=>Q e s u
theorem LA{c:Code}{Q Q':Exit→Act→List Frame→World→Prop}{cs:List Frame}(h:c.wpS P Q a cs w)(hq:∀e a cs w,Q e a cs w→Q' e a cs w):c.wpS P Q' a cs w:=
  fun b k hb hr=>let ⟨e,a',cs',w',q,r⟩:=h b k hb hr;⟨e,a',cs',w',hq _ _ _ _ q,r⟩
theorem JD.seq{x y:Code}(h:JD P E x u st (thenD (fun s u=>JD P E y u s QD) QD)):JD P E (.seq x y) u st QD:=fun a w c0 cs hu hs=>by
  refine wpS_seq (LA (h a w c0 cs hu hs) fun e a' cs' w' ⟨s',u',q,hsat,hcs⟩=>?_)
  cases e with
  |normal=>
    subst hcs
    exact LA (q a' w' {c0 with mode:=u'} cs rfl hsat) fun e a cs w h=>h
  |_=>exact⟨s',u',q,hsat,hcs⟩
theorem Uf{id:Nat}{l:List Oper}{d:Nat}{v:Value}{tys:Array TypeId}{ty:TypeId}{pos:String}{af:Array Edge}(hE:E.rd=none)(hd:Nat.blt d n=true)
    (hv:(u=.returning∧v=.nilIface∧u'=.returning)∨∃older,u=.panicking ({v,recovered:=false}::older)∧u'=.panicking ({v,recovered:=true}::older))
    (hl:l=⟨some d,.call ⟨.builtin .recover,#[],tys⟩,ty,pos,af,none⟩::rest)
    (h:JL P E l.toArray rest ⟨n,(d,.c v)::env,own,F,D⟩ fun e s=>QD e s u'):
    JD P E (.region id l.toArray false) u ⟨n,env,own,F,D⟩ QD:=fun a w c0 cs hu ⟨A,hA⟩ b k hb hr=>by
  subst hl
  have hsat:Sat E ⟨n,(d,.c v)::env,own,F,D⟩ (a.put (some d) v) w:=⟨A,hA.put (Ui hd) (.c v)⟩
  have hlist:=h _ w hsat
  rw[hE]at hlist
  have hops:=wpOpsIn_eq_wpListIn (F:=XG none) (n:=0) (P:=P) (ops:=(⟨some d,.call ⟨.builtin .recover,#[],tys⟩,ty,pos,af,none⟩::rest:List Oper).toArray) (Q:=Wh E fun e s=>QD e s u') rest 1 (fun j=>by simp[Nat.add_comm])
  rw[← hops]at hlist
  obtain⟨e,a',w',⟨s',hq,hs'⟩,harr⟩:=wp_opsIn (List.range' 1 rest.length) _ w hlist {b with roundOf:=none} k ({c0 with mode:=u'}::cs) rfl trivial (room_wide _)
  have harr':=(arrivesIn_iff (b:={b with roundOf:=none}) (fun _ _=>stepsIn_wide) rfl).1 harr
  refine⟨e,a',{c0 with mode:=u'}::cs,w',⟨s',u',hq,hs',rfl⟩,?_⟩
  have harr2:Arrives P (lone (b.at (a.put (some d) v) (.inRegion (⟨some d,.call ⟨.builtin .recover,#[],tys⟩,ty,pos,af,none⟩::rest:List Oper).toArray (List.range' 1 rest.length)::k)) ({c0 with mode:=u'}::cs) w) b k ({c0 with mode:=u'}::cs) e a' w':=harr'
  refine Arrives.of_steps (.one step_region) (Arrives.of_steps (.one ?_) harr2)
  have hrange:List.range ((⟨some d,.call ⟨.builtin .recover,#[],tys⟩,ty,pos,af,none⟩::rest:List Oper).toArray).size=0::List.range' 1 rest.length:=by
    rw[List.range_eq_range'];simp[List.range'_succ]
  rw[hrange]
  have hk:(b.at a (.inRegion (⟨some d,.call ⟨.builtin .recover,#[],tys⟩,ty,pos,af,none⟩::rest:List Oper).toArray (0::List.range' 1 rest.length)::k)).kind=.deferred:=hb
  have htr:=tryRecover_deferred hk (c0::cs)
  have hg:=stepG_op (P:=P) (b:=b) (a:=a) (k:=k) (cs:=c0::cs) (w:=w) (rest:=List.range' 1 rest.length) (ops:=(⟨some d,.call ⟨.builtin .recover,#[],tys⟩,ty,pos,af,none⟩::rest:List Oper).toArray) (i:=0)
    (o:=⟨some d,.call ⟨.builtin .recover,#[],tys⟩,ty,pos,af,none⟩) (by simp) (by simp[Region.wanted])
  have hrun:(execOp a.eval ⟨some d,.call ⟨.builtin .recover,#[],tys⟩,ty,pos,af,none⟩).run P w=.ok .recover w:=by
    simp[execOp,resolve,invoke,builtin]
  have hfin:∀v,(b.at a (.inRegion (⟨some d,.call ⟨.builtin .recover,#[],tys⟩,ty,pos,af,none⟩::rest:List Oper).toArray (0::List.range' 1 rest.length)::k)).finish v=b.at (a.put (some d) v) (.inRegion (⟨some d,.call ⟨.builtin .recover,#[],tys⟩,ty,pos,af,none⟩::rest:List Oper).toArray (List.range' 1 rest.length)::k):=by
    intro v;rw[Frame.finish_at];simp
  refine step_lone_go ?_
  rw[hg,← hfin]
  rcases hv with ⟨h1,h2,h3⟩|⟨older,h1,h2⟩
  · subst h2 h3
    have hrec:recoverD (c0::cs)=none:=by simp[recoverD,hu,h1]
    have hc0:({c0 with mode:=.returning}:Frame)=c0:=by rw[← h1,← hu]
    simp only[Frame.at]at htr⊢
    simp[stepG.apply,hrun,htr,hrec,hc0]
  · subst h2
    have hrec:recoverD (c0::cs)=some (v,{c0 with mode:=.panicking ({v,recovered:=true}::older)}::cs):=by simp[recoverD,hu,h1]
    simp only[Frame.at]at htr⊢
    simp[stepG.apply,hrun,htr,hrec]
def retDC(P:Program)(fn:Func)(R:Wl→FrameMode→List Own→Prop):Exit→St→FrameMode→Prop
  |.normal,s,u|.ret,s,u=>∃x own' dr,RetEv P fn s x∧s.dfs=[]∧s.own.Perm (own'++dr)∧R (.ret x) u own'
  |_,_,_=>False
theorem DC.of_JD{f:FuncId}{fn:Func}{c:Code}{N:Nat}{xs:List AV}{R:Wl→FrameMode→List Own→Prop}(hf:P.funcs[f]? =some fn)(hb:fn.body=some c)(hN:fn.ntmps=N)(hlen:Nat.ble xs.length N=true)
    (h:∀w0 A0,JD P ⟨w0,UM own,A0,none⟩ c u ⟨N,Xu 0 xs,own,[],[]⟩ (retDC P fn R)):DC P f own xs u R:=fun w A0 vs hp hargs=>by
  refine callsD_of_wpS hf hb fun c0 cs hu=>?_
  subst hN
  refine LA (h w A0 _ w c0 cs hu ⟨A0,GR hp hargs (Nat.le_of_ble_eq_true hlen)⟩) fun e a' cs' w' ⟨s,u',hq,⟨A,hs⟩,hcs⟩=>?_
  have hret:(∃x own' dr,RetEv P fn s x∧s.dfs=[]∧s.own.Perm (own'++dr)∧R (.ret x) u' own')→a'.defers=[]∧∃u',cs'={c0 with mode:=u'}::cs∧∃v,(results fn a'.tmps).run P w'=.ok v w'∧
      ∃r own' A,R r u' own'∧Keep (UM own) w w'∧Hp w.heap.size (UM own) A0 own' w' A∧RdE w' A (.returned v) r:=by
    rintro⟨x,own',dr,hx,hd,hp',hR⟩
    obtain⟨v,h1,h2⟩:=hx _ A a' w' hs
    exact⟨hs.defers.trans hd,u',hcs,v,h1,.ret x,own',A,hR,hs.keep,(hs.hp.perm hp').left,v,rfl,h2⟩
  cases e with
  |normal=>exact hret hq
  |ret=>exact hret hq
  |panic chain=>exact hq.elim
  |exit id=>exact hq.elim
  |goto l=>exact hq.elim
  |outgrown=>exact hq.elim
/-! ### who defers -/
def YO:Exit→Option FrameMode
  |.normal|.ret=>some .returning
  |.panic chain=>some (.panicking chain)
  |_=>none
def retD(P:Program)(fn:Func)(R:Wl→List Own→Prop)(e:Exit)(s:St):Prop:=
  ∃u g fi ca op ro,YO e=some u∧s.dfs=[⟨.fn (.func g) (List.toArray ca),List.toArray fi⟩]∧QJ P g=true∧s.own.Perm (op++ro)∧
    DC P g op ((fi++ca).map AV.c) u fun r u' own'=>(∃x,r=.ret x)∧settle u'=.returning∧∃y own'' dr,RetEv P fn ⟨s.n,s.env,own'++ro,s.facts,s.dfs⟩ y∧(own'++ro).Perm (own''++dr)∧R (.ret y) own''
theorem AC.of_JD{f:FuncId}{fn:Func}{c:Code}{N:Nat}{xs:List AV}{R:Wl→List Own→Prop}(hf:P.funcs[f]? =some fn)(hb:fn.body=some c)(hN:fn.ntmps=N)(hlen:Nat.ble xs.length N=true)
    (h:∀w0 A0,J P ⟨w0,UM own,A0,none⟩ c ⟨N,Xu 0 xs,own,[],[]⟩ (retD P fn R)):AC P f own xs R:=fun w A0 vs hp hargs=>by
  refine calls_of_wp_defers hf hb ?_
  subst hN
  have hin:c.wpIn Fence.wide 0 P _ _ w:=h w A0 _ w ⟨A0,GR hp hargs (Nat.le_of_ble_eq_true hlen)⟩
  refine wp_mono (wpIn_wide.1 hin) fun e a' w' ⟨s,⟨u,g,fi,ca,op,ro,hu,hdf,hg,hperm,hD⟩,A,hs⟩=>?_
  obtain⟨n,env,own1,F,D⟩:=s
  simp only at hdf hperm
  have hs':=hs.perm hperm
  have hleave:u≠ .run→Leaves P fn a'.tmps (fun e w'=>∃r own' A,R r own'∧Keep (UM own) w w'∧Hp w.heap.size (UM own) A0 own' w' A∧RdE w' A e r) a'.defers u w':=by
    intro hne
    rw[hs.defers]
    simp only
    rw[hdf]
    refine leaves_cons (args:=fi.toArray++ca.toArray) (f:=g) hne (by simp only[invoke,LY hg]) ?_
    have hrl:RdL w' A (fi.toArray++ca.toArray) ((fi++ca).map AV.c):=by
      refine⟨by simp,fun i z hz=>?_⟩
      rw[List.getElem?_map]at hz
      cases hv:(fi++ca)[i]? with
      |none=>rw[hv]at hz;cases hz
      |some v=>
        rw[hv]at hz;cases hz
        have:(fi.toArray++ca.toArray).getD i undef=v:=by
          rw[List.append_toArray,Array.getD_eq_getD_getElem?,List.getElem?_toArray,hv];rfl
        rw[this];exact .c v
    refine(hD w' A _ hs'.callee hrl).mono ?_
    rintro e u' w'' ⟨r,own',A',⟨⟨x,rfl⟩,hst,y,own'',dr,hev,hp2,hR⟩,hk,hp',v,rfl,hv⟩
    have hcalled:=hs'.called hk hp'
    simp only
    rw[hst]
    obtain⟨v',g1,g2⟩:=hev _ A' a' w'' hcalled
    exact⟨v',g1,.ret y,own'',A',hR,hcalled.keep,(hcalled.hp.perm hp2).left,v',rfl,g2⟩
  cases e with
  |normal=>simp only[YO,Option.some.injEq]at hu;subst hu;exact hleave (by simp)
  |ret=>simp only[YO,Option.some.injEq]at hu;subst hu;exact hleave (by simp)
  |panic chain=>simp only[YO,Option.some.injEq]at hu;subst hu;exact hleave (by simp)
  |exit id=>simp[YO]at hu
  |goto l=>simp[YO]at hu
  |outgrown=>simp[YO]at hu
theorem JL.defer{w0:World}{fp0:List Nat}{A0:QS}{Q:Exit→St→Prop}{dd:Option Tmp}{fo:Operand}{g:FuncId}{fi ca:List Value}{tys:Array TypeId}{ty:TypeId}{pos:String}{af:Array Edge}(hdd:dd=none)
    (hfo:Ev ⟨w0,fp0,A0,none⟩ ⟨n,env,own,F,D⟩ fo (.c (.func (.func g) fi.toArray ca.toArray)))
    (h:JL P ⟨w0,fp0,A0,none⟩ ops rest ⟨n,env,own,F,⟨.fn (.func g) ca.toArray,fi.toArray⟩::D⟩ Q):
    JL P ⟨w0,fp0,A0,none⟩ ops (⟨dd,.defer ⟨.value fo,#[],tys⟩,ty,pos,af,none⟩::rest) ⟨n,env,own,F,D⟩ Q:=fun a w ⟨A,hA⟩=>by
  subst hdd
  refine wpListIn_plain rfl fun K hK=>?_
  refine⟨fun _ _=>trivial,?_⟩
  have hrun:((⟨none,.defer ⟨.value fo,#[],tys⟩,ty,pos,af,none⟩:Oper).semAt (XG none).round a.eval).run P w=.ok (.defer ⟨.fn (.func g) ca.toArray,fi.toArray⟩) w:=by
    show(execOp a.eval ⟨none,.defer ⟨.value fo,#[],tys⟩,ty,pos,af,none⟩).run P w=_
    simp[execOp,resolve,hfo.eq hA,Deferred.ofValue]
  rw[show(XG (Wy.rd ⟨w0,fp0,A0,none⟩))=XG none from rfl,hrun,Oper.uponIn_defer]
  refine hK _ _ (h _ _ ⟨A,?_⟩)
  exact⟨hA.size,by show _::a.defers=_;rw[hA.defers],hA.keep,hA.hp,hA.env,hA.facts⟩
/-! ### what an interface's value is -/
theorem YC{st:St}{dd:Option Tmp}{x:Operand}{xt t ty:TypeId}{pos:String}{af:Array Edge}{gd:Option (Nat×Bool)}{v:Value}(hU:∃d,P.underlying t=some d∧∀ms,d≠ .interface ms)(hx:Ev E st x (.c (.iface t v))):
    QW P E st ⟨dd,.typeAssert x xt t true,ty,pos,af,gd⟩ (.tup [.c v,.c (.bool true)]):=.pure fun A a w hs=>by
  obtain⟨d,h1,h2⟩:=hU
  refine⟨.tuple #[v,.bool true],?_,.mk_tup rfl fun k y hk=>?_⟩
  · simp only[execOp,hx.eq hs,Instr.typeAssert,Sem.run_bind,Qq _ h1,Result.andThen_ok]
    cases d<;>first|exact absurd rfl (h2 _)|simp
  · match k,hk with
    |0,hk=>simp at hk;subst hk;exact⟨v,rfl,.c v⟩
    |1,hk=>simp at hk;subst hk;exact⟨.bool true,rfl,.c _⟩
theorem YB{st:St}{dd:Option Tmp}{x:Operand}{xt t ty:TypeId}{pos:String}{af:Array Edge}{gd:Option (Nat×Bool)}{z:Value}(hU:∃d,P.underlying t=some d∧∀ms,d≠ .interface ms)(hz:∀w,(zeroValue t).run P w=.ok z w)(hx:Ev E st x (.c .nilIface)):
    QW P E st ⟨dd,.typeAssert x xt t true,ty,pos,af,gd⟩ (.tup [.c z,.c (.bool false)]):=.pure fun A a w hs=>by
  obtain⟨d,h1,h2⟩:=hU
  refine⟨.tuple #[z,.bool false],?_,.mk_tup rfl fun k y hk=>?_⟩
  · simp only[execOp,hx.eq hs,Instr.typeAssert,Sem.run_bind,Qq _ h1,Result.andThen_ok]
    cases d<;>first|exact absurd rfl (h2 _)|simp[hz]
  · match k,hk with
    |0,hk=>simp at hk;subst hk;exact⟨z,rfl,.c z⟩
    |1,hk=>simp at hk;subst hk;exact⟨.bool false,rfl,.c _⟩
end

end
section
/- A region that draws its order, with calls and stores that turn what is owned among its operations: whatever the order, all reads as in the order of the text. -/
abbrev XS:=List (AV×List Own)
def Qy(own:List Own):XS→List Own
  |[]=>own
  |(_,o)::_=>o
def FP(own:List Own)(R:XS→List Own→AV→List Own→Prop):XS→Prop
  |[]=>True
  |(x,o)::os=>R os (Qy own os) x o∧FP own R os
def QC(os:XS)(j:Nat):AV:=((os.reverse)[j]?.map (·.1)).getD (.c undef)
abbrev YU:=Nat×(AV ⊕ (Nat×(AV→AV)))
def QA(os:XS):AV ⊕ (Nat×(AV→AV))→AV
  |.inl x=>x
  |.inr (j,g)=>g (QC os j)
def Qj(os:XS)(l:List YU):List (Nat×AV):=l.map fun p=>(p.1,QA os p.2)
theorem CW{os:XS}{p:AV×List Own}{j:Nat}(h:j<os.length):QC (p::os) j=QC os j:=by
  unfold QC
  rw[List.reverse_cons,List.getElem?_append_left (by simpa using h)]
theorem CV{os:XS}{p:AV×List Own}:QC (p::os) os.length=p.1:=by
  unfold QC
  rw[List.reverse_cons,List.getElem?_append_right (by simp)]
  simp
def LStepR(P:Program)(E:Wy)(Q:Exit→St→Prop)(st:St)(R:List Own→AV→List Own→Prop)(o:Oper):Prop:=
  ∀A a w,SatA E A st a w→∀(K:Act→World→Prop),
    (∀v x own' w' A',R st.own x own'→Frm w A w' A'→SatA E A' ⟨st.n,st.env,own',st.facts,st.dfs⟩ a w'→Rd w' A' v x→K (a.put o.dst v) w')→o.wpIn (XG E.rd) 0 P a w K (Wh E Q)
def Rv(o:Oper)(don:List YU)(env env':List (Nat×AV)):Prop:=∀s x,lk env' s=some x→(∃j,depsOk o [j]=true∧don[j]? =some (s,.inl x))∨lk env s=some x
def Rw(o:Oper)(don:List YU)(env env':List (Nat×AV))(os:XS):Prop:=∀s x,lk env' s=some x→(∃j z,depsOk o [j]=true∧don[j]? =some (s,z)∧x=QA os z)∨lk env s=some x
inductive AnyR(P:Program)(E:Wy)(Q:Exit→St→Prop)(ops:Array Oper)(n:Nat)(env:List (Nat×AV))(own:List Own)(R:XS→List Own→AV→List Own→Prop)(M:Nat)(F:List (Value×AV))(D:List Deferred):Nat→Nat→Nat→List Oper→List YU→List YU→List (Option Nat)→Prop
  |nil (i p:Nat) (don:List YU):AnyR P E Q ops n env own R M F D i M p [] don don []
  |quiet {i j p:Nat} {o:Oper} {os:List Oper} {don all:List YU} {lv:List (Option Nat)} {d:Nat} {x:AV} {env':List (Nat×AV)} (hd:o.dst=some d) (hn:Nat.blt d n=true) (he:Rv o don env env')
      (hs:∀os',FP own R os'→os'.length≤M→Step P E ops ⟨n,env',Qy own os',F,D⟩ o x) (h:AnyR P E Q ops n env own R M F D (i+1) j p os (don++[(d,.inl x)]) all lv):AnyR P E Q ops n env own R M F D i j p (o::os) don all (none::lv)
  |loud {i j p:Nat} {o:Oper} {os:List Oper} {don all:List YU} {lv:List (Option Nat)} {env':XS→List (Nat×AV)} {s:Nat} (hd:(o.dst=none∧s=n+i∧∀os ow x o',R os ow x o'→os.length=j→x=.c undef)∨(o.dst=some s∧s<n)) (hg:o.guard=none) (he:∀os',os'.length=j→Rw o don env (env' os') os') (hp:(Nat.beq j 0||depsOk o [p])=true)
      (hs:∀os',FP own R os'→os'.length=j→LStepR P E Q ⟨n,env' os',Qy own os',F,D⟩ (R os') o) (h:AnyR P E Q ops n env own R M F D (i+1) (j+1) i os (don++[(s,.inr (j,id))]) all lv):AnyR P E Q ops n env own R M F D i j p (o::os) don all (some j::lv)
section
variable {P:Program} {E:Wy} {Q:Exit→St→Prop} {n:Nat} {env:List (Nat×AV)} {own:List Own} {R:XS→List Own→AV→List Own→Prop} {M:Nat} {F:List (Value×AV)} {D:List Deferred} {ops:Array Oper}
theorem AnyR.get{i j p:Nat}{os:List Oper}{don all:List YU}{lv:List (Option Nat)}(h:AnyR P E Q ops n env own R M F D i j p os don all lv)(hi:don.length=i):
    (∃r,all=don++r)∧all.length=don.length+os.length∧lv.length=os.length∧j≤M∧
    (∀(k q:Nat),lv[k]? =some (some q)→j≤q∧q<M)∧
    (∀(k k' q:Nat),lv[k]? =some (some q)→lv[k']? =some (some q)→k=k')∧
    (∀q,j≤q→q<M→∃k:Nat,lv[k]? =some (some q))∧
    ∀k o,os[k]? =some o→
      (lv[k]? =some none∧∃d x env',all[i+k]? =some (d,.inl x)∧o.dst=some d∧d<n∧Rv o (all.take (i+k)) env env'∧∀os',FP own R os'→os'.length≤M→Step P E ops ⟨n,env',Qy own os',F,D⟩ o x)∨
      (∃(q:Nat) (env':XS→List (Nat×AV)) (s:Nat),lv[k]? =some (some q)∧all[i+k]? =some (s,.inr (q,id))∧((o.dst=none∧s=n+(i+k)∧∀os ow x o',R os ow x o'→os.length=q→x=.c undef)∨(o.dst=some s∧s<n))∧o.guard=none∧(∀os',os'.length=q→Rw o (all.take (i+k)) env (env' os') os')∧(∀os',FP own R os'→os'.length=q→LStepR P E Q ⟨n,env' os',Qy own os',F,D⟩ (R os') o)∧
        (q=j→j=0∨depsOk o [p]=true)∧(j<q→∃k',lv[k']? =some (some (q-1))∧depsOk o [i+k']=true)):=by
  induction h with
  |nil i p don=>exact⟨⟨[],by simp⟩,by simp,rfl,Nat.le_refl _,fun k q h=>by simp at h,fun k k' q h=>by simp at h,fun q h1 h2=>by omega,fun k o h=>by simp at h⟩
  |quiet hd hn hds hs _ ih=>
    rename_i i j p o os don all lv d x env' _
    obtain⟨⟨r,hr⟩,hl,hlv,hjM,hq,hinj,hsur,hk⟩:=ih (by simp[hi])
    refine⟨⟨(d,.inl x)::r,by rw[hr];simp⟩,by simp at hl⊢;omega,by simp[hlv],hjM,fun k q hkq=>?_,fun k k' q h1 h2=>?_,fun q h1 h2=>(by obtain⟨k,hk'⟩:=hsur q h1 h2;exact⟨k+1,by simpa using hk'⟩),fun k o' ho'=>?_⟩
    · cases k with
      |zero=>simp at hkq
      |succ k=>exact hq k q (by simpa using hkq)
    · cases k with
      |zero=>simp at h1
      |succ k=>
        cases k' with
        |zero=>simp at h2
        |succ k'=>rw[hinj k k' q (by simpa using h1) (by simpa using h2)]
    · cases k with
      |zero=>
        simp at ho';subst ho'
        have:all.take (i+0)=don:=by rw[hr,← hi];simp
        exact .inl ⟨by simp,d,x,env',by rw[hr,← hi];simp,hd,Ui hn,by rw[this];exact hds,hs⟩
      |succ k=>
        have:=hk k o' (by simpa using ho')
        rw[show i+(k+1)=i+1+k by omega]
        rcases this with ⟨h1,h2⟩|⟨q,ds',s',h1,h2,h3,h4,h5,h6,h7,h8⟩
        · exact .inl ⟨by simpa using h1,h2⟩
        · refine .inr ⟨q,ds',s',by simpa using h1,h2,h3,h4,h5,h6,h7,fun hlt=>?_⟩
          obtain⟨k',hk',hd'⟩:=h8 hlt
          exact⟨k'+1,by simpa using hk',by rw[show i+(k'+1)=i+1+k' by omega];exact hd'⟩
  |loud hd hg hds hp hs _ ih=>
    rename_i i j p o os don all lv env' s _
    obtain⟨⟨r,hr⟩,hl,hlv,hjM,hq,hinj,hsur,hk⟩:=ih (by simp[hi])
    refine⟨⟨(s,.inr (j,id))::r,by rw[hr];simp⟩,by simp at hl⊢;omega,by simp[hlv],by omega,fun k q hkq=>?_,fun k k' q h1 h2=>?_,fun q h1 h2=>(by
      by_cases he:q=j
      · exact⟨0,by simp[he]⟩
      · obtain⟨k,hk'⟩:=hsur q (by omega) h2;exact⟨k+1,by simpa using hk'⟩),fun k o' ho'=>?_⟩
    · cases k with
      |zero=>simp at hkq;omega
      |succ k=>have:=hq k q (by simpa using hkq);omega
    · cases k with
      |zero=>
        cases k' with
        |zero=>rfl
        |succ k'=>simp at h1 h2;have:=hq k' q h2;omega
      |succ k=>
        cases k' with
        |zero=>simp at h1 h2;have:=hq k q h1;omega
        |succ k'=>rw[hinj k k' q (by simpa using h1) (by simpa using h2)]
    · cases k with
      |zero=>
        simp at ho';subst ho'
        have:all.take (i+0)=don:=by rw[hr,← hi];simp
        refine .inr ⟨j,env',s,by simp,by rw[hr,← hi];simp,by simpa using hd,hg,by rw[this];exact hds,hs,fun _=>?_,fun h=>by omega⟩
        · simp only[Bool.or_eq_true]at hp
          exact hp.imp Nat.eq_of_beq_eq_true id
      |succ k=>
        have:=hk k o' (by simpa using ho')
        rw[show i+(k+1)=i+1+k by omega]
        rcases this with ⟨h1,h2⟩|⟨q,ds',s',h1,h2,h3,h4,h5,h6,h7,h8⟩
        · exact .inl ⟨by simpa using h1,h2⟩
        · have hjq:=(hq k q h1).1
          refine .inr ⟨q,ds',s',by simpa using h1,h2,h3,h4,h5,h6,fun h=>by omega,fun hlt=>?_⟩
          by_cases he:q=j+1
          · refine⟨0,by simp[he],?_⟩
            rcases h7 he with h7|h7
            · omega
            · simpa using h7
          · obtain⟨k',hk',hd'⟩:=h8 (by omega)
            exact⟨k'+1,by simpa using hk',by rw[show i+(k'+1)=i+1+k' by omega];exact hd'⟩
theorem Rs{id:Nat}{l pre tail:List Oper}{steps:List YU}{lv:List (Option Nat)}(hm:P.follows .mixedOrders=true)(hl:l=pre++tail)(hnd:XF (WM pre)=true)(hbk:Xi 0 l=true)(ht:Kr pre.length l=true)
    (hany:AnyR P E Q l.toArray n (U1 (WM pre) env) own R M F D 0 0 0 pre [] steps lv)
    (h:∀os',FP own R os'→os'.length=M→JL P E l.toArray tail ⟨n,Qj os' steps++U1 (WM pre) env,Qy own os',F,D⟩ Q):
    J P E (.region id l.toArray true) ⟨n,env,own,F,D⟩ Q:=fun a₀ w₀ ⟨A₀,hA₀⟩=>by
  obtain⟨_,hlen,hlvl,_,hlq,hinj,hsur,hst⟩:=hany.get rfl
  simp only[List.length_nil,Nat.zero_add]at hlen hst
  have hsize:l.toArray.size=pre.length+tail.length:=by simp[hl]
  have hpre:∀i o,i<pre.length→(l.toArray[i]? =some o↔pre[i]? =some o):=fun i o hi=>by simp[hl,List.getElem?_append_left hi]
  let k:=pre.length
  let Inv:Array Bool→QS→Act→World→Prop:=fun L A a w=>∃os',FP own R os'∧os'.length≤M∧SatA E A ⟨n,U1 (WM pre) env,Qy own os',F,D⟩ a w∧
    (∀i d x,steps[i]? =some (d,x)→L.getD i false=true→Rd w A (a.tmps.getD d undef) (QA os' x))∧
    (∀i o,l.toArray[i]? =some o→L.getD i false=true→∀e∈o.after,Region.binds .any e=true→L.getD e.on false=true)∧
    (∀i,pre.length≤i→L.getD i false=false)∧(∀i q:Nat,lv[i]? =some (some q)→(L.getD i false=true↔q<os'.length))
  have hdone:∀fuel L A a w,L.size=l.toArray.size→tail.length≤fuel→(∀i,i<pre.length→L.getD i true=true)→Inv L A a w→wpAnyIn (XG E.rd) 0 P .any l.toArray (Wh E Q) fuel L a w:=by
    intro fuel L A a w hsz hf hall ⟨os',hvd,hmM,h1,h2,h3,h4,h5⟩
    obtain⟨m,hmm⟩:∃m,m=os'.length:=⟨_,rfl⟩
    rw[← hmm]at hmM h5
    have hall':∀i,i<pre.length→L.getD i false=true:=fun i hi=>by rw[← Uh (by omega)];exact hall i hi
    have hm':m=M:=by
      apply Nat.le_antisymm hmM
      apply Nat.le_of_not_lt
      intro hlt
      obtain⟨i,hi⟩:=hsur m (Nat.zero_le _) hlt
      have hil:i<pre.length:=by have:=(List.getElem?_eq_some_iff.1 hi).1;omega
      have:=(h5 i m hi).1 (hall' i hil)
      omega
    rw[hm']at hmm
    refine Ec (k:=pre.length) (by simpa using ht) (by simpa using hbk) fuel pre.length L a w (Nat.le_refl _) (by omega) (by omega) hsz hall' h4 ?_
    have htl:l.toArray.toList.drop pre.length=tail:=by simp[hl]
    rw[htl]
    refine h os' hvd hmm.symm a w ⟨A,h1.size,h1.defers,h1.keep,h1.hp,fun s x hl'=>?_,h1.facts⟩
    have hget:∀(l':List (Nat×AV)) (env':List (Nat×AV)),lk (l'++env') s=some x→(∃i:Nat,l'[i]? =some (s,x))∨lk env' s=some x:=by
      intro l' env'
      induction l' with
      |nil=>intro h;exact .inr h
      |cons p l' ih=>
        intro h
        obtain⟨j,y⟩:=p
        rcases WX h with ⟨rfl,rfl⟩|⟨_,h⟩
        · exact .inl ⟨0,rfl⟩
        · rcases ih h with ⟨i,hi⟩|h
          · exact .inl ⟨i+1,by simpa using hi⟩
          · exact .inr h
    rcases hget _ _ hl' with ⟨i,hi⟩|hl'
    · simp only[Qj,List.getElem?_map]at hi
      cases hsi:steps[i]? with
      |none=>rw[hsi]at hi;cases hi
      |some p=>
        obtain⟨s',z⟩:=p
        rw[hsi]at hi
        simp only[Option.map_some,Option.some.injEq,Prod.mk.injEq]at hi
        obtain⟨rfl,rfl⟩:=hi
        exact h2 i s' z hsi (hall' i (by have:=(List.getElem?_eq_some_iff.1 hsi).1;omega))
    · exact h1.env s x hl'
  have key:∀fuel L A a w,L.size=l.toArray.size→Tp pre.length (fun i=>!L.getD i true)+tail.length≤fuel→Inv L A a w→wpAnyIn (XG E.rd) 0 P .any l.toArray (Wh E Q) fuel L a w:=by
    intro fuel
    induction fuel with
    |zero=>
      intro L A a w hsz hc hinv
      refine hdone 0 L A a w hsz (by omega) (fun i hi=>?_) hinv
      have h0:Tp pre.length (fun i=>!L.getD i true)=0:=by omega
      have:=List.countP_eq_zero.1 h0 i (by simpa using hi)
      simpa using this
    |succ fuel ih=>
      intro L A a w hsz hc hinv
      by_cases hall:∀i,i<pre.length→L.getD i true=true
      · exact hdone _ L A a w hsz (by omega) hall hinv
      have hinv':=hinv
      obtain⟨os',hvd,hmM,h1,h2,h3,h4,h5⟩:=hinv
      refine⟨fun hr=>?_,fun i hi=>?_⟩
      · exfalso
        apply hall
        intro i
        induction i using Nat.strongRecOn with
        |_ i ihi=>
          intro hlt
          cases hL:L.getD i true with
          |true=>rfl
          |false=>
            exfalso
            obtain⟨o,ho⟩:∃o,l.toArray[i]? =some o:=⟨_,Array.getElem?_eq_getElem (by omega)⟩
            have:i∈Region.ready .any l.toArray L:=Yr hsz ho hL fun e he hb=>by
              have hon:=Ym hbk (i:=i) (o:=o) (by simpa using ho) e he hb
              rw[← Uh (by omega)]
              exact ihi e.on (by omega) (by omega)
            rw[hr]at this
            cases this
      · obtain⟨hlt,o,ho,hunl,hdeps⟩:=Wb hi
        have hik:i<pre.length:=by
          apply Nat.lt_of_not_le
          intro hge
          apply hall
          intro j hj
          rw[Uh (by omega)]
          exact(Kq (k:=pre.length) (by simpa using ht) (by simpa using hbk) h3 ho hdeps hge).1 j hj
        have ho':pre[i]? =some o:=(hpre i o hik).1 ho
        have hunl':L.getD i false=false:=by rw[← Uh (by omega)];exact hunl
        have hcnt:Tp pre.length (fun j=>!(L.setIfInBounds i true).getD j true)+tail.length≤fuel:=by
          have:=Lv (fun i=>!L.getD i true) (fun j=>!(L.setIfInBounds i true).getD j true) i (fun j hj=>by rw[Uk _ _ _ (by omega),if_neg hj]) (by simp[hunl]) (by rw[Uk _ _ _ (by omega),if_pos rfl];rfl) pre.length
          rw[if_pos hik]at this
          omega
        have hclo:∀j o',l.toArray[j]? =some o'→(L.setIfInBounds i true).getD j false=true→∀e∈o'.after,Region.binds .any e=true→(L.setIfInBounds i true).getD e.on false=true:=by
          intro j o' ho2 hLj e he hb
          rw[Uk _ _ _ (by omega)]at hLj⊢
          split
          · rfl
          · by_cases hji:j=i
            · subst hji;rw[ho]at ho2;cases ho2;exact hdeps e he hb
            · rw[if_neg hji]at hLj;exact h3 j o' ho2 hLj e he hb
        have h4':∀j,pre.length≤j→(L.setIfInBounds i true).getD j false=false:=fun j hj=>by rw[Uk _ _ _ (by omega),if_neg (by omega)];exact h4 j hj
        have hsat:∀(env':List (Nat×AV)),Rv o (steps.take i) (U1 (WM pre) env) env'→SatA E A ⟨n,env',Qy own os',F,D⟩ a w:=by
          intro env' he
          refine⟨h1.size,h1.defers,h1.keep,h1.hp,fun s y hl=>?_,h1.facts⟩
          rcases he s y hl with ⟨j,hj,hp⟩|h
          · obtain⟨e,he,hb,hon⟩:=WG hj (List.mem_singleton.2 rfl)
            have hLj:=hdeps e he hb
            rw[hon]at hLj
            refine h2 j s (.inl y) ?_ hLj
            rw[List.getElem?_take]at hp
            split at hp
            · exact hp
            · cases hp
          · exact h1.env s y h
        have hsatO:∀(env':List (Nat×AV)),Rw o (steps.take i) (U1 (WM pre) env) env' os'→SatA E A ⟨n,env',Qy own os',F,D⟩ a w:=by
          intro env' he
          refine⟨h1.size,h1.defers,h1.keep,h1.hp,fun s y hl=>?_,h1.facts⟩
          rcases he s y hl with ⟨j,z,hj,hp,hz⟩|h
          · obtain⟨e,he,hb,hon⟩:=WG hj (List.mem_singleton.2 rfl)
            have hLj:=hdeps e he hb
            rw[hon]at hLj
            rw[hz]
            refine h2 j s z ?_ hLj
            rw[List.getElem?_take]at hp
            split at hp
            · exact hp
            · cases hp
          · exact h1.env s y h
        -- a slot of another operation
        have hother:∀j d' x',steps[j]? =some (d',x')→j≠i→∀d,o.dst=some d→d<n→d≠d':=by
          intro j d' x' hj hji d hd hdn hdd
          subst hdd
          have hjlt:j<pre.length:=by have:=(List.getElem?_eq_some_iff.1 hj).1;omega
          obtain⟨oj,hoj⟩:∃oj,pre[j]? =some oj:=⟨_,List.getElem?_eq_getElem hjlt⟩
          rcases hst j oj hoj with ⟨_,dj,xj,_,hsj,hdj,_⟩|⟨_,_,sj,_,hsj,hdj,_⟩
          · rw[hsj]at hj;cases hj
            exact hji (Y3 hnd hoj ho' hdj hd)
          · rw[hsj]at hj
            have h7:=(Prod.mk.inj (Option.some.inj hj)).1
            rcases hdj with ⟨_,hdj,_⟩|⟨hdj,_⟩
            · exact absurd hdn (by rw[← h7,hdj];exact Nat.not_lt.2 (Nat.le_add_right _ _))
            · rw[h7]at hdj
              exact hji (Y3 hnd hoj ho' hdj hd)
        rcases hst i o ho' with ⟨hlv,d,x,env',hsx,hd,hdn,hds,hstep⟩|⟨q,env',sl,hlv,hsx,hd,hg,hds,hstep,hq0,hqp⟩
        · have hput:∀(v:Value) (w':World) (A':QS),Frm w A w' A'→SatA E A' ⟨n,env',Qy own os',F,D⟩ a w'→Rd w' A' v x→
              wpAnyIn (XG E.rd) 0 P .any l.toArray (Wh E Q) fuel (L.setIfInBounds i true) (a.put o.dst v) w':=by
            intro v w' A' hf hs' hv
            refine ih _ A' _ w' (by simpa using hsz) hcnt ⟨os',hvd,hmM,⟨?_,by rw[hd];exact hs'.defers,hs'.keep,hs'.hp,fun s y hl=>?_,hs'.facts⟩,fun j d' x' hj hLj=>?_,hclo,h4',fun j q hjq=>?_⟩
            · have:=hs'.size;simp only[Act.put,hd,Array.size_setIfInBounds];exact this
            · rw[hd]
              have hne:d≠s:=by
                intro hds'
                subst hds'
                have:=(WK (fun k=>!((WM pre).any (Nat.beq k))) env d y hl).2
                simp only[Bool.not_eq_true']at this
                have hm:=List.any_eq_false.1 this d (GY ho' hd)
                simp at hm
              rw[WC hne]
              exact hf _ _ (h1.env s y hl)
            · rw[Uk _ _ _ (by omega)]at hLj
              by_cases hji:j=i
              · subst hji
                rw[hsx]at hj;cases hj
                rw[hd,Wr (by have:=hs'.size;simp only at this;rw[this];exact hdn)]
                exact hv
              · rw[if_neg hji]at hLj
                rw[hd,WC (hother j d' x' hj hji d hd hdn)]
                exact hf _ _ (h2 j d' x' hj hLj)
            · rw[Uk _ _ _ (by omega)]
              by_cases hji:j=i
              · subst hji;rw[hlv]at hjq;cases hjq
              · rw[if_neg hji];exact h5 j q hjq
          have hs:=hstep os' hvd hmM A a w (hsat env' hds) (wpAnyIn (XG E.rd) 0 P .any l.toArray (Wh E Q) fuel (L.setIfInBounds i true)) (Wh E Q) hput
          unfold wpOpIn
          simp only[ho]
          split
          · rename_i hw;rw[if_pos hw]at hs;exact hs
          · rename_i hw;rw[if_neg hw]at hs;exact⟨fun _ _=>trivial,hs⟩
        · -- one that turns what is owned: it is its turn
          have hqM:=(hlq i q hlv).2
          have hmq:os'.length=q:=by
            have h6:¬q<os'.length:=fun h=>by have:=(h5 i q hlv).2 h;rw[hunl']at this;cases this
            by_cases hq:0<q
            · obtain⟨k',hk',hd'⟩:=hqp hq
              obtain⟨e,he,hb,hon⟩:=WG hd' (List.mem_singleton.2 rfl)
              have:=hdeps e he hb
              rw[hon]at this
              have:=(h5 k' (q-1) hk').1 this
              omega
            · omega
          have hs:=hstep os' hvd hmq A a w (hsatO _ (hds os' hmq)) (wpAnyIn (XG E.rd) 0 P .any l.toArray (Wh E Q) fuel (L.setIfInBounds i true)) (by
            intro v x own' w' A' hR hf hs' hv
            have hvd':FP own R ((x,own')::os'):=⟨hR,hvd⟩
            have hold:∀z:AV ⊕ (Nat×(AV→AV)),(∀j g,z=.inr (j,g)→j<os'.length)→QA ((x,own')::os') z=QA os' z:=fun z hz=>by
              cases z with
              |inl z=>rfl
              |inr j=>exact congrArg j.2 (CW (hz j.1 j.2 rfl))
            have hsl:∀j d' x',steps[j]? =some (d',x')→L.getD j false=true→∀jj g,x'=.inr (jj,g)→jj<os'.length:=fun j d' x' hj hLj jj g hx'=>by
              subst hx'
              have hjlt:j<pre.length:=by have:=(List.getElem?_eq_some_iff.1 hj).1;omega
              obtain⟨oj,hoj⟩:∃oj,pre[j]? =some oj:=⟨_,List.getElem?_eq_getElem hjlt⟩
              rcases hst j oj hoj with ⟨_,dj,xj,_,hsj,_⟩|⟨qj,_,sj,hlvj,hsj,_⟩
              · rw[hsj]at hj;cases hj
              · rw[hsj]at hj;cases hj
                exact(h5 j _ hlvj).1 hLj
            have hputslot:∀d',(∀d,o.dst=some d→d<n→d≠d')→(a.put o.dst v).tmps.getD d' undef=a.tmps.getD d' undef:=fun d' hne=>by
              rcases hd with ⟨hd,_⟩|⟨hd,hdn⟩
              · rw[hd];rfl
              · rw[hd];exact WC (hne _ hd hdn)
            refine ih _ A' _ w' (by simpa using hsz) hcnt ⟨(x,own')::os',hvd',by simp only[List.length_cons];omega,⟨?_,by
                have:=hs'.defers
                rcases hd with ⟨hd,_⟩|⟨hd,_⟩<;>(rw[hd];exact this),hs'.keep,hs'.hp,fun s y hl=>?_,hs'.facts⟩,fun j d' x' hj hLj=>?_,hclo,h4',fun j q' hjq=>?_⟩
            · have:=hs'.size
              rcases hd with ⟨hd,_⟩|⟨hd,_⟩
              · rw[hd];exact this
              · simp only[Act.put,hd,Array.size_setIfInBounds];exact this
            · rw[hputslot s (fun d hd' hdn hds'=>by
                subst hds'
                have:=(WK (fun k=>!((WM pre).any (Nat.beq k))) env d y hl).2
                simp only[Bool.not_eq_true']at this
                have hm:=List.any_eq_false.1 this d (GY ho' hd')
                simp at hm)]
              exact hf _ _ (h1.env s y hl)
            · rw[Uk _ _ _ (by omega)]at hLj
              by_cases hji:j=i
              · subst hji
                rw[hsx]at hj;cases hj
                show Rd w' A' _ (QC ((x,own')::os') q)
                rw[← hmq,CV]
                rcases hd with ⟨hd,hsl',hru⟩|⟨hd,hdn⟩
                · have hu:(a.put o.dst v).tmps.getD sl undef=undef:=by
                    have:=h1.size
                    simp only at this
                    rw[hd,hsl']
                    simp[Act.put,Array.getD_eq_getD_getElem?,Array.getElem?_eq_none,this]
                  rw[hu,hru _ _ _ _ hR hmq]
                  exact .c _
                · rw[hd,Wr (by have:=hs'.size;simp only at this;rw[this];exact hdn)]
                  exact hv
              · rw[if_neg hji]at hLj
                rw[hputslot d' (fun d hd' hdn=>hother j d' x' hj hji d hd' hdn),hold x' (hsl j d' x' hj hLj)]
                exact hf _ _ (h2 j d' x' hj hLj)
            · rw[Uk _ _ _ (by omega)]
              by_cases hji:j=i
              · subst hji;rw[hlv]at hjq;cases hjq;simp[hmq]
              · rw[if_neg hji,h5 j q' hjq]
                have:q'≠q:=fun he=>hji (hinj j i q (he▸hjq) hlv)
                simp only[List.length_cons];omega)
          unfold wpOpIn
          simp only[ho]
          rw[if_pos (by simp[Region.wanted,hg])]
          exact hs
  refine wpIn_region_any hm (key l.toArray.size _ A₀ a₀ _ (by simp) ?_ ⟨[],trivial,Nat.zero_le _,⟨hA₀.size,hA₀.defers,hA₀.draw.keep,hA₀.hp.draw,fun s y hl=>?_,fun p hp=>?_⟩,fun i d x hi hL=>?_,fun i o ho hL=>?_,fun i _=>?_,fun i q hq=>?_⟩)
  · have:Tp pre.length (fun i=>!(Array.replicate l.toArray.size false).getD i true)≤pre.length:=Nat.le_trans List.countP_le_length (by simp)
    omega
  · exact(hA₀.draw.env s y (WK (fun k=>!((WM pre).any (Nat.beq k))) env s y hl).1)
  · exact hA₀.draw.facts p hp
  · simp only[Array.getD_eq_getD_getElem?,Array.getElem?_replicate]at hL;split at hL<;>simp at hL
  · simp only[Array.getD_eq_getD_getElem?,Array.getElem?_replicate]at hL;split at hL<;>simp at hL
  · simp only[Array.getD_eq_getD_getElem?,Array.getElem?_replicate];split<;>simp
  · simp only[Array.getD_eq_getD_getElem?,Array.getElem?_replicate];split<;>simp
end

end
end Go.Proofs.YtammalmlbabpbaaGreat.J
