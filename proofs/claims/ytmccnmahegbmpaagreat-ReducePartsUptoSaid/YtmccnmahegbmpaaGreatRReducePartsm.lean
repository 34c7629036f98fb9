/- The law ReduceParts of the seat: at every input it returns true, and the input reads behind the call as it read before. Conditions: none beside the statement's own. -/
import Derived.Test.YtmccnmahegbmpaaGreatX5RReduceParts
import Derived.Test.YtmccnmahegbmpaaGreatRows
import Derived.WalkKit
import Derived.ProofKit
import Derived.OpenShut
import Derived.ShutString
import Derived.ChangeOld
import Derived.Below
import Derived.SizedLaws
import Derived.JoinedCond
import Derived.Deep.CondSized
namespace Go.Proofs.YtmccnmahegbmpaaGreat.reduceParts
open Go.ChangeShapes Go.WideShapes Go.ChangeAt Go.RowKit Go.Proofs.YtmccnmahegbmpaaGreat.J
open Go.ChangeMaps (open_string shut_string)
set_option linter.unusedVariables false
theorem own:ownKnob Tryz.prog.godebug=none:=by kernel_rfl
theorem bulk_one{H:Type}(d:DataW H):1≤Rows.uptoBulk d:=by
  cases d with
  |lit l=>cases l<;>simp[Rows.uptoBulk]
  |nil=>simp[Rows.uptoBulk]
  |ptr d=>simp[Rows.uptoBulk]
  |slice a b=>simp[Rows.uptoBulk]
  |agg l=>simp[Rows.uptoBulk]
  |iface t d=>simp[Rows.uptoBulk]
  |map l=>simp[Rows.uptoBulk]
  |held h=>simp[Rows.uptoBulk]
theorem bulk_len{H:Type}:∀(l:List (DataW H)),l.length≤Rows.uptoBulkAll l
  |[]=>Nat.le_refl _
  |x::r=>by have:=bulk_one x;have:=bulk_len r;simp only[Rows.uptoBulkAll,List.length_cons];omega
theorem upto_len{H:Type}{enc:TypeId×Value→H}{W:World}{α:Type}{f:α→List AV}{l:List α}{fr cl:Bool}{ei:We}{t e:TypeId}{v:Value}{d:DataW H}{ps:List MemPlace}(ht:Tryz.prog.underlying t=some (.slice e))(h:DataW.Trod enc Tryz.prog W 0 (fun _=>true) true t v d ps)(hr:Rd W (KH W) v (.sl fr cl ei (l.map f))):l.length≤Rows.uptoBulk d:=by
  obtain⟨n,h⟩:=h
  have hl:∃a cap,v=.slice a l.length cap:=by
    generalize hx:l.map f=xs at hr
    have hn:xs.length=l.length:=by rw[← hx];simp
    cases hr with
    |emp=>rw[← hn];exact⟨_,_,rfl⟩
    |sl=>rw[← hn];exact⟨_,_,rfl⟩
  obtain⟨a,cap,rfl⟩:=hl
  obtain⟨x,hx⟩:∃x,x=(d,ps):=⟨_,rfl⟩
  have hd:d=x.1:=by rw[hx]
  rw[hd]
  replace h:=hx▸h
  clear hd hx
  rcases DataW.trod_slice ht h with ⟨h1,rfl⟩|⟨a,len,cap,elems,rest,m,_,h1,rfl,_,hle,hmax,hel,hget,_,_⟩
  · simp only[Value.cells,List.cons.injEq,Value.slice.injEq]at h1
    have:=h1.1.2.1
    omega
  · simp only[Value.cells,List.cons.injEq,Value.slice.injEq]at h1
    have h3:=h1.1.2.1
    have:=bulk_len (elems.map (·.1))
    simp only[List.length_map]at this
    show l.length≤Rows.uptoBulkAll _+Rows.uptoBulkAll _+1
    omega
set_option maxRecDepth 100000 in
theorem contract(H:Type)(enc:TypeId×Value→H)(W:World)(base:Nat)(args:Array Value)(ds gs:List (DataW H))(before:List MemPlace)
    (hval0:∀(j:Nat) t v,Tryz.f3.params[j]? =some t→args[j]? =some v→Value.okWide Tryz.prog W .any base t v)
    (hW:DataW.Whole enc Tryz.prog Tryz.f3.params.toList Rows.reducePartsSpec.vars false W args.toList ds gs before) (hk:Rows.uptoSmall H (ds++gs)=true)
    (hsz0:(DataW.weightsEach Tryz.prog (Tryz.f3.params.toList++Rows.reducePartsSpec.plain.varTypes Tryz.prog) (ds++gs)).all (·≤reachBytes)=true):
    Calls Tryz.prog 3 args W fun e W'=>∃v,e=.returned v∧Rows.reducePartsSpec.post enc Tryz.prog Tryz.f3 false true false false W args v W':=by
  have hsz:(DataW.weightsEach Tryz.prog (Tryz.f3.params.toList++Rows.reducePartsSpec.plain.varTypes Tryz.prog) (ds++gs)).all (·≤reachBytes)=true:=hsz0
  have hval:∀(j:Nat) t v,Tryz.f3.params[j]? =some t→args[j]? =some v→Value.okWide Tryz.prog W .any base t v:=hval0
  have hW':=hW
  obtain⟨p,q,hA0,hV,rfl,hfz,hnd⟩:=hW
  have hA:DataW.TrodAll enc Tryz.prog W 0 (fun _=>true) true Tryz.f3.params.toList args.toList ds p:=hA0
  rw[Tryz.params3]at hA hval hsz
  obtain⟨v0,vs0,d0,ds0,p0,q0,hargs,rfl,rfl,h0,r0⟩:=trodAll_cons hA
  obtain⟨v1,vs1,d1,ds1,p1,q1,rfl,rfl,rfl,h1,r1⟩:=trodAll_cons r0
  obtain⟨v2,vs2,d2,ds2,p2,q2,rfl,rfl,rfl,h2,r2⟩:=trodAll_cons r1
  obtain⟨rfl,rfl,rfl⟩:=trodAll_nil r2
  obtain rfl:args= #[v0,v1,v2]:=by cases args;simp_all
  obtain⟨rfl,rfl⟩:=trodVars_none hV
  have hlt:=fun x (hx:x∈_)=>hW'.lt x hx
  obtain⟨a0,w0,e0⟩:=T6 Tryz.underlying29 (hval 0 29 v0 rfl rfl) h0 (Fits.of hsz (j:=0) rfl rfl) (fun m cs' y hy hf=>PgT.rd m cs' y hy hf)
  obtain⟨a1,w1,z1,e1⟩:=Cx (ei:=MH) (f:=EvT.cs false) (Wf:=EvT.wf) Tryz.underlying30 (by kernel_rfl) (by kernel_rfl) (by decide) (hval 1 30 v1 rfl rfl) h1 (Fits.of hsz (j:=1) rfl rfl) (fun _=>EvT.cs_length false _) (fun m cs' y hy hf=>EvT.rd m cs' y hy hf)
  obtain⟨n2,rfl,rfl,rfl,q2⟩:=open_int Tryz.underlying3 (hval 2 3 v2 rfl rfl) h2
  have y2:=LQ q2
  have hk1:Rows.uptoBulkAll _≤1048576:=of_decide_eq_true hk
  simp only[List.append_nil,Rows.uptoBulkAll]at hk1
  have u1:a1.length≤1048576:=by have:=upto_len Tryz.underlying30 h1 e1;omega
  refine(Fq (LF w0 ⟨z1,w1⟩ (by unfold Qu;omega) y2) W _ (HE e0 (HE e1 (HE (.c _) RdL.nil)))).mono fun e W' ⟨he,bel⟩=>?_
  subst he
  exact⟨_,rfl,_,_,_,[],_,[],hW',trodAll_mk1 (shut_bool Tryz.underlying4 _),(trodAll_cons_mk (MP (by kernel_rfl) (by kernel_rfl) (of_decide_eq_true (by kernel_rfl)) h0 (fun x hx=>hlt x (by simp[hx])) bel) (trodAll_cons_mk (MP (by kernel_rfl) (by kernel_rfl) (of_decide_eq_true (by kernel_rfl)) h1 (fun x hx=>hlt x (by simp[hx])) bel) (trodAll_cons_mk (shut_int Tryz.underlying3 q2) trodAll_mk0))),rfl,bel.frame _,fun h=>by cases h⟩
set_option maxRecDepth 100000 in
theorem lifted(os:Os)(started:os.Started)(H:Type)(enc:TypeId×Value→H)(F:Stop.Interp):
    ReturnsInHanded {} Tryz.checked os 3 .any ((Rows.OpenSpec.upto Rows.reducePartsSpec).pre6 enc Tryz.prog Tryz.f3 Rows.reducePartsUptoRow.domain false) (((Rows.OpenSpec.upto Rows.reducePartsSpec).at F).post enc Tryz.prog Tryz.f3 false true false false):=by
  refine returnsInHanded_of_cond_sized (C:=Tryz.checked) (s:=Rows.OpenSpec.upto Rows.reducePartsSpec) (k:=Rows.uptoSmall) rfl own started (by kernel_rfl) Tryz.func3
    (OpenSpec.witness (enc:=enc) (C:=Tryz.checked) (s:=Rows.OpenSpec.upto Rows.reducePartsSpec) (k:=Rows.uptoSmall) rfl false ⟨#[],#[.agg #[.int .i64 0,.int .u64 0,.string ByteArray.empty,.slice none 0 0,.slice none 0 0,.slice none 0 0],.slice none 0 0,.int .i64 0],[]⟩ 8 (by kernel_rfl) (by kernel_rfl) (by kernel_rfl) (x:=([.agg [.agg [.lit (.int .i64 0),.lit (.int .u64 0),.lit (.string []),.nil,.nil],.nil],.nil,.lit (.int .i64 0)],[],[])) (by kernel_rfl) rfl (by kernel_rfl)) ?_
  intro W base args ds gs before hval hW _ hk hsz _
  exact contract H enc W base args ds gs before hval hW hk hsz
theorem over:Rows.reducePartsUptoRow.holds Tryz.pinned (Rows.OpenSpec.upto Rows.reducePartsSpec):=
  OpenClaim.holds_of_cond 3 Tryz.f3 rfl rfl rfl rfl rfl rfl rfl ⟨rfl,rfl,rfl,rfl,rfl⟩ rfl rfl rfl rfl rfl (by kernel_rfl) Tryz.func3 (by kernel_rfl)
    (of_decide_eq_true (by kernel_rfl)) (by unfold Func.isWrapper;first|(rw[if_pos (by decide+kernel)];kernel_rfl)|(rw[if_neg (by decide+kernel)];exact⟨rfl,rfl⟩))
    (fun os started H enc _ F=>lifted os started H enc F)
theorem proved:Rows.ReducePartsUptoSaid:=over
end Go.Proofs.YtmccnmahegbmpaaGreat.reduceParts
namespace Go.Proofs.YtmccnmahegbmpaaGreat
/-- The row, under a short name, for the claim. -/
theorem reduceParts_holds:Rows.ReducePartsUptoSaid:=reduceParts.proved
#print axioms reduceParts_holds
end Go.Proofs.YtmccnmahegbmpaaGreat
