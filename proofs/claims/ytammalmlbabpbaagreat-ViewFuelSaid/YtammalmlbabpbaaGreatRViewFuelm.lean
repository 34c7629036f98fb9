/- The law ViewFuel of the seat: at every input it returns true, and the input reads behind the call as it read before. Conditions: none beside the statement's own. -/
import Derived.Test.YtammalmlbabpbaaGreatX5RViewFuel
import Derived.Test.YtammalmlbabpbaaGreatRows
import Derived.WalkKit
import Derived.ProofKit
import Derived.OpenShut
import Derived.ShutString
import Derived.ChangeOld
import Derived.Below
import Derived.SizedLaws
namespace Go.Proofs.YtammalmlbabpbaaGreat.viewFuel
open Go.ChangeShapes Go.WideShapes Go.ChangeAt Go.RowKit Go.Proofs.YtammalmlbabpbaaGreat.J
open Go.ChangeMaps (open_string shut_string)
set_option linter.unusedVariables false
theorem own:ownKnob Tryz.prog.godebug=none:=by kernel_rfl
set_option maxRecDepth 100000 in
theorem lifted(os:Os)(started:os.Started)(H:Type)(enc:TypeId×Value→H):
    ReturnsInHanded {} Tryz.checked os 6 .any (Rows.viewFuelSpec.pre6 enc Tryz.prog Tryz.f6 Rows.viewFuelRow.domain false) (Rows.viewFuelSpec.post enc Tryz.prog Tryz.f6 false true false false):=by
  refine returnsInHanded_of_change_sized (C:=Tryz.checked) own started (by kernel_rfl) Tryz.func6
    (ChangeSpec.witness6 (enc:=enc) (C:=Tryz.checked) false ⟨#[],#[.agg #[.int .i64 0,.string ByteArray.empty,.int .i64 0,.int .u64 0,.string ByteArray.empty,.slice none 0 0,.int .i64 0,.int .u64 0,.string ByteArray.empty,.slice none 0 0,.slice none 0 0,.slice none 0 0],.agg #[.int .i64 0,.int .u64 0,.string ByteArray.empty,.slice none 0 0,.slice none 0 0],.int .i64 0],[]⟩ 8 (by kernel_rfl) (by kernel_rfl) (by kernel_rfl) (by kernel_rfl)) ?_
  intro W base args ds gs before hval0 hW hcnd hsz0 _
  have hsz:(DataW.weightsEach Tryz.prog (Tryz.f6.params.toList++Rows.viewFuelSpec.plain.varTypes Tryz.prog) (ds++gs)).all (·≤reachBytes)=true:=hsz0
  have hval:∀(j:Nat) t v,Tryz.f6.params[j]? =some t→args[j]? =some v→Value.okWide Tryz.prog W .any base t v:=hval0
  have hW':=hW
  obtain⟨p,q,hA0,hV,rfl,hfz,hnd⟩:=hW
  have hA:DataW.TrodAll enc Tryz.prog W 0 (fun _=>true) true Tryz.f6.params.toList args.toList ds p:=hA0
  rw[Tryz.params6]at hA hval hsz
  obtain⟨v0,vs0,d0,ds0,p0,q0,hargs,rfl,rfl,h0,r0⟩:=trodAll_cons hA
  obtain⟨v1,vs1,d1,ds1,p1,q1,rfl,rfl,rfl,h1,r1⟩:=trodAll_cons r0
  obtain⟨v2,vs2,d2,ds2,p2,q2,rfl,rfl,rfl,h2,r2⟩:=trodAll_cons r1
  obtain⟨rfl,rfl,rfl⟩:=trodAll_nil r2
  obtain rfl:args= #[v0,v1,v2]:=by cases args;simp_all
  obtain⟨rfl,rfl⟩:=trodVars_none hV
  have hlt:=fun x (hx:x∈_)=>hW'.lt x hx
  obtain⟨a0,w0,e0⟩:=LV Tryz.underlying29 (hval 0 29 v0 rfl rfl) h0 (Fits.of hsz (j:=0) rfl rfl) (fun m cs' y hy hf=>TmT.rd m cs' y hy hf)
  obtain⟨a1,w1,e1⟩:=LV Tryz.underlying33 (hval 1 33 v1 rfl rfl) h1 (Fits.of hsz (j:=1) rfl rfl) (fun m cs' y hy hf=>V.rd m cs' y hy hf)
  obtain⟨n2,rfl,rfl,rfl,q2⟩:=open_int Tryz.underlying3 (hval 2 3 v2 rfl rfl) h2
  have y2:=L2 q2
  refine(FY (RI (t:=a0) (st:=a1) (f:=n2) w0 w1 y2) W _ (HI e0 (HI e1 (HI (.c _) RdL.nil)))).mono fun e W' ⟨he,bel⟩=>?_
  subst he
  exact⟨_,rfl,_,_,_,[],_,[],hW',trodAll_mk1 (shut_bool Tryz.underlying4 _),(trodAll_cons_mk (MX (by kernel_rfl) (by kernel_rfl) (of_decide_eq_true (by kernel_rfl)) h0 (fun x hx=>hlt x (by simp[hx])) bel) (trodAll_cons_mk (MX (by kernel_rfl) (by kernel_rfl) (of_decide_eq_true (by kernel_rfl)) h1 (fun x hx=>hlt x (by simp[hx])) bel) (trodAll_cons_mk (shut_int Tryz.underlying3 q2) trodAll_mk0))),rfl,bel.frame _,fun h=>by cases h⟩
theorem jfa:laidOutB Tryz.pinned.checked.prog=true:=by kernel_rfl
theorem jfb:mapsRowed Tryz.pinned.checked.prog=true:=by kernel_rfl
theorem jfc:(Rows.viewFuelRow.inPlace==Tryz.pinned.checked.prog.inPlace 6)=true:=by kernel_rfl
theorem jfd:(Rows.viewFuelRow.unfollowed==Tryz.pinned.checked.prog.unfollowed 6)=true:=by kernel_rfl
theorem jfe:(Rows.viewFuelRow.recurses==Tryz.pinned.checked.prog.recurses 6)=true:=by kernel_rfl
theorem jff:(Rows.viewFuelRow.named==Tryz.pinned.checked.prog.varsNamed 6)=true:=by kernel_rfl
theorem jfacts:joinedFacts Tryz.pinned.checked.prog 6 Tryz.f6 Rows.viewFuelSpec Rows.viewFuelRow=true:=by
  simp only[joinedFacts,Bool.and_eq_true]
  exact⟨⟨⟨⟨⟨⟨⟨⟨⟨⟨⟨⟨⟨⟨⟨⟨⟨⟨⟨⟨⟨⟨⟨⟨⟨⟨⟨⟨⟨⟨⟨by kernel_rfl,jfa⟩,jfb⟩,by kernel_rfl⟩,by kernel_rfl⟩,by kernel_rfl⟩,by kernel_rfl⟩,by kernel_rfl⟩,by kernel_rfl⟩,jfc⟩,jfd⟩,jfe⟩,jff⟩,by kernel_rfl⟩,by kernel_rfl⟩,by kernel_rfl⟩,by kernel_rfl⟩,by kernel_rfl⟩,by kernel_rfl⟩,by kernel_rfl⟩,by kernel_rfl⟩,by kernel_rfl⟩,by kernel_rfl⟩,by kernel_rfl⟩,by kernel_rfl⟩,by kernel_rfl⟩,by kernel_rfl⟩,by kernel_rfl⟩,by kernel_rfl⟩,by kernel_rfl⟩,by kernel_rfl⟩,by kernel_rfl⟩
theorem over:Rows.viewFuelRow.holds Tryz.pinned (OpenSpec.ofChange Rows.viewFuelSpec):=
  OpenClaim.holds_of_wide 6 Tryz.f6 rfl rfl rfl rfl rfl rfl rfl ⟨rfl,rfl,rfl,rfl,rfl⟩ rfl rfl rfl rfl rfl (by kernel_rfl) Tryz.func6 jfacts
    (of_decide_eq_true (by kernel_rfl)) (by unfold Func.isWrapper;first|(rw[if_pos (by decide+kernel)];kernel_rfl)|(rw[if_neg (by decide+kernel)];exact⟨rfl,rfl⟩))
    (fun os started H enc _=>lifted os started H enc)
theorem proved:Rows.ViewFuelSaid:=over
end Go.Proofs.YtammalmlbabpbaaGreat.viewFuel
namespace Go.Proofs.YtammalmlbabpbaaGreat
/-- The row, under a short name, for the claim. -/
theorem viewFuel_holds:Rows.ViewFuelSaid:=viewFuel.proved
#print axioms viewFuel_holds
end Go.Proofs.YtammalmlbabpbaaGreat
