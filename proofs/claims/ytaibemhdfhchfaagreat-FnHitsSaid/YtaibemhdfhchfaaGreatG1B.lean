/- Walks: FnHits: the statement. -/
import Derived.Test.YtaibemhdfhchfaaGreatG1A
import Derived.Test.YtaibemhdfhchfaaGreatRows
import Derived.WalkKit
import Derived.ProofKit
import Derived.OpenShut
import Derived.ShutString
import Derived.ChangeOld
import Derived.Below
import Derived.SizedLaws
import Derived.Carry

namespace Go.Proofs.YtaibemhdfhchfaaGreat
open Go Go.RowKit
set_option linter.unusedSimpArgs false
set_option linter.unusedVariables false
set_option maxRecDepth 100000


open Go.Proofs.YtaibemhdfhchfaaGreat

section
variable {H : Type} {enc : TypeId × Value → H} {w : World} {base : Nat} {sp : Nat → Bool} {held : Bool}
theorem open_u8 {fuel : Nat} {cs : List Value} {x : DataW H × List MemPlace} (h : DataW.trod enc Tryz.prog w base sp held fuel 5 cs = some x) : ∃ n : Int,(0 ≤ n ∧ n < 256) ∧ VRL w β0 b0 [.int .u8 n] cs:=by
  obtain ⟨n,h1,_,h3⟩:=DataW.trod_int Tryz.underlying5 h
  simp [Lit.wf,IntKind.min,IntKind.max,IntKind.signed,IntKind.bits] at h3
  exact ⟨n,by omega,_,_,h1,rfl,rfl⟩
theorem open_bytes {fuel : Nat} {cs : List Value} {x : DataW H × List MemPlace} (h : DataW.trod enc Tryz.prog w base sp held fuel 22 cs = some x) : ∃ l : List Int,Dig 256 l ∧ l.length ≤ maxLen ∧ ∃ v,cs = [v] ∧ VR w β0 b0 (Wd .u8 l) v :=
  open_rows (z:=1) Tryz.underlying22 (by kernel_rfl) (by omega) _ (fun n=>[.int .u8 n]) (fun _ _ _ h=>open_u8 h) h
end

namespace fnHits
open Go.ChangeShapes Go.WideShapes Go.ChangeAt Go.RowKit
theorem walk (l : List Int) (dl : Dig 256 l) (w : World) (v0 : Value) (hvv0 : VR w β0 b0 (Wd .u8 l) v0) :
    Calls Tryz.prog 7 #[v0] w fun e w'=>e = .returned (.bool true) ∧ Below w.heap.size w w':=by
  have h:=fnHits_fc l dl w β0 b0 0 [v0] (fun id l h=>by simp [β0] at h) (fun i j l l' h=>by simp [β0] at h) ⟨v0,_,rfl,hvv0,rfl⟩
  refine h.mono ?_
  rintro e w' ⟨u,rfl,hu,hb⟩
  have : u = .bool true:=hu b0
  subst this
  exact ⟨rfl,hb⟩
theorem own : ownKnob Tryz.prog.godebug = none:=by kernel_rfl
theorem laidOut : laidOutB Tryz.prog = true:=by kernel_rfl
set_option maxRecDepth 100000 in
theorem lifted (os : Os) (started : os.Started) (H : Type) (enc : TypeId × Value → H) :
    ReturnsInHanded {} Tryz.checked os 7 .any (Rows.fnHitsSpec.pre6 enc Tryz.prog Tryz.f7 Rows.fnHitsRow.domain false) (Rows.fnHitsSpec.post enc Tryz.prog Tryz.f7 false true false false):=by
  refine returnsInHanded_of_change_sized (C:=Tryz.checked) own started (by kernel_rfl) Tryz.func7
    (ChangeSpec.witness6 (enc:=enc) (C:=Tryz.checked) false ⟨#[],#[.slice none 0 0],[]⟩ 8 (by kernel_rfl) (by kernel_rfl) (by kernel_rfl) (by kernel_rfl)) ?_
  intro W base args ds gs before hval0 hW hcnd hsz0 _
  have hval : ∀ (j : Nat) t v,Tryz.f7.params[j]? = some t → args[j]? = some v → Value.okWide Tryz.prog W .any base t v:=hval0
  have hW':=hW
  obtain ⟨p,q,hA0,hV,rfl,hfz,hnd⟩:=hW
  have hA : DataW.TrodAll enc Tryz.prog W 0 (fun _=>true) true Tryz.f7.params.toList args.toList ds p:=hA0
  rw [Tryz.params7] at hA hval
  obtain ⟨v0,vs0,d0,ds0,p0,q0,hargs0,rfl,rfl,h0,r0⟩:=trodAll_cons hA
  obtain ⟨rfl,rfl,rfl⟩:=trodAll_nil r0
  obtain rfl : args = #[v0]:=by cases args; simp_all
  obtain ⟨rfl,rfl⟩:=trodVars_none hV
  obtain ⟨a0,len0,cap0,rfl⟩:=okWide_slice Tryz.underlying22 (hval 0 22 v0 rfl rfl)
  have k0:=h0
  have lt0 : ∀ x ∈ p0,x.block < W.heap.size:=by obtain ⟨m,hm⟩:=k0; exact DataW.trod_lt m _ _ _ hm
  obtain ⟨fuel0,hf0⟩:=h0
  obtain ⟨l,dl,hl,w0,hv0,hvv0⟩:=open_bytes hf0
  have hs0 : w0 = .slice a0 len0 cap0:=by simpa [Value.cells] using hv0.symm
  subst hs0
  clear hA0 hval0 hsz0
  refine (walk l dl W _ hvv0).mono fun e W' ⟨he,bel⟩=>?_
  subst he
  exact ⟨_,rfl,_,_,_,[],_,[],hW',trodAll_mk1 (shut_bool Tryz.underlying4 _),(trodAll_cons_mk (Below.trod laidOut (by kernel_rfl) (of_decide_eq_true (by kernel_rfl)) k0 bel lt0) trodAll_mk0),rfl,bel.frame _,fun h=>by cases h⟩
theorem grp : (Tryz.pinned.checked.prog.mayEnter && (Rows.fnHitsRow.lifted == Tryz.pinned.checked.prog.liftsFinal) && (Tryz.pinned.checked.prog.make == some Rows.fnHitsRow.make)) = true:=by kernel_rfl
theorem closed : joinedFacts Tryz.pinned.checked.prog 7 Tryz.f7 Rows.fnHitsSpec Rows.fnHitsRow = true:=by
  have h:=grp
  simp only [Bool.and_eq_true] at h
  obtain ⟨⟨h1,h2⟩,h3⟩:=h
  unfold joinedFacts
  rw [h1,h2,h3]
  clear h1 h2 h3
  refine Eq.trans (b:=true) ?_ rfl
  kernel_rfl
theorem over : Rows.fnHitsRow.holds Tryz.pinned (OpenSpec.ofChange Rows.fnHitsSpec) :=
  OpenClaim.holds_of_wide 7 Tryz.f7 rfl rfl rfl rfl rfl rfl rfl ⟨rfl,rfl,rfl,rfl,rfl⟩ rfl rfl rfl rfl rfl (by kernel_rfl) Tryz.func7 closed
    (of_decide_eq_true (by kernel_rfl)) (by unfold Func.isWrapper; first | (rw [if_pos (by decide +kernel)]; kernel_rfl) | (rw [if_neg (by decide +kernel)]; exact ⟨rfl,rfl⟩))
    (fun os started H enc _=>lifted os started H enc)
end fnHits
/-- The statement. -/
theorem fnHits_holds : Rows.FnHitsSaid:=fnHits.over



end Go.Proofs.YtaibemhdfhchfaaGreat
