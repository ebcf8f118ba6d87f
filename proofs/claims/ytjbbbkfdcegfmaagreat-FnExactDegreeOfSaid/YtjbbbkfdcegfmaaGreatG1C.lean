/- Walks: FnExactDegreeOf: the statement. -/
import Derived.Test.YtjbbbkfdcegfmaaGreatG1B
import Derived.Test.YtjbbbkfdcegfmaaGreatRows
import Derived.WalkKit
import Derived.ProofKit
import Derived.OpenShut
import Derived.ShutString
import Derived.ChangeOld
import Derived.Below
import Derived.SizedLaws
import Derived.Carry

namespace Go.Proofs.YtjbbbkfdcegfmaaGreat
open Go Go.RowKit
set_option linter.unusedSimpArgs false
set_option linter.unusedVariables false
set_option maxRecDepth 100000


open Go.Proofs.YtjbbbkfdcegfmaaGreat

section
variable {H : Type} {enc : TypeId × Value → H} {w : World} {base : Nat} {sp : Nat → Bool} {held : Bool}
theorem open_i64 {fuel : Nat} {cs : List Value} {x : DataW H × List MemPlace} (h : DataW.trod enc Tryz.prog w base sp held fuel 2 cs = some x) : ∃ n,cs = [.int .i64 n] ∧ I64 n:=by
  obtain ⟨n,h1,_,h3⟩:=DataW.trod_int Tryz.underlying2 h
  refine ⟨n,h1,?_⟩
  unfold I64
  simp [Lit.wf,IntKind.min,IntKind.max,IntKind.signed,IntKind.bits] at h3
  omega
theorem open_sp {fuel : Nat} {cs : List Value} {x : DataW H × List MemPlace} (h : DataW.trod enc Tryz.prog w base sp held fuel 87 cs = some x) : ∃ p : Sp,p.ok ∧ cs = [.int .i64 p.x,.int .i64 p.y]:=by
  obtain ⟨xs,n,_,rfl,hl,hlen,hf⟩:=DataW.trod_struct Tryz.underlying87 h
  have hl2 : cs.length = 2:=hl.trans (by kernel_rfl)
  have h1 : Tryz.prog.cellsOf 2 = 1:=by kernel_rfl
  match cs,hl2,xs,hlen with
  | [c0,c1],_,[y0,y1],_ =>
    have f0 : DataW.trod enc Tryz.prog w base sp held n 2 [c0] = some y0:=by have h:=hf 0 _ rfl; simpa [h1] using h
    have f1 : DataW.trod enc Tryz.prog w base sp held n 2 [c1] = some y1:=by have h:=hf 1 _ rfl; simpa [h1] using h
    obtain ⟨n0,e0,k0⟩:=open_i64 f0
    obtain ⟨n1,e1,k1⟩:=open_i64 f1
    simp only [List.cons.injEq,and_true] at e0 e1
    subst e0 e1
    exact ⟨⟨n0,n1⟩,⟨k0,k1⟩,rfl⟩
theorem open_sg {fuel : Nat} {cs : List Value} {x : DataW H × List MemPlace} (h : DataW.trod enc Tryz.prog w base sp held fuel 89 cs = some x) : ∃ s : Sg,s.ok ∧ VRL w β0 b0 s.cells cs:=by
  obtain ⟨xs,n,_,rfl,hl,hlen,hf⟩:=DataW.trod_struct Tryz.underlying89 h
  have hl4 : cs.length = 4:=hl.trans (by kernel_rfl)
  have h1 : Tryz.prog.cellsOf 87 = 2:=by kernel_rfl
  match cs,hl4,xs,hlen with
  | [c0,c1,c2,c3],_,[y0,y1],_ =>
    have f0 : DataW.trod enc Tryz.prog w base sp held n 87 [c0,c1] = some y0:=by have h:=hf 0 _ rfl; simpa [h1] using h
    have f1 : DataW.trod enc Tryz.prog w base sp held n 87 [c2,c3] = some y1:=by have h:=hf 1 _ rfl; simpa [h1] using h
    obtain ⟨p0,k0,e0⟩:=open_sp f0
    obtain ⟨p1,k1,e1⟩:=open_sp f1
    simp only [List.cons.injEq,and_true] at e0 e1
    obtain ⟨rfl,rfl⟩:=e0
    obtain ⟨rfl,rfl⟩:=e1
    refine ⟨⟨p0,p1⟩,⟨k0,k1⟩,?_⟩
    exact ⟨_,_,rfl,rfl,_,_,rfl,rfl,_,_,rfl,rfl,_,_,rfl,rfl,rfl⟩
end

section
variable {H : Type} {enc : TypeId × Value → H} {w : World} {base : Nat} {sp : Nat → Bool} {held : Bool}
theorem open_segs {fuel : Nat} {cs : List Value} {x : DataW H × List MemPlace} (h : DataW.trod enc Tryz.prog w base sp held fuel 22 cs = some x) : ∃ L : List Sg,(∀ s ∈ L,s.ok) ∧ L.length ≤ maxLen ∧ ∃ v,cs = [v] ∧ VR w β0 b0 (.isl (L.map Sg.cells)) v :=
  open_rows (z:=4) Tryz.underlying22 (by kernel_rfl) (by omega) _ Sg.cells (fun _ _ _ h=>open_sg h) h
end

namespace fnExactDegreeOf
open Go.ChangeShapes Go.WideShapes Go.ChangeAt Go.RowKit
theorem walk (L : List Sg) (i : Int) (hL : L.length ≤ maxLen) (w : World) (v0 : Value) (hvv0 : VR w β0 b0 (.isl (L.map Sg.cells)) v0) (v1 : Value) (hvv1 : VR w β0 b0 (.int .i64 i) v1) :
    Calls Tryz.prog 4 #[v0,v1] w fun e w'=>e = .returned (.bool true) ∧ RowKit.Below w.heap.size w w':=by
  have h:=fnExactDegreeOf_fc L i hL w β0 b0 0 [v0,v1] (fun id l h=>by simp [β0] at h) (fun i j l l' h=>by simp [β0] at h) ⟨v0,_,rfl,hvv0,⟨v1,_,rfl,hvv1,rfl⟩⟩
  refine h.mono ?_
  rintro e w' ⟨u,rfl,hu,hb⟩
  have : u = .bool true:=hu b0
  subst this
  exact ⟨rfl,hb.1⟩
theorem own : ownKnob Tryz.prog.godebug = none:=by kernel_rfl
theorem laidOut : laidOutB Tryz.prog = true:=by kernel_rfl
set_option maxRecDepth 100000 in
theorem lifted (os : Os) (started : os.Started) (H : Type) (enc : TypeId × Value → H) :
    ReturnsInHanded {} Tryz.checked os 4 .any (Rows.fnExactDegreeOfSpec.pre6 enc Tryz.prog Tryz.f4 Rows.fnExactDegreeOfRow.domain false) (Rows.fnExactDegreeOfSpec.post enc Tryz.prog Tryz.f4 false true false false):=by
  refine returnsInHanded_of_change_sized (C:=Tryz.checked) own started (by kernel_rfl) Tryz.func4
    (ChangeSpec.witness6 (enc:=enc) (C:=Tryz.checked) false ⟨#[],#[.slice none 0 0,.int .i64 0],[]⟩ 8 (by kernel_rfl) (by kernel_rfl) (by kernel_rfl) (by kernel_rfl)) ?_
  intro W base args ds gs before hval0 hW hcnd hsz0 _
  have hval : ∀ (j : Nat) t v,Tryz.f4.params[j]? = some t → args[j]? = some v → Value.okWide Tryz.prog W .any base t v:=hval0
  have hW':=hW
  obtain ⟨p,q,hA0,hV,rfl,hfz,hnd⟩:=hW
  have hA : DataW.TrodAll enc Tryz.prog W 0 (fun _=>true) true Tryz.f4.params.toList args.toList ds p:=hA0
  rw [Tryz.params4] at hA hval
  obtain ⟨v0,vs0,d0,ds0,p0,q0,hargs0,rfl,rfl,h0,r0⟩:=trodAll_cons hA
  obtain ⟨v1,vs1,d1,ds1,p1,q1,hargs1,rfl,rfl,h1,r1⟩:=trodAll_cons r0
  obtain ⟨rfl,rfl,rfl⟩:=trodAll_nil r1
  subst hargs1
  obtain rfl : args = #[v0,v1]:=by cases args; simp_all
  obtain ⟨rfl,rfl⟩:=trodVars_none hV
  obtain ⟨a0,len0,cap0,rfl⟩:=okWide_slice Tryz.underlying22 (hval 0 22 v0 rfl rfl)
  obtain ⟨n1,rfl⟩:=okWide_int Tryz.underlying2 (hval 1 2 v1 rfl rfl)
  have k0:=h0
  have lt0 : ∀ x ∈ p0,x.block < W.heap.size:=by obtain ⟨m,hm⟩:=k0; exact DataW.trod_lt m _ _ _ hm
  obtain ⟨fuel0,hf0⟩:=h0
  have k1:=h1
  have lt1 : ∀ x ∈ p1,x.block < W.heap.size:=by obtain ⟨m,hm⟩:=k1; exact DataW.trod_lt m _ _ _ hm
  obtain ⟨fuel1,hf1⟩:=h1
  obtain ⟨L,hqL,hL,w0,hv0,hvv0⟩:=open_segs hf0
  have hs0 : w0 = .slice a0 len0 cap0:=by simpa [Value.cells] using hv0.symm
  subst hs0
  obtain ⟨i,he1,hi⟩:=open_i64 hf1
  have hvv1 : VR W β0 b0 (.int .i64 i) (.int .i64 n1):=by
    have h:=he1
    simp [Value.cells] at h
    subst h; rfl
  clear hA0 hval0 hsz0
  refine (walk L i hL W _ hvv0 _ hvv1).mono fun e W' ⟨he,bel⟩=>?_
  subst he
  exact ⟨_,rfl,_,_,_,[],_,[],hW',trodAll_mk1 (shut_bool Tryz.underlying4 _),(trodAll_cons_mk (Below.trod laidOut (by kernel_rfl) (of_decide_eq_true (by kernel_rfl)) k0 bel lt0) (trodAll_cons_mk (Below.trod laidOut (by kernel_rfl) (of_decide_eq_true (by kernel_rfl)) k1 bel lt1) trodAll_mk0)),rfl,bel.frame _,fun h=>by cases h⟩
theorem grp : (Tryz.pinned.checked.prog.mayEnter && (Rows.fnExactDegreeOfRow.lifted == Tryz.pinned.checked.prog.liftsFinal) && (Tryz.pinned.checked.prog.make == some Rows.fnExactDegreeOfRow.make)) = true:=by kernel_rfl
theorem closed : joinedFacts Tryz.pinned.checked.prog 4 Tryz.f4 Rows.fnExactDegreeOfSpec Rows.fnExactDegreeOfRow = true:=by
  have h:=grp
  simp only [Bool.and_eq_true] at h
  obtain ⟨⟨h1,h2⟩,h3⟩:=h
  unfold joinedFacts
  rw [h1,h2,h3]
  clear h1 h2 h3
  refine Eq.trans (b:=true) ?_ rfl
  kernel_rfl
theorem over : Rows.fnExactDegreeOfRow.holds Tryz.pinned (OpenSpec.ofChange Rows.fnExactDegreeOfSpec) :=
  OpenClaim.holds_of_wide 4 Tryz.f4 rfl rfl rfl rfl rfl rfl rfl ⟨rfl,rfl,rfl,rfl,rfl⟩ rfl rfl rfl rfl rfl (by kernel_rfl) Tryz.func4 closed
    (of_decide_eq_true (by kernel_rfl)) (by unfold Func.isWrapper; first | (rw [if_pos (by decide +kernel)]; kernel_rfl) | (rw [if_neg (by decide +kernel)]; exact ⟨rfl,rfl⟩))
    (fun os started H enc _=>lifted os started H enc)
end fnExactDegreeOf
/-- The statement. -/
theorem fnExactDegreeOf_holds : Rows.FnExactDegreeOfSaid:=fnExactDegreeOf.over



end Go.Proofs.YtjbbbkfdcegfmaaGreat
