/- Values that are built; new blocks. -/
import Derived.Test.YtjbbbkfdcegfmaaGreatG04

namespace Go.Proofs.YtjbbbkfdcegfmaaGreat
open Go Go.RowKit

/-- Have all fields of a struct a size? -/
def fldsOk (P : Program) (t : TypeId) : Bool:=match P.underlying t with
  | some (.struct fs)=>fs.all fun f=>(szOf P f.type).isSome
  | _=>false

/-- The cells of a type's zero value. -/
def zOf (P : Program) (t : TypeId) : Option (List AV):=((P.info? t).bind (·.zero)).map fun z=>z.cells.toList.map cv

theorem cvs_ok {w : World} {β : Nat → Option Loc} {b : Nat → Bool} : ∀ (l : List Value),VRL w β b (l.map cv) l
  | []=>rfl
  | v :: r=>⟨v,r,rfl,cv_ok v,cvs_ok r⟩

theorem zOf_ok {P : Program} {w : World} {β : Nat → Option Loc} {b : Nat → Bool} {t : TypeId} {zs : List AV} (h : zOf P t = some zs) : ∃ z,(zeroValue t).run P w = .ok z w ∧ VRL w β b zs z.cells.toList ∧ ∃ i,P.info? t = some i ∧ i.zero = some z:=by
  unfold zOf at h
  obtain ⟨z,hz,rfl⟩:=Option.map_eq_some_iff.mp h
  obtain ⟨i,hi,hz'⟩:=Option.bind_eq_some_iff.mp hz
  refine ⟨z,?_,cvs_ok _,i,hi,hz'⟩
  simp [zeroValue,typeInfo,hi,hz']

theorem mapM_run {P : Program} {w : World} {α γ : Type} {f : α → Sem γ} {g : α → γ} : ∀ (l : List α),(∀ x ∈ l,(f x).run P w = .ok (g x) w) → (l.mapM f).run P w = .ok (l.map g) w
  | [],_=>by simp
  | x :: r,h=>by
    simp only [List.mapM_cons,Sem.run_bind,h x (by simp),Result.andThen_ok,mapM_run r (fun y hy=>h y (by simp [hy])),Sem.run_pure,List.map_cons]

theorem amapM_run {P : Program} {w : World} {α γ : Type} {f : α → Sem γ} {g : α → γ} (l : Array α) (h : ∀ x ∈ l,(f x).run P w = .ok (g x) w) : (l.mapM f).run P w = .ok (l.map g) w:=by
  obtain ⟨l⟩:=l
  rw [List.mapM_toArray,Sem.run_map,mapM_run l (fun x hx=>h x (by simpa using hx))]
  simp

def evs (e : Nat → AV) (ps : List (Nat × Operand)) : List (Nat × AV):=ps.map fun p=>(p.1,ev e p.2)

/-- The size of an array's elements. -/
def arOf (P : Program) (t : TypeId) : Option Nat:=match P.underlying t with
  | some (.array _ e)=>szOf P e
  | _=>none
/-- A struct or an array that is built. -/
def aBuild (P : Program) (t : TypeId) (ps : List (Nat × AV)) : Option AV :=
  if fldsOk P t = true then (match zOf P t with
    | some zs=>(aFill (fun i=>(fldOf P t i).map fun r=>(r.1,r.2.1)) zs ps).map .agg
    | none=>none) else match arOf P t with
  | some n=>(match zOf P t with
    | some zs=>(aFill (fun i=>some (i * n,n)) zs ps).map .agg
    | none=>none)
  | none=>none

theorem aBuild_ok {P : Program} {w : World} {β : Nat → Option Loc} {b : Nat → Bool} {t : TypeId} {ps : List (Nat × AV)} {qs : List (Nat × Value)} {r : AV} (h1 : qs.map (·.1) = ps.map (·.1)) (h2 : VRL w β b (ps.map (·.2)) (qs.map (·.2))) (h : aBuild P t ps = some r) :
    ∃ v,(Instr.build t qs.toArray).run P w = .ok v w ∧ VR w β b r v:=by
  unfold aBuild at h
  split at h
  · rename_i hf
    split at h
    · rename_i zs hz
      obtain ⟨cs,hcs,rfl⟩:=Option.map_eq_some_iff.mp h
      obtain ⟨z,hzr,hzv,_⟩:=zOf_ok (P:=P) (w:=w) (β:=β) (b:=b) hz
      unfold fldsOk at hf
      split at hf
      · rename_i fs hfs
        have hpl : ∀ i q,(fldOf P t i).map (fun r=>(r.1,r.2.1)) = some q → (fs.map fun f=>(f.offset,(szOf P f.type).getD 0))[i]? = some q:=by
          intro i q hq
          obtain ⟨⟨off,n,ty⟩,hr,rfl⟩:=Option.map_eq_some_iff.mp hq
          obtain ⟨fs',fd,e1,e2,e3,e4,e5⟩:=fldOf_under hr
          rw [hfs] at e1
          simp only [Option.some.injEq,TypeDesc.struct.injEq] at e1
          subst e1
          simp [e2,e3,e4,e5]
        obtain ⟨cs',e1,e2⟩:=aFill_ok hpl ps qs zs z.cells cs hzv h1 h2 hcs
        refine ⟨.agg cs',?_,_,rfl,e2⟩
        have hm:=amapM_run (P:=P) (w:=w) (f:=fun f : Field=>(do pure (f.offset,← sizeOf f.type) : Sem (Nat × Nat))) (g:=fun f=>(f.offset,(szOf P f.type).getD 0)) fs (fun f hf'=>by
          have:=(Array.all_eq_true_iff_forall_mem.1 hf) f hf'
          obtain ⟨n,hn⟩:=Option.isSome_iff_exists.mp this
          simp [run_szOf hn,hn])
        simp only [Instr.build,Sem.run_bind,hzr,Result.andThen_ok,run_underlying hfs,hm,e1,Sem.run_pure]
      · simp at hf
    · simp at h
  · split at h
    · rename_i n hn
      split at h
      · rename_i zs hz
        obtain ⟨cs,hcs,rfl⟩:=Option.map_eq_some_iff.mp h
        obtain ⟨z,hzr,hzv,_⟩:=zOf_ok (P:=P) (w:=w) (β:=β) (b:=b) hz
        unfold arOf at hn
        split at hn
        · rename_i m e hu
          obtain ⟨cs',e1,e2⟩:=aFill_ok (place:=fun i=>some (i * n,n)) (fun _ _ h=>h) ps qs zs z.cells cs hzv h1 h2 hcs
          refine ⟨.agg cs',?_,_,rfl,e2⟩
          simp only [Instr.build,Sem.run_bind,hzr,Result.andThen_ok,run_underlying hu,run_szOf hn,e1,Sem.run_pure]
        · simp at hn
      · simp at h
    · simp at h
end Go.Proofs.YtjbbbkfdcegfmaaGreat
