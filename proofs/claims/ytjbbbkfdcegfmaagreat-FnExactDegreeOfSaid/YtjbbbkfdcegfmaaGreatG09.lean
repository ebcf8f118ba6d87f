/- What an operation that makes a block does; stores; appends. -/
import Derived.Test.YtjbbbkfdcegfmaaGreatG08

namespace Go.Proofs.YtjbbbkfdcegfmaaGreat
open Go Go.RowKit

section
variable {P : Program} {w0 w : World} {β : Nat → Option Loc} {s : St} {a : Act} {b : Nat → Bool}

theorem shape_new (w : World) (c : Array Value) (e : TypeId) : (w.alloc (.cells c e)).shape? w.heap.size = some (e,c.size):=by
  unfold World.shape?; rw [heap_alloc_eq]

/-- What is wanted of a new block: the value that is yielded speaks of it. -/
theorem opNew_run {e : Nat → AV} (he : ∀ x,VR w β b (ev e x) (a.eval x)) {o : Oper} {id : Nat} {r : AV} {z : Nat} {es : List (List AV)} (h : opNew P e id o.op = some (r,z,es)) :
    ∃ v c elem vss,(execOp a.eval o).run P w = .ok (.value v) (w.alloc (.cells c elem)) ∧ VRLL w β b es vss ∧ LaidZ c z vss ∧
      ∀ (β' : Nat → Option Loc) (b' : Nat → Bool),β' id = some ⟨w.heap.size,0,z⟩ → b' id = true → VR (w.alloc (.cells c elem)) β' b' r v:=by
  have lift : ∀ (m : Sem Value) (v : Value) (w' : World),m.run P w = .ok v w' → (do pure (.value (← m)) : Sem Next).run P w = .ok (.value v) w':=fun m v w' hm=>by simp [hm]
  have hptr : ∀ (c : Array Value) (elem : TypeId) (z : Nat) (β' : Nat → Option Loc) (b' : Nat → Bool),β' id = some ⟨w.heap.size,0,z⟩ → b' id = true → VR (w.alloc (.cells c elem)) β' b' (.ptr id 0 0) (.pointer (some ⟨w.heap.size,0,none⟩)):=by
    intro c elem z β' b' h1 h2
    refine ⟨h2,⟨_,rfl⟩,fun l hl=>?_⟩
    rw [h1] at hl; simp only [Option.some.injEq] at hl; subst hl
    simp
  have one : ∀ (us : List Value),LaidZ us.toArray us.length [us]:=by
    intro us e vs he
    cases e with
    | zero=>simp only [List.getElem?_cons_zero,Option.some.injEq] at he; subst he; exact ⟨rfl,fun j u hu=>by simpa using hu⟩
    | succ e=>simp at he
  obtain ⟨dst,op,type,pos,after,guard⟩:=o
  simp only [] at h
  cases op <;> simp only [opNew,reduceCtorEq] at h
  case alloc t =>
    split at h
    · rename_i zs hz
      simp only [Option.some.injEq,Prod.mk.injEq] at h
      obtain ⟨rfl,rfl,rfl⟩:=h
      obtain ⟨zv,h1,h2,_⟩:=zOf_ok (P:=P) (w:=w) (β:=β) (b:=b) hz
      have hl:=VRL.length _ _ h2
      refine ⟨_,zv.cells,t,[zv.cells.toList],lift _ _ _ ?_,⟨_,[],rfl,h2,rfl⟩,by have:=one zv.cells.toList; rw [hl] at this; simpa using this,hptr _ _ _⟩
      simp only [Instr.alloc,Sem.run_bind,h1,Result.andThen_ok,newVar,newRow,run_newObj,Sem.run_pure,World.alloc_eq]
    · simp at h
  case box t x =>
    split at h
    · rename_i cs hcs
      simp only [Option.some.injEq,Prod.mk.injEq] at h
      obtain ⟨rfl,rfl,rfl⟩:=h
      have h2:=avCells_ok (he x) hcs
      have hl:=VRL.length _ _ h2
      refine ⟨_,(a.eval x).cells,t,[(a.eval x).cells.toList],lift _ _ _ ?_,⟨_,[],rfl,h2,rfl⟩,by have:=one (a.eval x).cells.toList; rw [hl] at this; simpa using this,hptr _ _ _⟩
      simp only [Instr.box,Sem.run_bind,Result.andThen_ok,newVar,newRow,run_newObj,Sem.run_pure,World.alloc_eq]
    · simp at h
  case buildSlice t len ps =>
    split at h
    · rename_i el hel
      split at h
      · rename_i n zs hn hz
        split at h
        · rename_i hc
          obtain ⟨c1,c2,c3⟩:=hc
          split at h
          · rename_i es' hes
            simp only [Option.some.injEq,Prod.mk.injEq] at h
            obtain ⟨rfl,rfl,rfl⟩:=h
            obtain ⟨zv,h1,h2,_⟩:=zOf_ok (P:=P) (w:=w) (β:=β) (b:=b) hz
            have hl:=VRL.length _ _ h2
            have hzs : ∀ c ∈ List.replicate len zs,c.length = n:=fun c hc=>by rw [(List.mem_replicate.mp hc).2]; exact c1
            obtain ⟨f1,f2,f3⟩:=aSets_fill _ _ _ hzs hes
            have hcells : ((Array.range (len * n)).map ((if len * n = 0 then #[] else zv.cells)[· % (if len * n = 0 then #[] else zv.cells).size]!)).toList = (List.replicate len zv.cells.toList).flatten:=by
              by_cases hl0 : len * n = 0
              · have : len = 0 := by rcases Nat.mul_eq_zero.mp hl0 with h' | h'; · exact h'
                                     · exact absurd h' c2
                subst this; simp
              · simp only [if_neg hl0]
                have hzl : zv.cells.toList.length = n:=by omega
                apply List.ext_getElem?
                intro k
                by_cases hk : k < len * n
                · have hq : k / n < len:=by rw [Nat.div_lt_iff_lt_mul (by omega)]; exact hk
                  have:=flat_get (z:=n) (List.replicate len zv.cells.toList) (fun c hc=>by rw [(List.mem_replicate.mp hc).2]; exact hzl) (k / n) zv.cells.toList (k % n) (by rw [List.getElem?_replicate,if_pos hq]) (Nat.mod_lt _ (by omega))
                  rw [Nat.div_add_mod'] at this
                  have r:=range_map_get zv.cells.toList (len * n) k (by omega) hk
                  simp only [Array.toArray_toList] at r
                  rw [this,Array.getElem?_toList,r,hzl]
                · rw [List.getElem?_eq_none (by simp; omega),List.getElem?_eq_none]
                  rw [flat_len (z:=n) _ (fun c hc=>by rw [(List.mem_replicate.mp hc).2]; exact hzl)]
                  simp; omega
            obtain ⟨cs',g1,g2⟩:=aFill_ok (w:=w) (β:=β) (b:=b) (pl:=fun i=>some (i * n,n)) (place:=fun i=>some (i * n,n)) (fun _ _ h=>h) (evs e ps.toList) (ps.toList.map fun p=>(p.1,a.eval p.2)) (List.replicate len zs).flatten
              ((Array.range (len * n)).map ((if len * n = 0 then #[] else zv.cells)[· % (if len * n = 0 then #[] else zv.cells).size]!)) es'.flatten
              (by rw [hcells]; exact VRL.flat _ _ (VRLL.replicate h2 len)) (by simp [evs]) (by
                have : ∀ l : List (Nat × Operand),VRL w β b ((evs e l).map (·.2)) ((l.map fun p=>(p.1,a.eval p.2)).map (·.2)):=by
                  intro l
                  induction l with
                  | nil=>rfl
                  | cons p l ih=>exact ⟨_,_,rfl,he p.2,ih⟩
                exact this _) f1
            obtain ⟨vss,k1,k2,k3⟩:=unflat _ _ g2
            have hlz:=VRLL.lens _ _ k1 f2
            refine ⟨.slice (some ⟨w.heap.size,0,none⟩) len len,cs',el,vss,lift _ _ _ ?_,k1,laid_of_flat hlz (by rw [k2,List.take_length]),?_⟩
            · have e1 : (ps.map fun (i,x)=>(i,a.eval x)).toList = ps.toList.map fun p=>(p.1,a.eval p.2):=by simp
              simp only [Instr.buildSlice,Sem.run_bind,run_underlying (elOf_under hel),Result.andThen_ok,run_szOf hn]
              rw [if_neg (by omega)]
              by_cases hl0 : len * n = 0
              · simp only [if_pos hl0] at g1 ⊢
                simp only [Sem.run_bind,Sem.run_pure,Result.andThen_ok,e1,g1,newRow,run_newObj,World.alloc_eq]
              · simp only [if_neg hl0] at g1 ⊢
                simp only [Sem.run_bind,Sem.run_pure,h1,Result.andThen_ok,e1,g1,newRow,run_newObj,World.alloc_eq]
            · intro β' b' q1 q2
              refine ⟨q2,⟨_,_,_,rfl⟩,fun l hl'=>?_⟩
              rw [q1] at hl'; simp only [Option.some.injEq] at hl'; subst hl'
              refine ⟨_,len,rfl,Nat.le_refl _,?_⟩
              by_cases hl0 : len = 0
              · exact .inl hl0
              · refine .inr ⟨by simp,el,cs'.size,shape_new w cs' el,?_⟩
                have hs' : cs'.size = es'.length * n:=by
                  rw [← Array.length_toList,← k2]
                  have:=VRL.length _ _ (VRL.flat _ _ k1)
                  rw [this,flat_len es' f2]
                rw [hs',f3,List.length_replicate]; simp
          · simp at h
        · simp at h
      · simp at h
    · simp at h
  case makeSlice t l c =>
    split at h
    · rename_i el k1 l' k2 c' hel hl hc
      split at h
      · rename_i n y zs hn hy hz
        obtain ⟨i,hi,rfl,rfl⟩:=info_of hn hy
        split at h
        · rename_i hcond
          obtain ⟨q1,q2,q3,q4,q5⟩:=hcond
          simp only [Option.some.injEq,Prod.mk.injEq] at h
          obtain ⟨rfl,rfl,rfl⟩:=h
          obtain ⟨zv,h1,h2,i',hi',hz'⟩:=zOf_ok (P:=P) (w:=w) (β:=β) (b:=b) hz
          rw [hi] at hi'; simp only [Option.some.injEq] at hi'; subst hi'
          have hl1:=VRL.length _ _ h2
          have hel':=he l; rw [hl] at hel'
          have hec':=he c; rw [hc] at hec'
          have hel'' : a.eval l = .int k1 l':=hel'
          have hec'' : a.eval c = .int k2 c':=hec'
          have hr:=run_make (P:=P) w t el i zv (elOf_under hel) hi hz' k1 k2 l' c' q2 q3 q4 q5
          refine ⟨.slice (some ⟨w.heap.size,0,none⟩) l'.toNat c'.toNat,madeCells zv.cells (c'.toNat * i.size),el,List.replicate l'.toNat zv.cells.toList,lift _ _ _ ?_,VRLL.replicate h2 _,?_,?_⟩
          · rw [hel'',hec'']; exact hr
          · by_cases hz0 : zv.cells.toList.length = 0
            · intro e vs hev
              rw [List.getElem?_replicate] at hev
              split at hev
              · simp only [Option.some.injEq] at hev; subst hev
                refine ⟨by omega,fun j u hu=>?_⟩
                rw [List.getElem?_eq_none (by omega)] at hu; simp at hu
              · simp at hev
            · have:=made_laid zv.cells.toList l'.toNat c'.toNat hz0 (by omega)
              simp only [Array.toArray_toList] at this
              rw [show zv.cells.toList.length = i.size by omega] at this
              exact this
          · intro β' b' q6 q7
            refine ⟨q7,⟨_,_,_,rfl⟩,fun l2 hl'=>?_⟩
            rw [q6] at hl'; simp only [Option.some.injEq] at hl'; subst hl'
            refine ⟨_,c'.toNat,rfl,by omega,.inr ⟨by simp,el,_,shape_new w _ el,?_⟩⟩
            rw [size_madeCells]; simp
        · simp at h
      · simp at h
    · simp at h
end
end Go.Proofs.YtjbbbkfdcegfmaaGreat
