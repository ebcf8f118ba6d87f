/- Code that makes, asks and changes maps: its rules. -/
import Derived.Test.YtjbbbkfdcegfmaaGreatG0Y

namespace Go.Proofs.YtjbbbkfdcegfmaaGreat
open Go Go.RowKit

def MonSW (w0 w : World) (β : Nat → Option Loc) (s : St) (w' : World) (β' : Nat → Option Loc) (s' : St) : Prop :=
  MonW w β (bornB s.nx) w' β' (bornB s'.nx) ∧ KeepF w0 β β'
theorem MonS.weak {w0 w w' : World} {β β' : Nat → Option Loc} {s s' : St} (h : MonS w0 w β s w' β' s') : MonSW w0 w β s w' β' s':=⟨h.1.weak,h.2⟩
theorem MonSW.refl (w0 w : World) (β : Nat → Option Loc) (s : St) : MonSW w0 w β s w β s:=(MonS.refl _ _ _ _).weak
theorem MonSW.trans {w0 w w1 w2 : World} {β β1 β2 : Nat → Option Loc} {s s1 s2 : St} (h : MonSW w0 w β s w1 β1 s1) (k : MonSW w0 w1 β1 s1 w2 β2 s2) : MonSW w0 w β s w2 β2 s2:=⟨h.1.trans k.1,h.2.trans k.2⟩

section
variable {α : Type} (ok : α → Prop) (kv : α → AV)
/-- Code from a state and maps. -/
def MWP (P : Program) (c : Code) (K : Exit → St → MS α → Prop) (s : St) (M : MS α) : Prop :=
  ∀ (w0 w : World) (β : Nat → Option Loc) (a : Act) (Q : Exit → Act → World → Prop),SR w0 w β s a → MR ok kv w0 w β M →
    (∀ e w' β' a' s' M',K e s' M' → SR w0 w' β' s' a' → MR ok kv w0 w' β' M' → MonSW w0 w β s w' β' s' → Q e a' w') → c.wp P Q a w
def MOPS (P : Program) (ops : Array Oper) (l : List Oper) (K : St → MS α → Prop) (s : St) (M : MS α) : Prop :=
  ∀ (w0 w : World) (β : Nat → Option Loc) (a : Act) (Q : Exit → Act → World → Prop),SR w0 w β s a → MR ok kv w0 w β M →
    (∀ w' β' a' s' M',K s' M' → SR w0 w' β' s' a' → MR ok kv w0 w' β' M' → MonSW w0 w β s w' β' s' → Q .normal a' w') → wpList P ops Q l a w
/-- A call from a state of one's own blocks and maps. -/
def MCall (P : Program) (f : FuncId) (args : List AV) (H : Heap) (nx : Nat) (M : MS α) (Q : AV → Heap → Nat → MS α → Prop) : Prop :=
  ∀ (w0 w : World) (β : Nat → Option Loc) (vs : List Value),HR w0 w β (bornB nx) H → MR ok kv w0 w β M → VRL w β (bornB nx) args vs →
    Calls P f vs.toArray w fun e w'=>∃ v r H' nx' M' β',e = .returned v ∧ Q r H' nx' M' ∧ HR w0 w' β' (bornB nx') H' ∧ MR ok kv w0 w' β' M' ∧ VR w' β' (bornB nx') r v ∧ MonW w β (bornB nx) w' β' (bornB nx') ∧ KeepF w0 β β'
end

def MSeq {α : Type} (K : St → MS α → Prop) (E : Exit → St → MS α → Prop) : Exit → St → MS α → Prop
  | .normal,s,M=>K s M
  | e,s,M=>E e s M
def MBlk {α : Type} (id : Nat) (E : Exit → St → MS α → Prop) : Exit → St → MS α → Prop
  | .exit i,s,M=>if i = id then E .normal s M else E (.exit i) s M
  | e,s,M=>E e s M

section
variable {α : Type} {ok : α → Prop} {kv : α → AV} {P : Program} {K : Exit → St → MS α → Prop} {s : St} {M : MS α}

theorem MWP.up {c : Code} (h : AWP P c (fun e s'=>K e s' M) s) : MWP ok kv P c K s M :=
  fun w0 w β a Q hs hM hq=>h w0 w β a Q hs fun e w' β' a' s' k hs' hm=>hq e w' β' a' s' M k hs' (hM.keep hm.1) hm.weak
theorem MWP.skip (h : K .normal s M) : MWP ok kv P .skip K s M:=fun _ _ _ _ _ hs hM hq=>wp_skip (hq _ _ _ _ _ _ h hs hM (MonSW.refl _ _ _ _))
theorem MWP.exit {id : Nat} (h : K (.exit id) s M) : MWP ok kv P (.exit id) K s M:=fun _ _ _ _ _ hs hM hq=>wp_exit (hq _ _ _ _ _ _ h hs hM (MonSW.refl _ _ _ _))
theorem MWP.ret (h : K .ret s M) : MWP ok kv P .ret K s M:=fun _ _ _ _ _ hs hM hq=>wp_ret (hq _ _ _ _ _ _ h hs hM (MonSW.refl _ _ _ _))
theorem MWP.seq {x y : Code} (h : MWP ok kv P x (MSeq (MWP ok kv P y K) K) s M) : MWP ok kv P (.seq x y) K s M:=by
  intro w0 w β a Q hs hM hq
  refine wp_seq (h w0 w β a _ hs hM ?_)
  intro e w' β' a' s' M' k hs' hM' hm
  cases e with
  | normal=>exact k w0 w' β' a' Q hs' hM' fun e2 w2 β2 a2 s2 M2 k2 hs2 hM2 hm2=>hq e2 w2 β2 a2 s2 M2 k2 hs2 hM2 (hm.trans hm2)
  | exit i=>exact hq _ _ _ _ _ _ k hs' hM' hm
  | goto l=>exact hq _ _ _ _ _ _ k hs' hM' hm
  | ret=>exact hq _ _ _ _ _ _ k hs' hM' hm
  | panic ch=>exact hq _ _ _ _ _ _ k hs' hM' hm
  | outgrown=>exact hq _ _ _ _ _ _ k hs' hM' hm
theorem MWP.sq {x y : Code} (h : ∀ K' : St → MS α → Prop,(∀ s' M',MWP ok kv P y K s' M' → K' s' M') → MWP ok kv P x (MSeq K' K) s M) : MWP ok kv P (.seq x y) K s M :=
  MWP.seq (h _ fun _ _ h=>h)
theorem MWP.block {id : Nat} {c : Code} (h : MWP ok kv P c (MBlk id K) s M) : MWP ok kv P (.block id c) K s M:=by
  intro w0 w β a Q hs hM hq
  refine wp_block (h w0 w β a _ hs hM ?_)
  intro e w' β' a' s' M' k hs' hM' hm
  cases e with
  | normal=>exact hq _ _ _ _ _ _ k hs' hM' hm
  | exit i =>
    simp only [MBlk] at k
    simp only [Exit.inBlock]
    split <;> rename_i h <;> simp only [h,if_true,if_false] at k <;> exact hq _ _ _ _ _ _ k hs' hM' hm
  | goto l=>exact hq _ _ _ _ _ _ k hs' hM' hm
  | ret=>exact hq _ _ _ _ _ _ k hs' hM' hm
  | panic ch=>exact hq _ _ _ _ _ _ k hs' hM' hm
  | outgrown=>exact hq _ _ _ _ _ _ k hs' hM' hm
theorem MWP.loop {c : Code} (I : Nat → St → MS α → Prop) (n0 : Nat) (h0 : I n0 s M) (round : ∀ n s' M',I n s' M' → MWP ok kv P c (MSeq (fun s'' M''=>∃ m,m < n ∧ I m s'' M'') K) s' M') : MWP ok kv P (.loop c) K s M:=by
  intro w0 w β a Q hs hM hq
  refine wp_loop_ghost (fun n a' w'=>∃ β' s' M',I n s' M' ∧ SR w0 w' β' s' a' ∧ MR ok kv w0 w' β' M' ∧ MonSW w0 w β s w' β' s') n0 ⟨β,s,M,h0,hs,hM,MonSW.refl _ _ _ _⟩ ?_
  rintro n a1 w1 ⟨β1,s1,M1,hI,hs1,hM1,hm1⟩
  refine round n s1 M1 hI w0 w1 β1 a1 _ hs1 hM1 ?_
  intro e w' β' a' s' M' k hs' hM' hm
  cases e with
  | normal=>obtain ⟨m,hlt,hI'⟩:=k; exact ⟨m,hlt,β',s',M',hI',hs',hM',hm1.trans hm⟩
  | exit i=>exact hq _ _ _ _ _ _ k hs' hM' (hm1.trans hm)
  | goto l=>exact hq _ _ _ _ _ _ k hs' hM' (hm1.trans hm)
  | ret=>exact hq _ _ _ _ _ _ k hs' hM' (hm1.trans hm)
  | panic ch=>exact hq _ _ _ _ _ _ k hs' hM' (hm1.trans hm)
  | outgrown=>exact hq _ _ _ _ _ _ k hs' hM' (hm1.trans hm)
theorem MWP.c {t : Bool} {c : Operand} {x y : Code} (h1 : t = true → MWP ok kv P x K s M) (h2 : t = false → MWP ok kv P y K s M) (hc : ev s.env c = .bool t:=by simp (disch:=first|omega|(simp only[ln];omega)) <;> rfl) : MWP ok kv P (.cond c x y) K s M:=by
  intro w0 w β a Q hs hM hq
  have he:=ev_ok hs c
  rw [hc] at he
  have he : a.eval c = .bool t:=he
  cases t
  · exact wp_cond_false he (h2 rfl w0 w β a Q hs hM hq)
  · exact wp_cond_true he (h1 rfl w0 w β a Q hs hM hq)
theorem MWP.region {id : Nat} {l : List Oper} (h : MOPS ok kv P l.toArray l (fun s' M'=>K .normal s' M') s M) : MWP ok kv P (.region id l.toArray false) K s M:=by
  intro w0 w β a Q hs hM hq
  exact wp_region_lit (h w0 w β a Q hs hM fun w' β' a' s' M' k hs' hM' hm=>hq _ _ _ _ _ _ k hs' hM' hm)
/-- A block of one's own is given up. -/
theorem MWP.pre {c : Code} {s1 : St} (h : MWP ok kv P c K s1 M) (hp : ∀ (w0 w : World) (β : Nat → Option Loc) (a : Act),SR w0 w β s a → ∃ β',SR w0 w β' s1 a ∧ MonS w0 w β s w β' s1) : MWP ok kv P c K s M:=by
  intro w0 w β a Q hs hM hq
  obtain ⟨β',hs1,hm1⟩:=hp w0 w β a hs
  exact h w0 w β' a Q hs1 (hM.keep hm1.1) fun e w' β'' a' s' M' k hs' hM' hm=>hq e w' β'' a' s' M' k hs' hM' (hm1.weak.trans hm)
end

/-- What is asked of the end alone. -/
def nQ (R : Act → World → Prop) : Exit → Act → World → Prop
  | .normal,a,w=>R a w
  | _,_,_=>False
theorem wp_nQ {P : Program} {o : Oper} {a : Act} {w : World} {K K' R : Act → World → Prop} {Q : Exit → Act → World → Prop} (h : ∀ a w,K a w → K' a w) (hh : o.wp P a w K (nQ R)) : o.wp P a w K' Q:=by
  unfold Oper.wp at *
  generalize (execOp a.eval o).run P w = r at *
  cases r with
  | ok n w' =>
    cases n <;> simp only [Oper.upon] at hh ⊢ <;>
      first
        | exact h _ _ hh
        | exact Calls.mono hh (fun e w'' he=>by
            cases e
            · exact h _ _ he
            · exact False.elim he
            · obtain ⟨_,_,h'⟩:=he; exact False.elim h')
        | exact Rows.mono hh (fun _ _ he=>h _ _ he)
  | halt x w'=>cases x <;> simp only [Oper.upon] at hh ⊢ <;> exact False.elim hh
theorem wpList_app {P : Program} {ops : Array Oper} {Q : Exit → Act → World → Prop} {l2 : List Oper} : ∀ {l1 : List Oper} {a : Act} {w : World},wpList P ops (nQ (wpList P ops Q l2)) l1 a w → wpList P ops Q (l1 ++ l2) a w
  | [],_,_,h=>h
  | o :: l1,a,w,h=>by
    rw [List.cons_append]
    unfold wpList at h ⊢
    split at h <;> rename_i hw
    · rw [if_pos hw]
      rcases h with h | ⟨_,_,_,h2⟩
      · exact .inl (wp_nQ (fun a w h=>wpList_app h) h)
      · exact False.elim h2
    · rw [if_neg hw]; exact wpList_app h

section
variable {α : Type} {ok : α → Prop} {kv : α → AV} {P : Program} {ops : Array Oper} {K : St → MS α → Prop} {s : St} {M : MS α} {o : Oper} {l rest : List Oper}

theorem MOPS.nil (h : K s M) : MOPS ok kv P ops [] K s M:=fun _ _ _ _ _ hs hM hq=>hq _ _ _ _ _ h hs hM (MonSW.refl _ _ _ _)
/-- Operations that touch no map. -/
theorem MOPS.up {l1 l2 : List Oper} (h : AOPS P ops l1 (fun s'=>MOPS ok kv P ops l2 K s' M) s) : MOPS ok kv P ops (l1 ++ l2) K s M:=by
  intro w0 w β a Q hs hM hq
  refine wpList_app (h w0 w β a _ hs fun w' β' a' s' k hs' hm=>?_)
  exact k w0 w' β' a' Q hs' (hM.keep hm.1) fun w2 β2 a2 s2 M2 k2 hs2 hM2 hm2=>hq w2 β2 a2 s2 M2 k2 hs2 hM2 (hm.weak.trans hm2)
theorem MOPS.k (k : Nat) {l1 l2 : List Oper} (h : AOPS P ops l1 (fun s'=>MOPS ok kv P ops l2 K s' M) s) (h1 : l.take k = l1:=by simp only [List.take_succ_cons,List.take_zero]; rfl) (h2 : l.drop k = l2:=by simp only [List.drop_succ_cons,List.drop_zero]; rfl) : MOPS ok kv P ops l K s M:=by
  rw [← List.take_append_drop k l,h1,h2]; exact MOPS.up h

theorem SR.mapped {w0 w w' : World} {β : Nat → Option Loc} {a : Act} (hs : SR w0 w β s a) (hm : MonW w β (bornB s.nx) w' β (bornB s.nx)) (hb : Below w0.heap.size w0 w') (hk : ∀ id l,β id = some l → w'.heap[l.g]? = w.heap[l.g]?) : SR w0 w' β s a :=
  ⟨⟨hb,fun id z es he=>by
      obtain ⟨l,hl,hz,c,e,h1,vss,h2,h3⟩:=hs.hr.blk id z es he
      exact ⟨l,hl,hz,c,e,by rw [hk id l hl]; exact h1,vss,VRLL.monW hm _ _ h2,h3⟩,
    fun id l hl=>⟨(hs.hr.dom id l hl).1,Nat.lt_of_lt_of_le (hs.hr.dom id l hl).2.1 hm.size,(hs.hr.dom id l hl).2.2⟩,hs.hr.inj⟩,
   hs.defers,hs.size,fun t=>VR.monW hm _ _ (hs.env t)⟩

/-- A map's block is written. -/
def setMap (w : World) (g : Nat) (es : Array MapEntry) (c : Nat) : World:={ w with heap:=w.heap.setIfInBounds g (.map es c) }
theorem setMap_eq {w : World} {g : Nat} {es es' : Array MapEntry} {c c' : Nat} (h : w.heap[g]? = some (.map es c)) : (setMap w g es' c').heap[g]? = some (.map es' c'):=by
  have:=blk_lt h
  simp [setMap,this]
theorem setMap_ne {w : World} {g k : Nat} {es' : Array MapEntry} {c' : Nat} (h : k ≠ g) : (setMap w g es' c').heap[k]? = w.heap[k]?:=by
  simp [setMap,Array.getElem?_setIfInBounds_ne (Ne.symm h)]
theorem setMap_mon {w : World} {β : Nat → Option Loc} {b : Nat → Bool} {g : Nat} {es es' : Array MapEntry} {c c' : Nat} (h : w.heap[g]? = some (.map es c)) : MonW w β b (setMap w g es' c') β b :=
  ⟨by simp [setMap],fun k hk hn=>⟨by
      by_cases hkg : k = g
      · subst hkg; exact .inr ⟨_,_,_,_,h,setMap_eq h⟩
      · exact .inl (setMap_ne hkg),hn⟩,
   fun k e he=>by
      by_cases hkg : k = g
      · subst hkg; simp [World.shape?,h] at he
      · rw [shape_of_block (setMap_ne hkg)]; exact he,fun _ h=>h,fun _ _ _ h=>h⟩

/-- The zero value of a type of one cell. -/
def zv1 (P : Program) (t : TypeId) (z : AV) : Prop:=∀ w,∃ v,(zeroValue t).run P w = .ok v w ∧ PV z v

theorem zv1_of {t : TypeId} {z : Value} {x : AV} (h : (P.info? t).bind (·.zero) = some z) (hx : PV x z) : zv1 P t x:=by
  obtain ⟨i,hi,hz⟩:=Option.bind_eq_some_iff.mp h
  exact fun w=>⟨z,by simp [zeroValue,typeInfo,hi,hz],hx⟩

theorem MOPS.lookup {kt et mt : TypeId} {m k : Operand} {g : Nat} {f : α → Option AV} {a : α} {c : Bool} {z : AV} {t : Nat} (T : KeyT P kt ok kv) (ht : P.underlying mt = some (.map kt et)) (hz : zv1 P et z) (ho : o.op = .lookup mt m k c) (hm : ev s.env m = .raw (.map (some g))) (hk : ev s.env k = kv a) (hsc : scal (kv a) = true) (hok : ok a)
    (hg : agd ops s o = some true) (hd : o.dst = some t) (hdo : dstOk s o.dst = true) (hf : M g = some f) (h : MOPS ok kv P ops rest K { s with env:=upd s.env t (if c then .tup [(f a).getD z,.bool (f a).isSome] else (f a).getD z) } M) : MOPS ok kv P ops (o :: rest) K s M:=by
  intro w0 w β ac Q hs hM hq
  refine wpList_step fun K' hK=>?_
  rw [agd_ok hs hg,if_pos rfl]
  have h1:=ev_ok hs m
  rw [hm] at h1
  have h1 : ac.eval m = .map (some g):=h1.symm
  have h2:=ev_ok hs k
  rw [hk] at h2
  have h2':=scal_ok hsc h2
  obtain ⟨_,_,es,ck,hb,hE⟩:=hM g f hf
  obtain ⟨lx,hlx⟩:=T.key a _ hok h2'
  obtain ⟨zvv,hzv,hzp⟩:=hz w
  have fin : ∀ (y : AV) (v : Value) (found : Bool),PV y v → f a = (if found then some y else none) → y = (f a).getD z → (Instr.lookup mt (.map (some g)) (ac.eval k) c).run P w = .ok (if c then .tuple #[v,.bool found] else v) w → o.wp P ac w K' Q:=by
    intro y v found hy hfa hyz hrun
    have hx : VR w β (bornB s.nx) (if c then .tup [(f a).getD z,.bool (f a).isSome] else (f a).getD z) (if c then .tuple #[v,.bool found] else v):=by
      rw [← hyz]
      have hfs : (f a).isSome = found:=by rw [hfa]; cases found <;> rfl
      rw [hfs]
      cases c with
      | true=>exact ⟨_,rfl,_,_,rfl,hy _ _ _,_,_,rfl,rfl,rfl⟩
      | false=>exact hy _ _ _
    unfold Oper.wp
    have he : (execOp ac.eval o).run P w = .ok (.value (if c then .tuple #[v,.bool found] else v)) w:=by
      simp [execOp,ho,h1,hrun,Result.andThen]
    rw [he]
    have hs1:=hs.put (d:=o.dst) hx hdo
    rw [hd] at hs1
    refine hK _ _ ?_
    show wpList P ops Q rest (ac.put o.dst _) w
    rw [hd]
    exact h w0 w β _ Q hs1 hM fun w' β' a' s' M' k hs' hM' hm=>hq w' β' a' s' M' k hs' hM' hm
  rcases T.law.find w hlx es.toList (hE.keys T) with ⟨r1,r2⟩ | ⟨j,e,r1,r2,r3⟩
  · refine fin z zvv false hzp (by simpa using hE.no T h2' r2) (by rw [hE.no T h2' r2]; rfl) ?_
    cases c <;> simp [Instr.lookup,run_underlying ht,MapKept.run_getObj_map hb,T.law.check w _ hlx,r1,hzv,Result.andThen]
  · obtain ⟨x,hx,hxv⟩:=hE.yes T h2' (List.mem_of_getElem? r2) r3
    refine fin x e.val true hxv (by simpa using hx) (by rw [hx]; rfl) ?_
    cases c <;> simp [Instr.lookup,run_underlying ht,MapKept.run_getObj_map hb,T.law.check w _ hlx,r1,Result.andThen]

theorem MOPS.update [DecidableEq α] {kt et mt : TypeId} {m k v : Operand} {g : Nat} {f : α → Option AV} {a : α} {x : AV} (T : KeyT P kt ok kv) (ht : P.underlying mt = some (.map kt et)) (ho : o.op = .mapUpdate mt m k v) (hm : ev s.env m = .raw (.map (some g))) (hk : ev s.env k = kv a) (hsc : scal (kv a) = true) (hok : ok a)
    (hv : ev s.env v = x) (hx : scal x = true) (hg : agd ops s o = some true) (hd : o.dst = none) (hf : M g = some f) (h : MOPS ok kv P ops rest K s (mupd M g (fupd f a x))) : MOPS ok kv P ops (o :: rest) K s M:=by
  intro w0 w β ac Q hs hM hq
  refine wpList_step fun K' hK=>?_
  rw [agd_ok hs hg,if_pos rfl]
  have h1:=ev_ok hs m
  rw [hm] at h1
  have h1 : ac.eval m = .map (some g):=h1.symm
  have h2:=ev_ok hs k
  rw [hk] at h2
  have h2':=scal_ok hsc h2
  have h3:=ev_ok hs v
  rw [hv] at h3
  have h3':=scal_ok hx h3
  obtain ⟨k1,k2,es,ck,hb,hE⟩:=hM g f hf
  obtain ⟨lx,hlx⟩:=T.key a _ hok h2'
  have fin : ∀ (es' : Array MapEntry) (c' : Nat),EN ok kv (fupd f a x) es'.toList → (Instr.mapUpdate mt (.map (some g)) (ac.eval k) (ac.eval v)).run P w = .ok () (setMap w g es' c') → o.wp P ac w K' Q:=by
    intro es' c' hE' hrun
    have hmon:=setMap_mon (β:=β) (b:=bornB s.nx) (es':=es') (c':=c') hb
    have hs1 : SR w0 (setMap w g es' c') β s ac:=hs.mapped hmon
      ⟨⟨hs.hr.below.os,hs.hr.below.tape,hs.hr.below.output,Nat.le_trans hs.hr.below.size hmon.size,fun i hi=>by rw [setMap_ne (by omega)]; exact hs.hr.below.block i hi⟩,hs.hr.below.drawn⟩
      (fun id l hl=>setMap_ne (k2 id l hl))
    have hM1 : MR ok kv w0 (setMap w g es' c') β (mupd M g (fupd f a x)):=by
      intro i f' hi
      unfold mupd at hi
      split at hi
      · rename_i hig
        simp only [Option.some.injEq] at hi
        subst hi; subst hig
        exact ⟨k1,k2,es',c',setMap_eq hb,hE'⟩
      · rename_i hig
        obtain ⟨q1,q2,es2,c2,q3,q4⟩:=hM i f' hi
        exact ⟨q1,q2,es2,c2,by rw [setMap_ne hig]; exact q3,q4⟩
    unfold Oper.wp
    have he : (execOp ac.eval o).run P w = .ok .skip (setMap w g es' c'):=by
      simp [execOp,ho,h1,hrun,Result.andThen]
    rw [he]
    show K' (ac.put o.dst undef) _
    rw [hd]
    exact hK _ _ (h w0 _ β _ Q hs1 hM1 fun w' β' a' s' M' k hs' hM' hm=>hq w' β' a' s' M' k hs' hM' (MonSW.trans (s1:=s) ⟨hmon,KeepF.refl _ _⟩ hm))
  rcases T.law.find w hlx es.toList (hE.keys T) with ⟨r1,r2⟩ | ⟨j,e,r1,r2,r3⟩
  · refine fin (es.push ⟨ac.eval k,ac.eval v,ck⟩) (ck + 1) (by rw [Array.toList_push]; exact hE.push T hok h2' h3' r2 ck) ?_
    simp [Instr.mapUpdate,run_underlying ht,MapKept.run_getObj_map hb,T.law.check w _ hlx,r1,MapKept.run_setObj_map _ hb,Result.andThen,setMap]
  · have hj : es[j]? = some e:=by simpa using r2
    refine fin (es.modify j fun e=>{ e with key:=ac.eval k,val:=ac.eval v }) ck (by rw [Array.toList_modify]; exact hE.modify T hok h2' h3' r2 r3) ?_
    simp [Instr.mapUpdate,run_underlying ht,MapKept.run_getObj_map hb,T.law.check w _ hlx,r1,hj,r3,T.law.stays w hlx,MapKept.run_setObj_map _ hb,Result.andThen,setMap]

theorem MOPS.make {mt : TypeId} {t : Nat} (ho : o.op = .makeMap mt none) (hg : agd ops s o = some true) (hd : o.dst = some t) (hdo : dstOk s o.dst = true)
    (h : ∀ g,M g = none → MOPS ok kv P ops rest K { s with env:=upd s.env t (.raw (.map (some g))) } (fun i=>if i = g then some (fun _=>none) else M i)) : MOPS ok kv P ops (o :: rest) K s M:=by
  intro w0 w β ac Q hs hM hq
  refine wpList_step fun K' hK=>?_
  rw [agd_ok hs hg,if_pos rfl]
  have hsz : w0.heap.size ≤ w.heap.size:=hs.hr.below.size
  have hold : ∀ i,i < w.heap.size → (w.alloc (.map #[] 0)).heap[i]? = w.heap[i]?:=fun i hi=>heap_alloc_lt _ _ _ hi
  have hmon : MonW w β (bornB s.nx) (w.alloc (.map #[] 0)) β (bornB s.nx) :=
    ⟨by simp,fun i hi hn=>⟨.inl (hold i hi),hn⟩,fun i e he=>by rw [shape_of_block (hold i (shape_lt he))]; exact he,fun _ h=>h,fun _ _ _ h=>h⟩
  have hs1 : SR w0 (w.alloc (.map #[] 0)) β s ac:=hs.mapped hmon (hs.hr.below.alloc hsz _) (fun id l hl=>hold _ (hs.hr.dom id l hl).2.1)
  have hnone : M w.heap.size = none:=by
    cases hg' : M w.heap.size with
    | none=>rfl
    | some f =>
      obtain ⟨_,_,es,c,h3,_⟩:=hM _ f hg'
      have:=blk_lt h3; omega
  have hM1 : MR ok kv w0 (w.alloc (.map #[] 0)) β (fun i=>if i = w.heap.size then some (fun _=>none) else M i):=by
    intro i f hi
    simp only [] at hi
    split at hi
    · rename_i hig
      simp only [Option.some.injEq] at hi
      subst hi; subst hig
      refine ⟨hsz,fun id l hl hgg=>?_,#[],0,heap_alloc_eq _ _,EN.nil⟩
      have:=(hs.hr.dom id l hl).2.1; omega
    · obtain ⟨q1,q2,es2,c2,q3,q4⟩:=hM i f hi
      exact ⟨q1,q2,es2,c2,by rw [hold i (blk_lt q3)]; exact q3,q4⟩
  unfold Oper.wp
  have he : (execOp ac.eval o).run P w = .ok (.value (.map (some w.heap.size))) (w.alloc (.map #[] 0)):=by
    simp [execOp,ho,Instr.makeMap,run_newObj_alloc,Result.andThen]
  rw [he]
  have hs2:=hs1.put (d:=o.dst) (v:=.map (some w.heap.size)) (x:=.raw (.map (some w.heap.size))) rfl hdo
  rw [hd] at hs2
  refine hK _ _ ?_
  show wpList P ops Q rest (ac.put o.dst _) _
  rw [hd]
  exact h w.heap.size hnone w0 _ β _ Q hs2 hM1 fun w' β' a' s' M' k hs' hM' hm=>hq w' β' a' s' M' k hs' hM' (MonSW.trans (s1:=s) ⟨hmon,KeepF.refl _ _⟩ hm)

theorem MOPS.mcall {f : FuncId} {c : Call} {x : Operand} {cps args : List AV} {Q' : AV → Heap → Nat → MS α → Prop} (h1 : MCall ok kv P f args s.heap s.nx M Q') (ho : o.op = .call c) (hc : c.callee = .value x) (hx : ev s.env x = .fn f cps) (hb : hasBody P f = true) (ha : c.args.toList.map (ev s.env) ++ cps = args) (hg : agd ops s o = some true) (hd : dstOk s o.dst = true)
    (h : ∀ r H nx M',Q' r H nx M' → MOPS ok kv P ops rest K (puts { s with heap:=H,nx:=nx } o.dst r) M') : MOPS ok kv P ops (o :: rest) K s M:=by
  intro w0 w β a Q hs hM hq
  refine wpList_step fun K' hK=>?_
  rw [agd_ok hs hg,if_pos rfl]
  have hxe:=ev_ok hs x
  rw [hx] at hxe
  obtain ⟨cvs,hcv,hcl⟩:=fnval hxe
  unfold Oper.wp
  rw [call_run hc hcv ho,hasBody_run hb,Oper.upon_enter]
  have h1':=h1 w0 w β (c.args.map a.eval ++ cvs).toList hs.hr hM (callargs hs hcl ha)
  simp only [Array.toArray_toList] at h1'
  refine h1'.mono ?_
  rintro e w' ⟨v,r,H',nx',M',β1,rfl,hQ,hh,hM',hv,hm,hk⟩
  have hs1 : SR w0 w' β1 { s with heap:=H',nx:=nx' } a:=⟨hh,hs.defers,hs.size,fun t=>VR.monW hm _ _ (hs.env t)⟩
  refine hK _ _ (h r H' nx' M' hQ w0 _ _ _ Q (hs1.put hv (by cases hd' : o.dst with | none=>rfl | some t=>simpa [dstOk,hd'] using hd)) hM' fun w'' β' a' s' M'' k hs' hM'' hm'=>hq w'' β' a' s' M'' k hs' hM'' ?_)
  unfold MonSW at *
  rw [puts_nx] at hm'
  exact ⟨hm.trans hm'.1,hk.trans hm'.2⟩
end

section
variable {α : Type} {ok : α → Prop} {kv : α → AV} {P : Program} {K : Exit → St → MS α → Prop} {s s' : St} {M : MS α} {y : Code} {id : Nat} {l : List Oper}
theorem MWP.q (h : MWP ok kv P y K s' M) (h1 : runOps P l.toArray l s = some s':=by simp (disch:=first|omega|(simp only[ln];omega)); rfl) : MWP ok kv P (.seq (.region id l.toArray false) y) K s M :=
  MWP.sq fun _ hK=>MWP.up (AWP.region (AOPS.all h1 (hK _ _ h)))
theorem MWP.frz1 {c : Code} (d id z : Nat) (es : List (List AV)) (v : AV) (hH : s.heap id = some (z,es)) (hv : fz id es (s.env d) = v) (h : MWP ok kv P c K { s with env:=upd s.env d v,heap:=hupd s.heap id none } M) : MWP ok kv P c K s M:=by
  refine MWP.pre h fun w0 w β a hs=>⟨bupd β id none,hs.freeze hH (fun t=>?_) (by simp [hupd]) (fun i hi=>.inl (by simp [hupd,hi])),(Mon.drop hs.hr id),KeepF.drop hs.hr (by rw [hH]; simp)⟩
  by_cases ht : t = d
  · subst ht; right; simp [upd,hv]
  · left; simp [upd,ht]
end

section
variable {α : Type} {ok : α → Prop} {kv : α → AV} {P : Program} {f : FuncId} {fn : Func} {c : Code} {args : List AV}
theorem FC.mb {r : AV} (ok : α → Prop) (kv : α → AV) (hf : P.funcs[f]? = some fn) (nt : Nat)
    (h : ∀ (nx : Nat) (K : Exit → St → MS α → Prop),(∀ e s H' nx' M',isEnd e → Fin P fn s r H' nx' → K e s M') → MWP ok kv P c K { env:=lst args,heap:=fun _=>none,nx:=nx,nt:=nt } (fun _=>none))
    (hi : idfL args:=by simp [idfL,idf,idfLL_iff]) (hr : idf r:=by simp [idfL,idf,idfLL_iff]) (hb : fn.body = some c:=by rfl) (hn : args.length + (fn.ntmps - args.length) = nt:=by rfl) : FC P f args r:=by
  subst hn
  intro w β b N vs h1 h2 h3
  have hl:=VRL.length _ _ h3
  have h3':=VRL.idf (β':=β) (b':=bornB N) (fun _ h=>h) _ _ hi h3
  refine calls_of_wp hf hb (h N (fun e s _=>isEnd e ∧ ∃ H' nx',Fin P fn s r H' nx') (fun e s H' nx' _ he hfin=>⟨he,H',nx',hfin⟩) w w β _ _ ⟨⟨Below.refl _ _,fun id z es he=>by simp at he,fun id l hl=>⟨fun hn=>absurd rfl hn,(h1 id l hl).1,by simp [bornB,(h1 id l hl).2]⟩,h2⟩,rfl,by simp [hl],fun t=>lst_ok h3' t⟩ (fun g f hg=>by simp at hg) ?_)
  rintro e w' β' a' s' M' ⟨he,H',nx',hfin⟩ hs' _ hm
  obtain ⟨v,β2,hv,hh,hvr,hm2,hk2⟩:=hfin _ _ _ _ hs'
  have hn : ∀ g,notown β2 g → notown β g:=fun g hg id l hl hgg=>hg id l ((hm.2.trans hk2) id l hl (h1 id l hl).1) hgg
  cases e <;> simp only [isEnd] at he <;> exact ⟨hs'.defers,v,hv,v,rfl,fun b'=>VR.idf hn _ _ hr hvr,hh.below⟩

/-- The same with blocks of one's own handed back; none is there when the call begins. -/
theorem ACall.mb {nx : Nat} {Q : AV → Heap → Nat → Prop} (ok : α → Prop) (kv : α → AV) (hf : P.funcs[f]? = some fn) (nt : Nat)
    (h : ∀ (K : Exit → St → MS α → Prop),(∀ e s r H' nx' M',isEnd e → Fin P fn s r H' nx' → Q r H' nx' → K e s M') → MWP ok kv P c K { env:=lst args,heap:=fun _=>none,nx:=nx,nt:=nt } (fun _=>none))
    (hb : fn.body = some c:=by rfl) (hn : args.length + (fn.ntmps - args.length) = nt:=by rfl) : ACall P f args (fun _=>none) nx Q:=by
  subst hn
  intro w0 w β vs h1 h3
  have hl:=VRL.length _ _ h3
  have hsz : w0.heap.size ≤ w.heap.size:=h1.below.size
  refine calls_of_wp hf hb (h (fun e s _=>isEnd e ∧ ∃ r H' nx',Fin P fn s r H' nx' ∧ Q r H' nx') (fun e s r H' nx' _ he hfin hq=>⟨he,r,H',nx',hfin,hq⟩) w w β _ _ ⟨⟨Below.refl _ _,fun id z es he=>by simp at he,fun id l hl=>⟨fun hn=>absurd rfl hn,(h1.dom id l hl).2⟩,h1.inj⟩,rfl,by simp [hl],fun t=>lst_ok h3 t⟩ (fun g f hg=>by simp at hg) ?_)
  rintro e w' β' a' s' M' ⟨he,r,H',nx',hfin,hq⟩ hs' hM' hm
  obtain ⟨v,β2,hv,hh,hvr,hm2,hk2⟩:=hfin _ _ _ _ hs'
  have hmw:=hm.1.trans hm2.weak
  have hkk : KeepF w β β2:=hm.2.trans hk2
  have hmon : Mon w β (bornB nx) w' β2 (bornB nx'):=⟨hmw.size,fun g hg hn=>⟨hh.below.block g hg,(hmw.keep g hg hn).2⟩,hmw.shape,hmw.born,hmw.beta⟩
  have hhr : HR w0 w' β2 (bornB nx') H':=⟨h1.below.trans (hh.below.mono hsz),hh.blk,fun id l hl=>⟨fun hn=>Nat.le_trans hsz ((hh.dom id l hl).1 hn),(hh.dom id l hl).2⟩,hh.inj⟩
  have hk0 : KeepF w0 β β2:=fun id l h5 h6=>hkk id l h5 (Nat.lt_of_lt_of_le h6 hsz)
  cases e <;> simp only [isEnd] at he <;> exact ⟨hs'.defers,v,hv,v,r,H',nx',β2,rfl,hq,hhr,hvr,hmon,hk0⟩

theorem MCall.b {H : Heap} {nx : Nat} {M : MS α} {Q : AV → Heap → Nat → MS α → Prop} (hf : P.funcs[f]? = some fn) (nt : Nat)
    (h : ∀ (K : Exit → St → MS α → Prop),(∀ e s r H' nx' M',isEnd e → Fin P fn s r H' nx' → Q r H' nx' M' → K e s M') → MWP ok kv P c K { env:=lst args,heap:=H,nx:=nx,nt:=nt } M)
    (hb : fn.body = some c:=by rfl) (hn : args.length + (fn.ntmps - args.length) = nt:=by rfl) : MCall ok kv P f args H nx M Q:=by
  subst hn
  intro w0 w β vs h1 hM h3
  have hl:=VRL.length _ _ h3
  refine calls_of_wp hf hb (h (fun e s M'=>isEnd e ∧ ∃ r H' nx',Fin P fn s r H' nx' ∧ Q r H' nx' M') (fun e s r H' nx' M' he hfin hq=>⟨he,r,H',nx',hfin,hq⟩) w0 w β _ _ ⟨h1,rfl,by simp [hl],fun t=>lst_ok h3 t⟩ hM ?_)
  rintro e w' β' a' s' M' ⟨he,r,H',nx',hfin,hq⟩ hs' hM' hm
  obtain ⟨v,β2,hv,hh,hvr,hm2,hk2⟩:=hfin _ _ _ _ hs'
  cases e <;> simp only [isEnd] at he <;> exact ⟨hs'.defers,v,hv,v,r,H',nx',M',β2,rfl,hq,hh,hM'.keep hm2,hvr,hm.1.trans hm2.weak,hm.2.trans hk2⟩
end
end Go.Proofs.YtjbbbkfdcegfmaaGreat
