/- '==' of structs of numbers and truth values; all operations that yield a value, in one function. -/
import Derived.Test.YtjbbbkfdcegfmaaGreatG05

namespace Go.Proofs.YtjbbbkfdcegfmaaGreat
open Go Go.RowKit

mutual
/-- '==' of two values by their cells. -/
def eqW (P : Program) : Nat → TypeId → List AV → List AV → Option Bool
  | 0,_,_,_=>none
  | d + 1,t,xs,ys=>match P.underlying t with
    | some (.int _)=>match xs,ys with
      | [.int k a],[.int k' c]=>if k = k' then some (a == c) else none
      | _,_=>none
    | some .bool=>match xs,ys with
      | [.bool a],[.bool c]=>some (a == c)
      | _,_=>none
    | some (.struct fs)=>if P.stoodInHeld t = true then none else eqF P d xs ys fs.toList
    | _=>none
def eqF (P : Program) : Nat → List AV → List AV → List Field → Option Bool
  | _,_,_,[]=>some true
  | d,xs,ys,f :: fs =>
    if f.name ≠ "_" then (match szOf P f.type, aggT P f.type with
      | some n,some g=>if f.offset + n ≤ xs.length ∧ f.offset + n ≤ ys.length ∧ (g = true ∨ n = 1) then (match eqW P d f.type ((xs.drop f.offset).take n) ((ys.drop f.offset).take n),eqF P d xs ys fs with
        | some a,some c=>some (a && c)
        | _,_=>none) else none
      | _,_=>none) else eqF P d xs ys fs
end

def mkV (g : Bool) (us : List Value) : Value:=if g then .agg us.toArray else us.headD .nilIface

theorem part_ok {P : Program} {w : World} {t : TypeId} {g : Bool} {n off : Nat} {us : List Value} (h1 : szOf P t = some n) (h2 : aggT P t = some g) (h3 : off + n ≤ us.length) (h4 : g = true ∨ n = 1) :
    (part t us.toArray off).run P w = .ok (mkV g ((us.drop off).take n)) w:=by
  cases g with
  | true =>
    simp only [part,Sem.run_bind,run_aggT h2,Result.andThen_ok,if_true,run_szOf h1,Sem.run_pure,mkV]
    congr 2
    simp [List.extract_toArray,List.extract_eq_take_drop]
  | false =>
    have hn : n = 1 := by rcases h4 with h | h; · simp at h
                          · exact h
    subst hn
    have hlt : off < us.length:=by omega
    simp only [part,Sem.run_bind,run_aggT h2,Result.andThen_ok,Bool.false_eq_true,if_false,mkV]
    simp only [List.getElem?_toArray,List.getElem?_eq_getElem hlt,Sem.run_pure]
    congr 1
    rw [List.drop_eq_getElem_cons hlt]; rfl

theorem eqF_ok {P : Program} {w : World} {β : Nat → Option Loc} {b : Nat → Bool} (d D : Nat)
    (ih : ∀ (t : TypeId) (g : Bool) (xs ys : List AV) (us vs : List Value) (r : Bool),aggT P t = some g → VRL w β b xs us → VRL w β b ys vs → eqW P d t xs ys = some r → (Op.equalIn D t (mkV g us) (mkV g vs)).run P w = .ok r w)
    (xs ys : List AV) (us vs : List Value) (hx : VRL w β b xs us) (hy : VRL w β b ys vs) : ∀ (fs : List Field) (r : Bool),eqF P d xs ys fs = some r →
    (Op.eqFields D us.toArray vs.toArray fs).run P w = .ok r w:=by
  intro fs
  induction fs with
  | nil=>intro r h; simp only [eqF,Option.some.injEq] at h; subst h; rfl
  | cons f fs ihf =>
    intro r h
    unfold eqF at h
    unfold Op.eqFields
    split at h
    · rename_i hn
      rw [if_pos hn]
      split at h
      · rename_i n g h1 h2
        split at h
        · rename_i hc
          obtain ⟨c1,c2,c3⟩:=hc
          split at h
          · rename_i a c ha hcc
            simp only [Option.some.injEq] at h; subst h
            have lx:=VRL.length _ _ hx
            have ly:=VRL.length _ _ hy
            have e1:=part_ok (P:=P) (w:=w) (off:=f.offset) (us:=us) h1 h2 (by omega) c3
            have e2:=part_ok (P:=P) (w:=w) (off:=f.offset) (us:=vs) h1 h2 (by omega) c3
            have e3:=ih f.type g _ _ _ _ a h2 (VRL.take n _ _ (VRL.drop f.offset _ _ hx)) (VRL.take n _ _ (VRL.drop f.offset _ _ hy)) ha
            have e4:=ihf c hcc
            simp only [Sem.run_bind,e1,e2,e3,Result.andThen_ok]
            cases a with
            | true=>simp only [Bool.not_true,Bool.false_eq_true,if_false,Bool.true_and]; exact e4
            | false=>simp
          · simp at h
        · simp at h
      · simp at h
    · rename_i hn
      rw [if_neg hn]
      exact ihf r h

theorem eqW_ok {P : Program} {w : World} {β : Nat → Option Loc} {b : Nat → Bool} : ∀ (d D : Nat),d ≤ D → ∀ (t : TypeId) (g : Bool) (xs ys : List AV) (us vs : List Value) (r : Bool),aggT P t = some g → VRL w β b xs us → VRL w β b ys vs → eqW P d t xs ys = some r →
    (Op.equalIn D t (mkV g us) (mkV g vs)).run P w = .ok r w:=by
  intro d
  induction d with
  | zero=>intro D _ t g xs ys us vs r _ _ _ h; simp [eqW] at h
  | succ d ih =>
    intro D hD t g xs ys us vs r hg hx hy h
    obtain ⟨D,rfl⟩ : ∃ m,D = m + 1:=⟨D - 1,by omega⟩
    unfold eqW at h
    split at h
    · rename_i k0 hu
      have : g = false:=by simpa [aggT,hu,eq_comm] using hg
      subst this
      split at h
      · rename_i k a k' c
        obtain ⟨u,_,rfl,hu1,hn⟩:=hx
        obtain ⟨v,_,rfl,hv1,hm⟩:=hy
        obtain rfl : u = .int k a:=hu1
        obtain rfl : v = .int k' c:=hv1
        split at h
        · rename_i hk; subst hk
          simp only [Option.some.injEq] at h; subst h
          exact run_equalIn_int w D t k k0 a c hu
        · simp at h
      · simp at h
    · rename_i hu
      have : g = false:=by simpa [aggT,hu,eq_comm] using hg
      subst this
      split at h
      · rename_i a c
        obtain ⟨u,_,rfl,hu1,hn⟩:=hx
        obtain ⟨v,_,rfl,hv1,hm⟩:=hy
        obtain rfl : u = .bool a:=hu1
        obtain rfl : v = .bool c:=hv1
        simp only [Option.some.injEq] at h; subst h
        exact run_equalIn_bool' w D t a c hu
      · simp at h
    · rename_i fs hu
      have : g = true:=by simpa [aggT,hu,eq_comm] using hg
      subst this
      split at h
      · simp at h
      · rename_i hst
        have hff : P.fieldsOf t = fs:=by simp [Program.fieldsOf,hu]
        show (Op.equalIn (D + 1) t (.agg us.toArray) (.agg vs.toArray)).run P w = _
        rw [run_equalIn_struct w D t us.toArray vs.toArray (by rw [hff]; exact hu) (by simpa using hst),hff]
        exact eqF_ok d D (ih D (by omega)) xs ys us vs hx hy fs.toList r h
    · simp at h

/-- '==' of truth values, of slices and pointers with nil. -/
def aEqB (P : Program) (t : TypeId) (x y : AV) : Option Bool :=
  match x,y,P.underlying t with
  | .bool a,.bool c,some .bool=>some (a == c)
  | .nsl,.nsl,some (.slice _)=>some true
  | .isl ((_ :: _) :: _),.nsl,some (.slice _)=>some false
  | .nil,.nil,some (.pointer _)=>some true
  | .ip _,.nil,some (.pointer _)=>some false
  | _,_,_=>none

section
variable {P : Program} {w : World} {t e : TypeId}
theorem eqIn_nsl (D : Nat) (hu : P.underlying t = some (.slice e)) (p q r s : Nat) : (Op.equalIn (D + 1) t (.slice none p q) (.slice none r s)).run P w = .ok true w:=by
  unfold Op.equalIn; simp only [Sem.run_bind,run_underlying hu,Result.andThen_ok]; rfl
theorem eqIn_sl (D : Nat) (hu : P.underlying t = some (.slice e)) (a : Addr) (p q r s : Nat) : (Op.equalIn (D + 1) t (.slice (some a) p q) (.slice none r s)).run P w = .ok false w:=by
  unfold Op.equalIn; simp only [Sem.run_bind,run_underlying hu,Result.andThen_ok]; rfl
theorem eqIn_nil (D : Nat) (hu : P.underlying t = some (.pointer e)) : (Op.equalIn (D + 1) t (.pointer none) (.pointer none)).run P w = .ok true w:=by
  unfold Op.equalIn; simp only [Sem.run_bind,run_underlying hu,Result.andThen_ok]; rfl
theorem eqIn_ptr (D : Nat) (hu : P.underlying t = some (.pointer e)) (a : Addr) : (Op.equalIn (D + 1) t (.pointer (some a)) (.pointer none)).run P w = .ok false w:=by
  unfold Op.equalIn; simp only [Sem.run_bind,run_underlying hu,Result.andThen_ok]; rfl
end

theorem aEqB_ok {P : Program} {w : World} {β : Nat → Option Loc} {b : Nat → Bool} {t : TypeId} {x y : AV} {r : Bool} {u v : Value} (hx : VR w β b x u) (hy : VR w β b y v) (h : aEqB P t x y = some r) :
    (Op.equalIn 10000 t u v).run P w = .ok r w ∧ ∀ op X Y,eqGuard op t X Y u v = pure ():=by
  unfold aEqB at h
  split at h
  · rename_i a c hu
    obtain rfl : u = .bool a:=hx
    obtain rfl : v = .bool c:=hy
    simp only [Option.some.injEq] at h; subst h
    exact ⟨run_equalIn_bool' w 9999 t a c hu,fun op X Y=>by cases op <;> rfl⟩
  · rename_i e hu
    obtain rfl : u = .slice none 0 0:=hx
    obtain rfl : v = .slice none 0 0:=hy
    simp only [Option.some.injEq] at h; subst h
    exact ⟨eqIn_nsl 9999 hu _ _ _ _,fun op X Y=>by cases op <;> rfl⟩
  · rename_i c cs es e hu
    obtain ⟨a,cap,z,vss,rfl,hcap,hvl,hr⟩:=hx
    obtain rfl : v = .slice none 0 0:=hy
    simp only [Option.some.injEq] at h; subst h
    obtain ⟨vs,hvs,hvc⟩:=VRLL.get _ _ 0 (c :: cs) hvl rfl
    obtain ⟨u0,r0,e0,_,_⟩:=hvc
    obtain ⟨hz,hrd⟩:=hr 0 vs hvs
    obtain ⟨g,o,ha,_,_⟩:=hrd 0 u0 (by rw [e0]; rfl)
    subst ha
    exact ⟨eqIn_sl 9999 hu _ _ _ _ _,fun op X Y=>by cases op <;> rfl⟩
  · rename_i e hu
    obtain rfl : u = .pointer none:=hx
    obtain rfl : v = .pointer none:=hy
    simp only [Option.some.injEq] at h; subst h
    exact ⟨eqIn_nil 9999 hu,fun op X Y=>by cases op <;> rfl⟩
  · rename_i cs e hu
    obtain ⟨g,o,vs,rfl,_⟩:=hx
    obtain rfl : v = .pointer none:=hy
    simp only [Option.some.injEq] at h; subst h
    exact ⟨eqIn_ptr 9999 hu _,fun op X Y=>by cases op <;> rfl⟩
  · simp at h

/-- '==' and '!=' of two structs. -/
def aEqS (P : Program) (op : BinOp) (t : TypeId) (x y : AV) : Option AV :=
  match x,y with
  | .agg xs,.agg ys=>if P.eqGuardType P.depth t = false ∧ aggT P t = some true then (match op with
    | .eql=>(eqW P 8 t xs ys).map .bool
    | .neq=>(eqW P 8 t xs ys).map fun c=>.bool !c
    | _=>none) else none
  | x,y=>match op with
    | .eql=>(aEqB P t x y).map .bool
    | .neq=>(aEqB P t x y).map fun c=>.bool !c
    | _=>none

theorem aEqS_ok {P : Program} {w : World} {β : Nat → Option Loc} {b : Nat → Bool} {op : BinOp} {t : TypeId} {X Y : Operand} {x y r : AV} {u v : Value} (hx : VR w β b x u) (hy : VR w β b y v) (h : aEqS P op t x y = some r) :
    ∃ v',(do eqGuard op t X Y u v; binOp op t u v : Sem Value).run P w = .ok v' w ∧ VR w β b r v':=by
  unfold aEqS at h
  split at h
  · rename_i xs ys
    obtain ⟨us,rfl,hus⟩:=hx
    obtain ⟨vs,rfl,hvs⟩:=hy
    split at h
    · rename_i hc
      obtain ⟨c1,c2⟩:=hc
      have hg:=run_eqGuard_agg (P:=P) w op t X Y us vs c1
      split at h
      · obtain ⟨q,hq,rfl⟩:=Option.map_eq_some_iff.mp h
        have he:=eqW_ok (P:=P) (w:=w) 8 10000 (by omega) t true xs ys us.toList vs.toList q c2 hus hvs hq
        simp only [mkV,if_true,Array.toArray_toList] at he
        refine ⟨.bool q,?_,rfl⟩
        simp only [Sem.run_bind,hg,Result.andThen_ok,run_eql_struct,he]
      · obtain ⟨q,hq,rfl⟩:=Option.map_eq_some_iff.mp h
        have he:=eqW_ok (P:=P) (w:=w) 8 10000 (by omega) t true xs ys us.toList vs.toList q c2 hus hvs hq
        simp only [mkV,if_true,Array.toArray_toList] at he
        refine ⟨.bool !q,?_,rfl⟩
        simp only [Sem.run_bind,hg,Result.andThen_ok]
        show (binOp .neq t (.agg us) (.agg vs)).run P w = _
        simp only [binOp,Sem.run_bind]
        show (((Op.equalIn 10000 t (.agg us) (.agg vs)).run P w).andThen fun a w'=>(pure (.bool !a) : Sem Value).run P w') = _
        rw [he]; rfl
      · simp at h
    · simp at h
  · have hnon : ∀ q,aEqB P t x y = some q → ((∀ v',(binOp .eql t u v).run P w = .ok v' w ↔ (do pure (Value.bool (← Op.equal t u v)) : Sem Value).run P w = .ok v' w) ∧ (∀ v',(binOp .neq t u v).run P w = .ok v' w ↔ (do pure (Value.bool (!(← Op.equal t u v))) : Sem Value).run P w = .ok v' w)):=by
      intro q hq
      unfold aEqB at hq
      split at hq
      · obtain ⟨a,rfl⟩ : ∃ a,u = .bool a:=⟨_,hx⟩
        obtain ⟨c,rfl⟩ : ∃ c,v = .bool c:=⟨_,hy⟩
        exact ⟨fun v'=>Iff.rfl,fun v'=>Iff.rfl⟩
      · obtain rfl : u = .slice none 0 0:=hx
        obtain rfl : v = .slice none 0 0:=hy
        exact ⟨fun v'=>Iff.rfl,fun v'=>Iff.rfl⟩
      · obtain ⟨a,cap,z,vss,rfl,hcap,hvl,hr⟩:=hx
        obtain rfl : v = .slice none 0 0:=hy
        exact ⟨fun v'=>Iff.rfl,fun v'=>Iff.rfl⟩
      · obtain rfl : u = .pointer none:=hx
        obtain rfl : v = .pointer none:=hy
        exact ⟨fun v'=>Iff.rfl,fun v'=>Iff.rfl⟩
      · obtain ⟨g,o,vs,rfl,_⟩:=hx
        obtain rfl : v = .pointer none:=hy
        exact ⟨fun v'=>Iff.rfl,fun v'=>Iff.rfl⟩
      · simp at hq
    split at h
    · obtain ⟨q,hq,rfl⟩:=Option.map_eq_some_iff.mp h
      obtain ⟨h1,h2⟩:=aEqB_ok hx hy hq
      refine ⟨.bool q,?_,rfl⟩
      rw [h2]
      simp only [Sem.run_bind,Sem.run_pure,Result.andThen_ok]
      rw [(hnon q hq).1]
      have h1' : (Op.equal t u v).run P w = .ok q w:=h1
      simp only [Sem.run_bind,h1',Result.andThen_ok,Sem.run_pure]
    · obtain ⟨q,hq,rfl⟩:=Option.map_eq_some_iff.mp h
      obtain ⟨h1,h2⟩:=aEqB_ok hx hy hq
      refine ⟨.bool !q,?_,rfl⟩
      rw [h2]
      simp only [Sem.run_bind,Sem.run_pure,Result.andThen_ok]
      rw [(hnon q hq).2]
      have h1' : (Op.equal t u v).run P w = .ok q w:=h1
      simp only [Sem.run_bind,h1',Result.andThen_ok,Sem.run_pure]
    · simp at h
end Go.Proofs.YtjbbbkfdcegfmaaGreat
