/- The proof for regions that draw their order. -/
import Derived.Test.YtjbbbkfdcegfmaaGreatG0G
import Derived.Orders

namespace Go.Proofs.YtjbbbkfdcegfmaaGreat
open Go Go.RowKit

theorem eS_congr {ops : Array Oper} {ef : Nat → Ef} {e0 : Nat → AV} {L L' : Nat → Bool} {t : Nat} : ∀ n,(∀ j,j < n → dstOf ops j = some t → L j = L' j) → eS ops ef e0 L n t = eS ops ef e0 L' n t
  | 0,_=>rfl
  | k + 1,h=>by
    have ih:=eS_congr (ops:=ops) (ef:=ef) (e0:=e0) (L:=L) (L':=L') (t:=t) k fun j hj=>h j (by omega)
    unfold eS
    by_cases hd : dstOf ops k = some t
    · rw [h k (by omega) hd,hd]
      split
      · simp [updo,upd]
      · exact ih
    · have e1 : ∀ (c : Bool) (E : Nat → AV),(if c = true then updo E (dstOf ops k) (ef k).v else E) t = E t:=fun c E=>by
        cases c
        · rfl
        · exact updo_other hd
      rw [e1,e1]; exact ih

theorem eS_succ (ops : Array Oper) (ef : Nat → Ef) (e0 : Nat → AV) (L : Nat → Bool) (k : Nat) : eS ops ef e0 L (k + 1) = if L k then updo (eS ops ef e0 L k) (dstOf ops k) (ef k).v else eS ops ef e0 L k:=rfl
theorem hS_succ (ef : Nat → Ef) (H0 : Heap) (L : Nat → Bool) (k : Nat) : hS ef H0 L (k + 1) = if L k then hupo (hS ef H0 L k) (ef k).blk else hS ef H0 L k:=rfl
theorem eS_ext {ops : Array Oper} {ef : Nat → Ef} {e0 : Nat → AV} {L : Nat → Bool} {i : Nat} : ∀ d,(∀ j,i ≤ j → j < i + d → L j = false) → eS ops ef e0 L (i + d) = eS ops ef e0 L i
  | 0,_=>rfl
  | d + 1,h=>by
    rw [show i + (d + 1) = (i + d) + 1 by omega,eS_succ,h (i + d) (by omega) (by omega)]
    simp only [Bool.false_eq_true,if_false]
    exact eS_ext d fun j h1 h2=>h j h1 (by omega)
theorem hS_ext {ef : Nat → Ef} {H0 : Heap} {L : Nat → Bool} {i : Nat} : ∀ d,(∀ j,i ≤ j → j < i + d → L j = false) → hS ef H0 L (i + d) = hS ef H0 L i
  | 0,_=>rfl
  | d + 1,h=>by
    rw [show i + (d + 1) = (i + d) + 1 by omega,hS_succ,h (i + d) (by omega) (by omega)]
    simp only [Bool.false_eq_true,if_false]
    exact hS_ext d fun j h1 h2=>h j h1 (by omega)

/-- The text's order up to i, as a set. -/
theorem eS_text {ops : Array Oper} {ef : Nat → Ef} {e0 : Nat → AV} {i n t : Nat} (hi : i ≤ n) : eS ops ef e0 (fun _=>true) i t = eS ops ef e0 (fun j=>decide (j < i)) n t:=by
  have h1:=eS_ext (ops:=ops) (ef:=ef) (e0:=e0) (L:=fun j=>decide (j < i)) (i:=i) (n - i) (fun j h1 _=>by simp; omega)
  rw [show i + (n - i) = n by omega] at h1
  rw [h1]
  exact eS_congr i fun j hj _=>by simp [hj]
theorem hS_text {ef : Nat → Ef} {H0 : Heap} {i n id : Nat} (hi : i ≤ n) : hS ef H0 (fun _=>true) i id = hS ef H0 (fun j=>decide (j < i)) n id:=by
  have h1:=hS_ext (ef:=ef) (H0:=H0) (L:=fun j=>decide (j < i)) (i:=i) (n - i) (fun j h1 _=>by simp; omega)
  rw [show i + (n - i) = n by omega] at h1
  rw [h1]
  exact hS_congr i fun j hj _=>by simp [hj]

theorem hS_one {ef : Nat → Ef} {H0 : Heap} {L : Nat → Bool} {id z i : Nat} {es : List (List AV)} (hL : L i = true) (hb : (ef i).blk = some (id,z,es)) : ∀ n,i < n → (∀ j,i < j → j < n → L j = true → (ef j).blk.map (·.1) ≠ some id) → hS ef H0 L n id = some (z,es)
  | 0,h,_=>by omega
  | k + 1,h,hu=>by
    unfold hS
    by_cases hk : k = i
    · subst hk
      rw [if_pos hL,hb]
      simp [hupo,hupd]
    · have ih:=hS_one (H0:=H0) hL hb k (by omega) fun j h1 h2=>hu j h1 (by omega)
      split
      · rename_i hLk
        have:=hu k (by omega) (by omega) hLk
        cases hbk : (ef k).blk with
        | none=>exact ih
        | some q =>
          obtain ⟨i',z',es'⟩:=q
          rw [hbk] at this
          have hne : i' ≠ id:=by simpa using this
          simp only [hupo,hupd,Ne.symm hne,if_false]
          exact ih
      · exact ih

def Ld (listed : Array Bool) (i : Nat) : Bool:=listed.getD i false
def upL (L : Nat → Bool) (i : Nat) : Nat → Bool:=fun j=>j == i || L j
def bL (nx : Nat) (L : Nat → Bool) : Nat → Bool:=fun id=>decide (id < nx) || L (id - nx)
theorem upL_self (L : Nat → Bool) (i : Nat) : upL L i i = true:=by simp [upL]
theorem upL_ne (L : Nat → Bool) {i j : Nat} (h : j ≠ i) : upL L i j = L j:=by simp [upL,h]
theorem bL_up (nx : Nat) (L : Nat → Bool) (i id : Nat) : bL nx (upL L i) id = (decide (id = nx + i) || bL nx L id):=by
  simp only [bL,upL]
  by_cases h : id < nx
  · simp [h]
  · have : (id - nx == i) = decide (id = nx + i):=by
      rw [Bool.eq_iff_iff]; simp; omega
    simp [h,this]

theorem eS_add {ops : Array Oper} {ef : Nat → Ef} {e0 : Nat → AV} {L : Nat → Bool} {i n : Nat} (hi : i < n) (hu : ∀ d,dstOf ops i = some d → ∀ j,j < n → j ≠ i → dstOf ops j ≠ some d) :
    eS ops ef e0 (upL L i) n = updo (eS ops ef e0 L n) (dstOf ops i) (ef i).v:=by
  funext t
  by_cases hd : dstOf ops i = some t
  · rw [eS_one (upL_self L i) hd n hi (hu t hd),hd]
    simp [updo,upd]
  · rw [updo_other hd]
    exact eS_congr n fun j _ hj=>upL_ne L (by intro e; subst e; exact hd hj)

theorem hS_add {ef : Nat → Ef} {H0 : Heap} {L : Nat → Bool} {i n : Nat} (hi : i < n) (hu : ∀ id z es,(ef i).blk = some (id,z,es) → ∀ j,i < j → j < n → L j = true → (ef j).blk.map (·.1) ≠ some id) :
    hS ef H0 (upL L i) n = hupo (hS ef H0 L n) (ef i).blk:=by
  funext id
  cases hb : (ef i).blk with
  | none=>exact hS_congr n fun j _ hj=>upL_ne L (by intro e; subst e; rw [hb] at hj; simp at hj)
  | some q =>
    obtain ⟨id',z,es⟩:=q
    show _ = hupd (hS ef H0 L n) id' (some (z,es)) id
    by_cases hid : id = id'
    · subst hid
      rw [hS_one (upL_self L i) hb n hi (fun j h1 h2 h3=>hu id z es hb j h1 h2 (by rwa [upL_ne L (by omega)] at h3))]
      simp [hupd]
    · simp only [hupd,hid,if_false]
      exact hS_congr n fun j _ hj=>upL_ne L (by intro e; subst e; rw [hb] at hj; simp at hj; exact hid hj.symm)

def cnt (L : Nat → Bool) : Nat → Nat
  | 0=>0
  | k + 1=>cnt L k + (if L k then 0 else 1)
theorem cnt_congr {L L' : Nat → Bool} : ∀ n,(∀ j,j < n → L j = L' j) → cnt L n = cnt L' n
  | 0,_=>rfl
  | k + 1,h=>by unfold cnt; rw [h k (by omega),cnt_congr k fun j hj=>h j (by omega)]
theorem cnt_up {L : Nat → Bool} {i : Nat} (hL : L i = false) : ∀ n,i < n → cnt (upL L i) n + 1 = cnt L n
  | 0,h=>by omega
  | k + 1,h=>by
    unfold cnt
    by_cases hk : k = i
    · subst hk
      rw [upL_self,hL,cnt_congr (L:=upL L k) (L':=L) k fun j hj=>upL_ne L (by omega)]
      simp
    · rw [upL_ne L hk]
      have:=cnt_up hL k (by omega)
      omega
theorem cnt_zero {L : Nat → Bool} : ∀ n,cnt L n = 0 → ∀ j,j < n → L j = true
  | 0,_,j,hj=>by omega
  | k + 1,h,j,hj=>by
    unfold cnt at h
    by_cases hk : j = k
    · subst hk
      cases hL : L j with
      | true=>rfl
      | false=>rw [hL] at h; simp at h
    · exact cnt_zero k (by omega) j (by omega)
theorem cnt_le (L : Nat → Bool) : ∀ n,cnt L n ≤ n
  | 0=>by simp [cnt]
  | k + 1=>by unfold cnt; have:=cnt_le L k; split <;> omega

/-- The same with more numbers born. -/
theorem Mon.bornS {w : World} {β : Nat → Option Loc} {b b' : Nat → Bool} (h : ∀ i,b i = true → b' i = true) : Mon w β b w β b' :=
  ⟨Nat.le_refl _,fun _ _ k=>⟨rfl,k⟩,fun _ _ k=>k,h,fun _ _ _ k=>k⟩
theorem HR.bornS {w0 w : World} {β : Nat → Option Loc} {b b' : Nat → Bool} {H : Heap} (h : ∀ i,b i = true → b' i = true) (k : HR w0 w β b H) : HR w0 w β b' H :=
  ⟨k.below,fun id z es he=>by obtain ⟨l,hl,hb⟩:=k.blk id z es he; exact ⟨l,hl,hb.mon (Mon.bornS h) rfl⟩,fun id l hl=>⟨(k.dom id l hl).1,(k.dom id l hl).2.1,h _ (k.dom id l hl).2.2⟩,k.inj⟩

theorem agd_congr {ops : Array Oper} {s s' : St} {o : Oper} (h : ∀ t ∈ o.looksAt ops,s'.env t = s.env t) (hn : s'.nt = s.nt) : agd ops s' o = agd ops s o:=by
  unfold agd
  cases hg : o.guard with
  | none=>rfl
  | some jw =>
    obtain ⟨j,want⟩:=jw
    simp only []
    cases ht : (ops[j]?).bind (·.dst) with
    | none=>rfl
    | some t =>
      simp only []
      rw [h t (by simp only [Oper.looksAt,hg,ht,Option.toList_some]; simp),hn]

theorem ev_looks {ops : Array Oper} {e e' : Nat → AV} {o : Oper} (h : ∀ t ∈ o.looksAt ops,e' t = e t) (x : Operand) (hx : x ∈ o.op.operands.toList) : ev e' x = ev e x:=by
  cases x with
  | tmp t=>exact h t (by simp only [Oper.looksAt,List.mem_append,List.mem_filterMap]; exact .inl ⟨_,hx,rfl⟩)
  | const v=>rfl
  | func f=>rfl
  | global g=>rfl

/-- All that is known of such a region. -/
structure DF (P : Program) (ops : Array Oper) (m : Nat) (s : St) (ef : Nat → Ef) : Prop where
  lt : ∀ (i : Nat) (o : Oper),ops[i]? = some o → ∀ j ∈ pre o,j < i
  chain : ∀ (i : Nat) (o : Oper),ops[i]? = some o → m ≤ i → o.guard = none ∧ (i = m ∨ i - 1 ∈ pre o)
  one : ∀ i d,dstOf ops i = some d → ∀ j,j < ops.size → j ≠ i → dstOf ops j ≠ some d
  look : ∀ (i : Nat) (o : Oper),ops[i]? = some o → ∀ t ∈ o.looksAt ops,∀ j,j < ops.size → dstOf ops j = some t → (j < i ∧ j ∈ pre o) ∨ (i < j ∧ ∀ p,ops[j]? = some p → i ∈ pre p)
  d1 : ∀ (i : Nat) (o : Oper),ops[i]? = some o → i < m → D1 P ops s i (eS ops ef s.env (fun _=>true) i) (hS ef s.heap (fun _=>true) i) o (ef i)
  d2 : ∀ (i : Nat) (o : Oper),ops[i]? = some o → m ≤ i → D2 P ops s ((List.range m).map ef) o { s with env:=eS ops ef s.env (fun _=>true) i,heap:=hS ef s.heap (fun _=>true) i } (ef i)
  dst : ∀ (i : Nat) (o : Oper),ops[i]? = some o → dstOk s o.dst = true
  old : ∀ id q,s.heap id = some q → id < s.nx
  msz : m ≤ ops.size


theorem D1.blk {P : Program} {ops : Array Oper} {s : St} {i : Nat} {e : Nat → AV} {H : Heap} {o : Oper} {f : Ef} (h : D1 P ops s i e H o f) : (f.blk = none ∨ ∃ z es,f.blk = some (s.nx + i,z,es)) ∧ f.q = qids e o:=by
  cases h <;> first | exact ⟨.inl rfl,rfl⟩ | exact ⟨.inr ⟨_,_,rfl⟩,rfl⟩

theorem HC.at {nx : Nat} {pl : List Nat} {id : Nat} : ∀ (l : List Ef) (j : Nat),HC nx pl id l j → ∀ k f,l[k]? = some f → j + k ∈ pl ∨ (id ∉ f.q ∧ id ≠ nx + (j + k))
  | [],_,_,k,f,hf=>by simp at hf
  | x :: r,j,h,0,f,hf=>by
    simp only [List.getElem?_cons_zero,Option.some.injEq] at hf; subst hf
    simpa using h.1
  | x :: r,j,h,k + 1,f,hf=>by
    have:=HC.at r (j + 1) h.2 k f (by simpa using hf)
    rw [show j + 1 + k = j + (k + 1) by omega] at this
    exact this

section
variable {P : Program} {ops : Array Oper} {m : Nat} {s : St} {ef : Nat → Ef} {L : Nat → Bool}
theorem DF.down (F : DF P ops m s ef) (hC : Closed ops L) {i : Nat} (hm : m ≤ i) : ∀ d,i + d < ops.size → L (i + d) = true → L i = true
  | 0,_,h=>h
  | d + 1,hlt,h=>by
    have ho : ops[i + (d + 1)]? = some ops[i + (d + 1)]:=by simp [hlt]
    have:=(F.chain _ _ ho (by omega)).2
    rcases this with h' | h'
    · omega
    · exact F.down hC hm d (by omega) (hC _ _ h ho _ h')

/-- What an operation looks at is what it would be in the text's order. -/
theorem DF.looks (F : DF P ops m s ef) (hC : Closed ops L) {i : Nat} {o : Oper} (ho : ops[i]? = some o) (hL : L i = false) (hp : ∀ j ∈ pre o,L j = true) (t : Nat) (ht : t ∈ o.looksAt ops) :
    eS ops ef s.env L ops.size t = eS ops ef s.env (fun _=>true) i t:=by
  have hi : i < ops.size:=(Array.getElem?_eq_some_iff.1 ho).1
  rw [eS_text (n:=ops.size) (by omega)]
  refine eS_congr _ fun j hj hd=>?_
  rcases F.look i o ho t ht j hj hd with ⟨h1,h2⟩ | ⟨h1,h2⟩
  · simp [h1,hp j h2]
  · have hoj : ops[j]? = some ops[j]:=by simp [hj]
    have : L j = false:=by
      cases hLj : L j with
      | false=>rfl
      | true=>rw [hC j _ hLj hoj i (h2 _ hoj)] at hL; simp at hL
    rw [this]; simp; omega

theorem DF.hc (F : DF P ops m s ef) {i k id z : Nat} {o : Oper} {es : List (List AV)} (ho : ops[i]? = some o) (hm : m ≤ i) (hb : (ef i).blk = some (id,z,es)) (hk : k < m) : (∀ L,Closed ops L → (∀ j ∈ pre o,L j = true) → L k = true) ∨ (id ∉ (ef k).q ∧ id ≠ s.nx + k):=by
  have:=F.d2 i o ho hm
  generalize ef i = f at this hb
  cases this with
  | val v h=>simp at hb
  | asg x hx=>simp at hb
  | sto pl id' z' es' hd h hpl hc =>
    simp only [Option.some.injEq,Prod.mk.injEq] at hb
    obtain ⟨rfl,rfl,rfl⟩:=hb
    have:=HC.at _ 0 hc k (ef k) (by simp [hk])
    rw [Nat.zero_add] at this
    exact this.imp (fun h L hC hp=>hpl L hC hp k h) id

/-- The blocks that an operation of the first part asks stand as they would in the text's order. -/
theorem DF.asks (F : DF P ops m s ef) (hC : Closed ops L) {i : Nat} {o : Oper} (ho : ops[i]? = some o) (hm : i < m) (hL : L i = false) (id : Nat) (hid : id ∈ (ef i).q) (hb : bL s.nx L id = true) {q : Nat × List (List AV)} (hq : hS ef s.heap (fun _=>true) i id = some q) :
    hS ef s.heap L ops.size id = some q:=by
  have hi : i < ops.size:=(Array.getElem?_eq_some_iff.1 ho).1
  rw [← hq,hS_text (n:=ops.size) (by omega)]
  refine hS_congr _ fun j hj hbj0=>?_
  have hoj : ops[j]? = some ops[j]:=by simp [hj]
  obtain ⟨⟨id',z,es⟩,hbj,rfl⟩:=Option.map_eq_some_iff.mp hbj0
  rcases Nat.lt_or_ge j m with h1 | h1
  · rcases (F.d1 j _ hoj h1).blk.1 with h2 | ⟨z',es',h2⟩
    · rw [h2] at hbj; simp at hbj
    · rw [h2] at hbj; simp only [Option.some.injEq,Prod.mk.injEq] at hbj
      obtain ⟨rfl,_,_⟩:=hbj
      have hLj : L j = true:=by
        simp only [bL,Bool.or_eq_true,decide_eq_true_eq] at hb
        rcases hb with hb | hb
        · omega
        · simpa using hb
      rw [hLj]
      have : j < i:=by
        rcases Nat.lt_trichotomy j i with h3 | h3 | h3
        · exact h3
        · subst h3; rw [hL] at hLj; simp at hLj
        · exfalso
          rw [hS_none] at hq
          · have:=F.old _ _ hq; simp only [] at this; omega
          · intro k hk _ hbk
            have hok : ops[k]? = some ops[k]:=by simp
            rcases (F.d1 k _ hok (by omega)).blk.1 with h4 | ⟨z4,es4,h4⟩
            · rw [h4] at hbk; simp at hbk
            · rw [h4] at hbk; simp at hbk; omega
      simp [this]
  · have h3 : L j = false:=by
      cases hLj : L j with
      | false=>rfl
      | true =>
        rcases F.hc hoj h1 hbj hm with h2 | h2
        · rw [h2 L hC (hC j _ hLj hoj)] at hL; simp at hL
        · exact absurd hid h2.1
    rw [h3]; simp; omega

/-- The block that a store writes stands as it would in the text's order. -/
theorem DF.there (F : DF P ops m s ef) (hC : Closed ops L) {i id z : Nat} {o : Oper} {es : List (List AV)} (ho : ops[i]? = some o) (hm : m ≤ i) (hL : L i = false) (hp : ∀ j ∈ pre o,L j = true) (hb : (ef i).blk = some (id,z,es)) :
    hS ef s.heap L ops.size id = hS ef s.heap (fun _=>true) i id:=by
  have hi : i < ops.size:=(Array.getElem?_eq_some_iff.1 ho).1
  rw [hS_text (n:=ops.size) (by omega)]
  refine hS_congr _ fun j hj hbj0=>?_
  have hoj : ops[j]? = some ops[j]:=by simp [hj]
  obtain ⟨⟨id',z',es'⟩,hbj,rfl⟩:=Option.map_eq_some_iff.mp hbj0
  by_cases h1 : j < i
  · simp only [h1,decide_true]
    rcases Nat.lt_or_ge j m with h2 | h2
    · rcases F.hc ho hm hb h2 with h3 | h3
      · exact h3 L hC hp
      · rcases (F.d1 j _ hoj h2).blk.1 with h4 | ⟨z'',es'',h4⟩
        · rw [h4] at hbj; simp at hbj
        · rw [h4] at hbj; simp only [Option.some.injEq,Prod.mk.injEq] at hbj
          exact absurd hbj.1.symm h3.2
    · rcases (F.chain i o ho hm).2 with h3 | h3
      · omega
      · have:=hp _ h3
        exact F.down hC h2 (i - 1 - j) (by omega) (by rw [show j + (i - 1 - j) = i - 1 by omega]; exact this)
  · have : L j = false:=by
      cases hLj : L j with
      | false=>rfl
      | true =>
        have:=F.down hC hm (j - i) (by omega) (by rw [show i + (j - i) = j by omega]; exact hLj)
        rw [this] at hL; simp at hL
    rw [this]; simp [h1]

/-- The blocks that an operation of the second part asks stand as they would in the text's order. -/
theorem DF.asks2 (F : DF P ops m s ef) (hC : Closed ops L) {i : Nat} {o : Oper} (ho : ops[i]? = some o) (hm : m ≤ i) (hL : L i = false) (hp : ∀ j ∈ pre o,L j = true) (id : Nat) (hb : bL s.nx L id = true) :
    hS ef s.heap L ops.size id = hS ef s.heap (fun _=>true) i id:=by
  have hi : i < ops.size:=(Array.getElem?_eq_some_iff.1 ho).1
  rw [hS_text (n:=ops.size) (by omega)]
  refine hS_congr _ fun j hj hbj0=>?_
  have hoj : ops[j]? = some ops[j]:=by simp [hj]
  obtain ⟨⟨id',z',es'⟩,hbj,rfl⟩:=Option.map_eq_some_iff.mp hbj0
  rcases Nat.lt_or_ge j m with h2 | h2
  · have hji : j < i:=by omega
    simp only [hji,decide_true]
    rcases (F.d1 j _ hoj h2).blk.1 with h4 | ⟨z'',es'',h4⟩
    · rw [h4] at hbj; simp at hbj
    · rw [h4] at hbj; simp only [Option.some.injEq,Prod.mk.injEq] at hbj
      obtain ⟨rfl,_,_⟩:=hbj
      simp only [bL,Bool.or_eq_true,decide_eq_true_eq] at hb
      rcases hb with hb | hb
      · omega
      · simpa using hb
  · by_cases h1 : j < i
    · simp only [h1,decide_true]
      rcases (F.chain i o ho hm).2 with h3 | h3
      · omega
      · exact F.down hC h2 (i - 1 - j) (by omega) (by rw [show j + (i - 1 - j) = i - 1 by omega]; exact hp _ h3)
    · have : L j = false:=by
        cases hLj : L j with
        | false=>rfl
        | true =>
          have:=F.down hC hm (j - i) (by omega) (by rw [show i + (j - i) = j by omega]; exact hLj)
          rw [this] at hL; simp at hL
      rw [this]; simp [h1]

theorem DF.addB (F : DF P ops m s ef) (hC : Closed ops L) {i : Nat} {o : Oper} (ho : ops[i]? = some o) (hL : L i = false) : hS ef s.heap (upL L i) ops.size = hupo (hS ef s.heap L ops.size) (ef i).blk:=by
  have hi : i < ops.size:=(Array.getElem?_eq_some_iff.1 ho).1
  refine hS_add hi fun id z es hb j hij hj hLj hbj0=>?_
  have hoj : ops[j]? = some ops[j]:=by simp [hj]
  obtain ⟨⟨id',z',es'⟩,hbj,rfl⟩:=Option.map_eq_some_iff.mp hbj0
  rcases Nat.lt_or_ge i m with h1 | h1
  · rcases (F.d1 i o ho h1).blk.1 with h2 | ⟨z2,es2,h2⟩
    · rw [h2] at hb; simp at hb
    · rw [h2] at hb; simp only [Option.some.injEq,Prod.mk.injEq] at hb
      rcases Nat.lt_or_ge j m with h3 | h3
      · rcases (F.d1 j _ hoj h3).blk.1 with h4 | ⟨z4,es4,h4⟩
        · rw [h4] at hbj; simp at hbj
        · rw [h4] at hbj; simp only [Option.some.injEq,Prod.mk.injEq] at hbj
          omega
      · rcases F.hc hoj h3 hbj h1 with h4 | h4
        · rw [h4 L hC (hC j _ hLj hoj)] at hL; simp at hL
        · exact h4.2 hb.1.symm
  · have:=F.down hC h1 (j - i) (by omega) (by rw [show i + (j - i) = j by omega]; exact hLj)
    rw [this] at hL; simp at hL

theorem Closed.up (hC : Closed ops L) {i : Nat} {o : Oper} (ho : ops[i]? = some o) (hp : ∀ j ∈ pre o,L j = true) : Closed ops (upL L i):=by
  intro k p hk hop j hj
  unfold upL
  by_cases hki : k = i
  · subst hki
    rw [ho] at hop; simp only [Option.some.injEq] at hop; subst hop
    simp [hp j hj]
  · rw [upL_ne L hki] at hk
    simp [hC k p hk hop j hj]
end
end Go.Proofs.YtjbbbkfdcegfmaaGreat
