/- Regions that draw their order at first, and then have none to draw. -/
import Derived.Test.YtjbbbkfdcegfmaaGreatG0T

namespace Go.Proofs.YtjbbbkfdcegfmaaGreat
open Go Go.RowKit

/-- Everything ahead of operation n stands ahead of it, and behind it each ahead of the next. -/
def tailOk (ops : Array Oper) (n : Nat) : Bool :=
  decide (n < ops.size) && ((List.range ops.size).all fun i=>match ops[i]? with
    | none=>false
    | some o=>((pre o).all fun j=>decide (j < i)) && (if i < n then (match o.guard with | none=>true | some (g,_)=>decide (g < n)) && (List.range (n + 1)).any (fun k=>decide (i < k) && (match ops[k]? with | some p=>(pre p).contains i | none=>false))
      else i == n || (pre o).contains (i - 1)))

section
variable {P : Program} {ops : Array Oper} {n : Nat}
structure TO (ops : Array Oper) (n : Nat) : Prop where
  lt : n < ops.size
  pre : ∀ (i : Nat) (o : Oper),ops[i]? = some o → ∀ j ∈ pre o,j < i
  grd : ∀ (i : Nat) (o : Oper),ops[i]? = some o → i < n → ∀ g b,o.guard = some (g,b) → g < n
  up : ∀ i,i < n → ∃ k p,i < k ∧ k ≤ n ∧ ops[k]? = some p ∧ i ∈ YtjbbbkfdcegfmaaGreat.pre p
  chain : ∀ (i : Nat) (o : Oper),ops[i]? = some o → n < i → i - 1 ∈ YtjbbbkfdcegfmaaGreat.pre o
theorem TO.of (h : tailOk ops n = true) : TO ops n:=by
  unfold tailOk at h
  simp only [Bool.and_eq_true,decide_eq_true_eq] at h
  have key : ∀ (i : Nat) (o : Oper),ops[i]? = some o → _:=fun i o ho=>by
    have hi : i < ops.size:=(Array.getElem?_eq_some_iff.1 ho).1
    have:=List.all_eq_true.mp h.2 i (List.mem_range.mpr hi)
    rw [ho] at this
    simp only [Bool.and_eq_true] at this
    exact this
  refine ⟨h.1,fun i o ho j hj=>?_,fun i o ho hi g b hg=>?_,fun i hi=>?_,fun i o ho hi=>?_⟩
  · have:=List.all_eq_true.mp (key i o ho).1 j hj
    simpa using this
  · have:=(key i o ho).2
    rw [if_pos hi,hg] at this
    simp only [Bool.and_eq_true,decide_eq_true_eq] at this
    exact this.1
  · have ho : ops[i]? = some (ops[i]'(by omega)):=by simp
    have:=(key i _ ho).2
    rw [if_pos hi] at this
    simp only [Bool.and_eq_true,List.any_eq_true,decide_eq_true_eq] at this
    obtain ⟨k,hk,hik,hp⟩:=this.2
    have hkn:=List.mem_range.mp hk
    have hok : ops[k]? = some (ops[k]'(by omega)):=by simp
    rw [hok] at hp
    exact ⟨k,_,hik,by omega,hok,by simpa using hp⟩
  · have:=(key i o ho).2
    rw [if_neg (by omega)] at this
    simp only [Bool.or_eq_true,beq_iff_eq,List.contains_iff_mem] at this
    rcases this with h1 | h1
    · omega
    · exact h1

theorem Ld_ready {listed : Array Bool} {i : Nat} (h : i ∈ Region.ready .any ops listed) : ∃ o,ops[i]? = some o ∧ i < listed.size ∧ Ld listed i = false ∧ ∀ j ∈ pre o,Ld listed j = true:=by
  obtain ⟨h1,o,ho,h2⟩:=mem_ready.mp h
  refine ⟨o,ho,?_,?_,pre_listed h2⟩
  · rcases Nat.lt_or_ge i listed.size with h' | h'
    · exact h'
    · simp [Array.getElem?_eq_none h'] at h1
  · have hl : i < listed.size:=by
      rcases Nat.lt_or_ge i listed.size with h' | h'
      · exact h'
      · simp [Array.getElem?_eq_none h'] at h1
    unfold Ld; simp [hl] at h1 ⊢; exact h1
theorem ready_Ld {listed : Array Bool} {i : Nat} {o : Oper} (ho : ops[i]? = some o) (hl : i < listed.size) (hi : Ld listed i = false) (hp : ∀ j ∈ pre o,Ld listed j = true) : i ∈ Region.ready .any ops listed :=
  mem_ready.mpr ⟨by unfold Ld at hi; simp [hl] at hi ⊢; exact hi,o,ho,listed_pre hp⟩

theorem TO.all (T : TO ops n) {L : Nat → Bool} (hC : Closed ops L) {o : Oper} (ho : ops[n]? = some o) (hp : ∀ j ∈ YtjbbbkfdcegfmaaGreat.pre o,L j = true) : ∀ d j,j + d + 1 = n → L j = true:=by
  intro d
  induction d using Nat.strongRecOn with
  | _ d ih =>
    intro j hj
    obtain ⟨k,p,h1,h2,h3,h4⟩:=T.up j (by omega)
    by_cases hk : k = n
    · subst hk; rw [ho] at h3; simp only [Option.some.injEq] at h3; subst h3; exact hp j h4
    · exact hC k p (ih (n - k - 1) (by omega) k (by omega)) h3 j h4
/-- The tail, one behind the other. -/
theorem TO.tail (T : TO ops n) {Q : Exit → Act → World → Prop} : ∀ (rest : List Oper) (i fuel : Nat) (listed : Array Bool) (a : Act) (w : World),n ≤ i → ops.toList.drop i = rest → i ≤ ops.size → listed.size = ops.size → (∀ j,j < ops.size → Ld listed j = decide (j < i)) → rest.length ≤ fuel →
    wpList P ops Q rest a w → wpAny P .any ops Q fuel listed a w
  | [],i,fuel,listed,a,w,hn,hr,hi,hs,hL,hf,h=>by
    have hie : i = ops.size:=by
      have:=congrArg List.length hr
      simp at this; omega
    have hnil : Region.ready .any ops listed = []:=by
      cases hr2 : Region.ready .any ops listed with
      | nil=>rfl
      | cons x xs =>
        exfalso
        obtain ⟨o,ho,h1,h2,_⟩:=Ld_ready (ops:=ops) (listed:=listed) (i:=x) (by rw [hr2]; simp)
        have hx : x < ops.size:=(Array.getElem?_eq_some_iff.1 ho).1
        rw [hL x hx] at h2; simp at h2; omega
    have hq : Q .normal a w:=h
    cases fuel with
    | zero=>exact ⟨hnil,hq⟩
    | succ f=>exact ⟨fun _=>hq,fun x hx=>by rw [hnil] at hx; simp at hx⟩
  | o :: rest,i,0,listed,a,w,hn,hr,hi,hs,hL,hf,h=>by simp at hf
  | o :: rest,i,fuel + 1,listed,a,w,hn,hr,hi,hs,hL,hf,h=>by
    have hio : ops[i]? = some o:=by
      have:=congrArg (fun l=>l[0]?) hr
      simpa using this
    have hlt : i < ops.size:=(Array.getElem?_eq_some_iff.1 hio).1
    have hin : i ∈ Region.ready .any ops listed:=ready_Ld hio (by omega) (by rw [hL i hlt]; simp) fun j hj=>by
      have:=T.pre i o hio j hj
      rw [hL j (by omega)]; simpa using this
    refine ⟨fun e=>by rw [e] at hin; simp at hin,fun x hx=>?_⟩
    obtain ⟨p,hp,h1,h2,h3⟩:=Ld_ready hx
    have hxs : x < ops.size:=(Array.getElem?_eq_some_iff.1 hp).1
    rw [hL x hxs] at h2
    have hxi : i ≤ x:=by simpa using h2
    have hxe : x = i:=by
      rcases Nat.lt_or_ge i x with h' | h'
      · have:=h3 _ (T.chain x p hp (by omega))
        rw [hL _ (by omega)] at this
        simp at this; omega
      · omega
    subst hxe
    rw [hio] at hp; simp only [Option.some.injEq] at hp; subst hp
    have hrest : ∀ a' w',wpList P ops Q rest a' w' → wpAny P .any ops Q fuel (listed.setIfInBounds x true) a' w':=fun a' w' hw=>by
      refine TO.tail T rest (x + 1) fuel _ a' w' (by omega) ?_ (by omega) (by simpa using hs) (fun j hj=>?_) (by simpa using hf) hw
      · have:=congrArg (List.drop 1) hr
        simpa [Nat.add_comm] using this
      · rw [Ld_set (by omega)]
        unfold upL
        rw [hL j hj,Bool.eq_iff_iff]
        simp; omega
    unfold wpOp
    simp only [hio]
    unfold wpList at h
    split at h
    · rename_i hw
      simp only [hw,if_true]
      exact h.imp (Oper.wp_mono hrest) id
    · rename_i hw
      simp only [hw]
      exact hrest _ _ h
theorem upon_swap2 {o : Oper} {a : Act} {K K2 : Act → World → Prop} {Q : Exit → Act → World → Prop} {r : Result Next} (h : o.upon P a K (swapQ K2 Q) r) : o.upon P a K Q r:=by
  unfold Oper.upon at *
  split at h <;> try exact h
  all_goals first | exact h | exact Calls.mono h (fun e w hh=>by cases e <;> exact hh)
theorem ext_get {i : Nat} (hi : i < n) : (ops.extract 0 n)[i]? = ops[i]?:=by
  rw [Array.getElem?_extract]
  by_cases h : i < min n ops.size
  · rw [if_pos (by omega)]; simp
  · rw [if_neg (by omega),Array.getElem?_eq_none (by omega)]
/-- The first part in any order, then the tail. -/
theorem TO.go (T : TO ops n) {Q : Exit → Act → World → Prop} : ∀ (fuel : Nat) (listed : Array Bool) (lp : Array Bool) (a : Act) (w : World),listed.size = ops.size → lp.size = n → (∀ j,j < n → Ld lp j = Ld listed j) → (∀ j,n ≤ j → Ld listed j = false) → Closed ops (Ld listed) →
    wpAny P .any (ops.extract 0 n) (swapQ (fun a w=>wpList P ops Q (ops.toList.drop n) a w) Q) fuel lp a w → wpAny P .any ops Q (fuel + (ops.size - n)) listed a w:=by
  have hn:=T.lt
  have hnop : ops[n]? = some ops[n]:=by simp [hn]
  -- the tail, when the first part is done
  have hend : ∀ (fuel : Nat) (listed : Array Bool) (lp : Array Bool) (a : Act) (w : World),listed.size = ops.size → lp.size = n → (∀ j,j < n → Ld lp j = Ld listed j) → (∀ j,n ≤ j → Ld listed j = false) →
      Region.ready .any (ops.extract 0 n) lp = [] → wpList P ops Q (ops.toList.drop n) a w → wpAny P .any ops Q (fuel + (ops.size - n)) listed a w:=by
    intro fuel listed lp a w hs hlp hj ht hr hw
    have hall : ∀ j,j < n → Ld lp j = true:=by
      intro j
      induction j using Nat.strongRecOn with
      | _ j ih =>
        intro hjn
        cases hL : Ld lp j with
        | true=>rfl
        | false =>
          exfalso
          have ho : ops[j]? = some (ops[j]'(by omega)):=by simp
          have:=ready_Ld (ops:=ops.extract 0 n) (listed:=lp) (i:=j) (o:=ops[j]'(by omega)) (by rw [ext_get hjn]; exact ho) (by omega) hL fun k hk=>ih k (T.pre j _ ho k hk) (by have:=T.pre j _ ho k hk; omega)
          rw [hr] at this; simp at this
    refine T.tail _ n _ listed a w (Nat.le_refl _) rfl (by omega) hs (fun j hjs=>?_) (by simp) hw
    rcases Nat.lt_or_ge j n with h1 | h1
    · rw [← hj j h1,hall j h1]; simp [h1]
    · rw [ht j h1]; simp [h1]
  intro fuel
  induction fuel with
  | zero =>
    intro listed lp a w hs hlp hj ht hC h
    exact hend 0 listed lp a w hs hlp hj ht h.1 h.2
  | succ fuel ih =>
    intro listed lp a w hs hlp hj ht hC h
    by_cases hr : Region.ready .any (ops.extract 0 n) lp = []
    · exact hend (fuel + 1) listed lp a w hs hlp hj ht hr (h.1 hr)
    · have hmem : ∀ x,x ∈ Region.ready .any ops listed ↔ x ∈ Region.ready .any (ops.extract 0 n) lp:=by
        intro x
        constructor
        · intro hx
          obtain ⟨o,ho,h1,h2,h3⟩:=Ld_ready hx
          have hxs : x < ops.size:=(Array.getElem?_eq_some_iff.1 ho).1
          rcases Nat.lt_trichotomy x n with hxn | hxn | hxn
          · exact ready_Ld (by rw [ext_get hxn]; exact ho) (by omega) (by rw [hj x hxn]; exact h2) fun k hk=>by
              have:=T.pre x o ho k hk
              rw [hj k (by omega)]; exact h3 k hk
          · exfalso
            subst hxn
            refine hr ?_
            cases hr2 : Region.ready .any (ops.extract 0 x) lp with
            | nil=>rfl
            | cons y ys =>
              exfalso
              obtain ⟨p,hp,k1,k2,_⟩:=Ld_ready (ops:=ops.extract 0 x) (listed:=lp) (i:=y) (by rw [hr2]; simp)
              have hy : y < x:=by omega
              have:=T.all hC ho h3 (x - y - 1) y (by omega)
              rw [hj y hy] at k2
              rw [this] at k2; simp at k2
          · exfalso
            have:=h3 _ (T.chain x o ho hxn)
            rw [ht _ (by omega)] at this; simp at this
        · intro hx
          obtain ⟨o,ho,h1,h2,h3⟩:=Ld_ready hx
          have hxn : x < n:=by omega
          rw [ext_get hxn] at ho
          exact ready_Ld ho (by omega) (by rw [← hj x hxn]; exact h2) fun k hk=>by
            have:=T.pre x o ho k hk
            rw [← hj k (by omega)]; exact h3 k hk
      rw [show fuel + 1 + (ops.size - n) = (fuel + (ops.size - n)) + 1 by omega]
      refine ⟨fun e=>?_,fun x hx=>?_⟩
      · exfalso
        refine hr ?_
        cases hr2 : Region.ready .any (ops.extract 0 n) lp with
        | nil=>rfl
        | cons y ys =>
          have:=(hmem y).mpr (by rw [hr2]; simp)
          rw [e] at this; simp at this
      · have hx':=(hmem x).mp hx
        have h1:=h.2 x hx'
        obtain ⟨o,ho,k1,k2,k3⟩:=Ld_ready hx'
        have hxn : x < n:=by omega
        have ho':=ho
        rw [ext_get hxn] at ho'
        have hrest : ∀ a' w',wpAny P .any (ops.extract 0 n) (swapQ (fun a w=>wpList P ops Q (ops.toList.drop n) a w) Q) fuel (lp.setIfInBounds x true) a' w' → wpAny P .any ops Q (fuel + (ops.size - n)) (listed.setIfInBounds x true) a' w':=fun a' w' hw=>by
          refine ih _ _ a' w' (by simpa using hs) (by simpa using hlp) (fun j hjn=>?_) (fun j hjn=>?_) ?_ hw
          · rw [Ld_set (by omega),Ld_set (by omega)]; unfold upL; rw [hj j hjn]
          · rw [Ld_set (by omega)]; unfold upL; rw [ht j hjn]; simp; omega
          · rw [Ld_set (by omega)]
            exact hC.up ho' fun k hk=>by
              have:=T.pre x o ho' k hk
              rw [← hj k (by omega)]; exact k3 k hk
        have hwant : Region.wanted o (yielded (ops.extract 0 n) a.tmps) = Region.wanted o (yielded ops a.tmps):=by
          unfold Region.wanted
          cases hg : o.guard with
          | none=>rfl
          | some gb =>
            obtain ⟨g,b⟩:=gb
            have hgn:=T.grd x o ho' hxn g b hg
            simp only [yielded,ext_get hgn]
        unfold wpOp at h1 ⊢
        rw [ho] at h1
        simp only [ho'] at h1 ⊢
        rw [hwant] at h1
        split
        · rename_i hw
          simp only [hw,if_true] at h1
          rcases h1 with h1 | h1
          · exact .inl (Oper.wp_mono hrest (upon_swap2 h1))
          · exact .inr ⟨h1.1,h1.2⟩
        · rename_i hw
          simp only [hw] at h1
          exact hrest _ _ h1
/-- A region that draws its order up to operation n; from there on it has none to draw. -/
theorem AWP.drawT {id : Nat} {K : Exit → St → Prop} {s : St} {l : List Oper} (n : Nat) (hm : P.follows .mixedOrders = true) (ht : tailOk l.toArray n = true) (hc : drawOk (l.take n).toArray n = true)
    (h : DP P (l.take n).toArray s (l.take n) 0 s.env s.heap fun e H _=>AOPS P l.toArray (l.drop n) (fun s'=>K .normal s') { env:=e,heap:=H,nx:=s.nx + n,nt:=s.nt }) : AWP P (.region id l.toArray true) K s:=by
  have T:=TO.of ht
  have hn : n < l.length:=by simpa using T.lt
  have hex : l.toArray.extract 0 n = (l.take n).toArray:=by simp
  intro w0 w β a Q hs hq
  refine wp_region_any hm ?_
  have hlen : (l.take n).toArray.size = n:=by simp; omega
  have hA:=AANY.draw (P:=P) (s:=s) (ops:=(l.take n).toArray) (K:=fun s'=>AOPS P l.toArray (l.drop n) (fun s'=>K .normal s') s') n hc (by omega) (by
    have e1 : (l.take n).toArray.toList.take n = l.take n:=by show (l.take n).take n = _; rw [List.take_take,Nat.min_self]
    have e2 : (l.take n).toArray.toList.drop n = []:=by simp
    rw [e1,e2]
    simp only [DQ,hlen]
    exact h) w0 w β a (swapQ (fun a w=>wpList P l.toArray Q (l.toArray.toList.drop n) a w) Q) hs (fun w' β' a' s' k hs' hm'=>by
      show wpList P l.toArray Q (l.drop n) a' w'
      exact k w0 w' β' a' Q hs' fun w'' β'' a'' s'' k2 hs'' hm''=>hq .normal w'' β'' a'' s'' k2 hs'' (hm'.trans hm''))
  rw [hlen,← hex] at hA
  have h0 : ∀ (k j : Nat),Ld (Array.replicate k false) j = false:=fun k j=>by
    unfold Ld
    simp only [Array.getD_eq_getD_getElem?,Array.getElem?_replicate]
    split <;> rfl
  have:=T.go (P:=P) (Q:=Q) n (Array.replicate l.toArray.size false) (Array.replicate n false) a w.drew (by simp) (by simp) (fun j _=>by rw [h0,h0]) (fun j _=>h0 _ _) (fun i o hi=>by rw [h0] at hi; simp at hi) hA
  rw [show n + (l.toArray.size - n) = l.toArray.size by simp; omega] at this
  exact this
end
end Go.Proofs.YtjbbbkfdcegfmaaGreat
