/- Segments that meet: the plain law. -/
import Derived.Test.YtdcajfgeleopiaaGreatG0Y

namespace Go.Proofs.YtdcajfgeleopiaaGreat
open Go Go.RowKit

def leS (p q : Sp) : Prop := p.x < q.x ∨ (p.x = q.x ∧ p.y ≤ q.y)
theorem on_spot {s : Sg} {p : Sp} (h : s.good = true) (hp : p.good = true) : onF s (ptS p) = true ↔ leS s.a p ∧ leS p s.b ∧ crs s.a s.b p = 0 := by
  obtain ⟨v1, v2, v3⟩ := ptS_v hp
  rw [on_iff h]
  have e : sdZ s (ptS p) = crs s.a s.b p := by unfold sdZ crs; rw [v1, v2, v3, Int.mul_one, Int.mul_one]
  rw [e, v1, v2, v3, Int.mul_one, Int.mul_one, Int.mul_one, Int.mul_one]
  exact Iff.rfl
theorem low_c (s t : Sg) : (lowS s t = s.a ∨ lowS s t = t.a) ∧ leS s.a (lowS s t) ∧ leS t.a (lowS s t) := by
  unfold lowS leS; split
  · rename_i h; rw [lsS_if] at h; exact ⟨Or.inr rfl, by omega, by omega⟩
  · rename_i h; rw [lsS_if] at h; exact ⟨Or.inl rfl, by omega, by omega⟩
theorem high_c (s t : Sg) : (highS s t = s.b ∨ highS s t = t.b) ∧ leS (highS s t) s.b ∧ leS (highS s t) t.b := by
  unfold highS leS; split
  · rename_i h; rw [lsS_if] at h; exact ⟨Or.inr rfl, by omega, by omega⟩
  · rename_i h; rw [lsS_if] at h; exact ⟨Or.inl rfl, by omega, by omega⟩
theorem lin_on {s t : Sg} (hs : s.good = true) (ht : t.good = true) (h0 : crs s.a s.b t.a = 0 ∧ crs s.a s.b t.b = 0) (hl : ¬ lsS (highS s t) (lowS s t) = true) :
    ((lowS s t).good = true ∧ (highS s t).good = true) ∧ (onF s (ptS (lowS s t)) = true ∧ onF t (ptS (lowS s t)) = true) ∧ (onF s (ptS (highS s t)) = true ∧ onF t (ptS (highS s t)) = true) := by
  obtain ⟨l0, l1, l2⟩ := low_c s t
  obtain ⟨g0, g1, g2⟩ := high_c s t
  have hc := col_sym hs h0
  rw [lsS_if] at hl
  have gl : (lowS s t).good = true := by rcases l0 with e | e <;> rw [e]; exact good_a hs; exact good_a ht
  have gg' : (highS s t).good = true := by rcases g0 with e | e <;> rw [e]; exact good_b hs; exact good_b ht
  have c1 : crs s.a s.b (lowS s t) = 0 := by rcases l0 with e | e <;> rw [e]; exact crs_l _ _; exact h0.1
  have c2 : crs t.a t.b (lowS s t) = 0 := by rcases l0 with e | e <;> rw [e]; exact hc.1; exact crs_l _ _
  have c3 : crs s.a s.b (highS s t) = 0 := by rcases g0 with e | e <;> rw [e]; exact crs_r _ _; exact h0.2
  have c4 : crs t.a t.b (highS s t) = 0 := by rcases g0 with e | e <;> rw [e]; exact hc.2; exact crs_r _ _
  rw [on_spot hs gl, on_spot ht gl, on_spot hs gg', on_spot ht gg']
  generalize lowS s t = l at *
  generalize highS s t = g at *
  unfold leS at *
  refine ⟨⟨gl, gg'⟩, ⟨⟨l1, by omega, c1⟩, ⟨l2, by omega, c2⟩⟩, ⟨⟨by omega, g1, c3⟩, ⟨by omega, g2, c4⟩⟩⟩
/-- What a meeting tells. -/
theorem meet_one {s t : Sg} (hs : s.good = true) (ht : t.good = true) (h : (meetI s t).1 = 1) : (meetI s t).2.1.good = true ∧ onF s (meetI s t).2.1 = true ∧ onF t (meetI s t).2.1 = true := by
  rw [meet_eq hs ht] at h ⊢
  unfold meetS at h ⊢
  by_cases h0 : crs s.a s.b t.a = 0 ∧ crs s.a s.b t.b = 0
  · rw [if_pos h0] at h ⊢
    unfold linP at h ⊢
    split at h
    · simp at h
    · rename_i hl
      split at h
      · rename_i he
        rw [if_neg hl, if_pos he]
        obtain ⟨⟨a, _⟩, ⟨b, c⟩, _⟩ := lin_on hs ht h0 hl
        exact ⟨ptS_gd a, b, c⟩
      · simp at h
  · rw [if_neg h0] at h ⊢
    split at h
    · simp at h
    · rename_i hn
      rw [if_neg hn]
      have hn' : noWay s t = false := by simpa using hn
      obtain ⟨hw, _⟩ := way_apart (good_ls hs) (good_ls ht) h0 hn'
      have e1 : mkP (wayX2 s t) (wayY2 s t) (denS s t) = mkP (wayX s t) (wayY s t) (wayW s t) := by rw [den_w, x_x, y_y, mkP_neg hw]
      simp only [e1]
      exact cross_on hs ht h0 hn'
theorem meet_two {s t : Sg} (hs : s.good = true) (ht : t.good = true) (h : (meetI s t).1 = 2) :
    (cmV (meetI s t).2.1 (meetI s t).2.2 < 0 ∧ (meetI s t).2.1.good = true ∧ (meetI s t).2.2.good = true) ∧ (onF s (meetI s t).2.1 = true ∧ onF t (meetI s t).2.1 = true) ∧ (onF s (meetI s t).2.2 = true ∧ onF t (meetI s t).2.2 = true) ∧ crs s.a s.b t.a = 0 ∧ crs s.a s.b t.b = 0 := by
  rw [meet_eq hs ht] at h ⊢
  unfold meetS at h ⊢
  by_cases h0 : crs s.a s.b t.a = 0 ∧ crs s.a s.b t.b = 0
  · rw [if_pos h0] at h ⊢
    unfold linP at h ⊢
    split at h
    · simp at h
    · rename_i hl
      split at h
      · simp at h
      · rename_i he
        rw [if_neg hl, if_neg he]
        obtain ⟨⟨a, a'⟩, b, c⟩ := lin_on hs ht h0 hl
        refine ⟨⟨?_, ptS_gd a, ptS_gd a'⟩, b, c, h0⟩
        obtain ⟨v1, v2, v3⟩ := ptS_v a
        obtain ⟨w1, w2, w3⟩ := ptS_v a'
        rw [lsS_if] at hl
        have hx := cm_lt (a := (lowS s t).x) (b := (highS s t).x)
        have hx0 := cm_eq (a := (lowS s t).x) (b := (highS s t).x)
        have hy := cm_lt (a := (lowS s t).y) (b := (highS s t).y)
        simp only []
        unfold cmV cmX cmY
        rw [v1, v2, v3, w1, w2, w3, Int.mul_one, Int.mul_one, Int.mul_one, Int.mul_one]
        generalize lowS s t = l at *
        generalize highS s t = g at *
        have hne : ¬ (l.x = g.x ∧ l.y = g.y) := fun k => he (by obtain ⟨lx, ly⟩ := l; obtain ⟨gx, gy⟩ := g; simp only [Sp.mk.injEq] at *; exact k)
        split <;> omega
  · rw [if_neg h0] at h ⊢
    split at h <;> simp at h
end Go.Proofs.YtdcajfgeleopiaaGreat

/- On which side of a ring a point is. -/
namespace Go.Proofs.YtdcajfgeleopiaaGreat
open Go Go.RowKit

def rgE (r : List Sp) : List (Pt × Pt) := (List.range r.length).map fun i => (ptS (gs r i), ptS (nx1 r i))
def rgV (r : List Sp) (p : Pt) : Int := sdv (sdGo btI cuI p (rgE r) false)
theorem rgE_drop {r : List Sp} {i : Nat} (h : i < r.length) : (rgE r).drop i = (ptS (gs r i), ptS (nx1 r i)) :: (rgE r).drop (i + 1) := by
  have hl : i < (rgE r).length := by simp [rgE]; exact h
  rw [List.drop_eq_getElem_cons hl]
  simp [rgE]
theorem rgE_end {r : List Sp} {i : Nat} (h : r.length ≤ i) : (rgE r).drop i = [] := List.drop_eq_nil_of_le (by simp [rgE]; exact h)
theorem bt_sym (p q r : Pt) : btI q p r = btI p q r := by
  have a1 := cmV_anti q r
  have a2 := cmV_anti p r
  have hd : sg3 (det q p r) = -sg3 (det p q r) := by rw [det_swap, sg3_neg]
  have e1 : cmV r q = -cmV q r := a1
  have e2 : cmV r p = -cmV p r := a2
  unfold btI
  rw [hd, e1, e2]
  have e3 : cmV q r * -cmV p r = cmV p r * -cmV q r := by grind
  rw [e3]
  have e4 : decide (-sg3 (det p q r) = 0) = decide (sg3 (det p q r) = 0) := by rw [Bool.eq_iff_iff]; simp
  rw [e4, Bool.or_comm (pteq q r)]
theorem cu_sym (a b p : Pt) : cuI b a p = cuI a b p := by
  unfold cuI
  generalize decide (sg3 (det b a p) > 0) = d
  generalize decide (sg3 (det a b p) > 0) = e
  cases decide (cmY a p > 0) <;> cases decide (cmY b p > 0) <;> rfl
theorem side_eq {a b : Sp} {p : Pt} (ga : a.good = true) (gb : b.good = true) (hp : p.ok) (gp : p.good = true) :
    btS (ptS (segO a b).a) (ptS (segO a b).b) p = btI (ptS a) (ptS b) p ∧ cuS (ptS (segO a b).a) (ptS (segO a b).b) p = cuI (ptS a) (ptS b) p := by
  have oa : ∀ q : Sp, (ptS q).ok := fun q => pt3_ok _ _ _
  unfold segO
  split
  · simp only []
    rw [← bt_eq (oa b) (oa a) hp (ptS_gd gb) (ptS_gd ga) gp, ← cu_eq (ptS_gd gb) (ptS_gd ga) gp, bt_sym, cu_sym]
    exact ⟨rfl, rfl⟩
  · simp only []
    rw [← bt_eq (oa a) (oa b) hp (ptS_gd ga) (ptS_gd gb) gp, ← cu_eq (ptS_gd ga) (ptS_gd gb) gp]
    exact ⟨rfl, rfl⟩
theorem rgV_b (r : List Sp) (p : Pt) : rgV r p = -1 ∨ rgV r p = 0 ∨ rgV r p = 1 := by
  unfold rgV sdv; split
  · exact .inr (.inl rfl)
  · exact .inr (.inr rfl)
  · exact .inl rfl
noncomputable def rgSV (r : List Sp) (p : Pt) : Int := if rgF r = 0 then (if p.good = true then rgV r p else 2) else 2
theorem rgSV_ok {r : List Sp} {p : Pt} (h : rgF r = 0) (g : p.good = true) : rgSV r p = rgV r p := by unfold rgSV; rw [if_pos h, if_pos g]
theorem rgSV_no {r : List Sp} {p : Pt} (h : ¬ rgF r = 0) : rgSV r p = 2 := by unfold rgSV; rw [if_neg h]
theorem rgSV_np {r : List Sp} {p : Pt} (g : p.good = false) : rgSV r p = 2 := by unfold rgSV; rw [g]; split <;> rfl
/-- Does a ring lie within another one? -/
noncomputable def rgI (a b : List Sp) : Bool := !rgsM a b && decide (rgV b (ptS (gs a 0)) = 1)
noncomputable def rgIn (a b : List Sp) : Bool := decide (rgF a = 0) && (decide (rgF b = 0) && rgI a b)
end Go.Proofs.YtdcajfgeleopiaaGreat

/- Layers: faults, sides, depths, areas. -/
namespace Go.Proofs.YtdcajfgeleopiaaGreat
open Go Go.RowKit

def gr (L : List (List Sp)) (i : Nat) : List Sp := L.getD i []
theorem gr_get {L : List (List Sp)} {i : Nat} (h : i < L.length) : L[i]? = some (gr L i) := by simp [gr, h]
theorem gr_mem {L : List (List Sp)} {i : Nat} (h : i < L.length) : gr L i ∈ L := List.mem_of_getElem? (gr_get h)
theorem drop_gr {L : List (List Sp)} {i : Nat} (h : i < L.length) : L.drop i = gr L i :: L.drop (i + 1) := by
  rw [List.drop_eq_getElem_cons h]; simp [gr, h]
theorem take_gr {L : List (List Sp)} {i : Nat} (h : i < L.length) : L.take (i + 1) = L.take i ++ [gr L i] := by
  rw [List.take_add_one, gr_get h]; rfl
def lyN : List (List Sp) → Nat
  | [] => 0
  | r :: R => r.length + lyN R
theorem lyN_app : ∀ (L M : List (List Sp)), lyN (L ++ M) = lyN L + lyN M
  | [], M => by simp [lyN]
  | r :: R, M => by simp only [List.cons_append, lyN, lyN_app R M]; omega
theorem lyN_step {L : List (List Sp)} {i : Nat} (h : i < L.length) : lyN (L.take (i + 1)) = lyN (L.take i) + (gr L i).length := by
  rw [take_gr h, lyN_app]; simp [lyN]
theorem lyN_b {c : Nat} : ∀ (L : List (List Sp)), (∀ r ∈ L, r.length ≤ c) → lyN L ≤ c * L.length
  | [], _ => by simp [lyN]
  | r :: R, h => by
    have h1 := h r (by simp)
    have h2 := lyN_b R fun x hx => h x (by simp [hx])
    simp only [lyN, List.length_cons, Nat.mul_succ]; omega
theorem lyN_take_b {c : Nat} (L : List (List Sp)) (i : Nat) (h : ∀ r ∈ L, r.length ≤ c) (hi : i ≤ L.length) : lyN (L.take i) ≤ c * i := by
  have := lyN_b (c := c) (L.take i) fun r hr => h r (List.mem_of_mem_take hr)
  rw [List.length_take, Nat.min_eq_left hi] at this; exact this
noncomputable def lyA : List (List Sp) → Nat → Option (Int × Int)
  | [], _ => none
  | r :: R, i => if rgF r = 0 then lyA R (i + 1) else some (10 + rgF r, (i : Int))
noncomputable def lyB : List (List Sp) → List (List Sp) → Nat → Option (Int × Int)
  | _, [], _ => none
  | pre, r :: R, i => if pre.any (rgsM r) = true then some (3, (i : Int)) else lyB (pre ++ [r]) R (i + 1)
theorem lyA_step {L : List (List Sp)} {i : Nat} (h : i < L.length) : lyA (L.drop i) i = if rgF (gr L i) = 0 then lyA (L.drop (i + 1)) (i + 1) else some (10 + rgF (gr L i), (i : Int)) := by rw [drop_gr h, lyA]
theorem lyA_end {L : List (List Sp)} {i : Nat} (h : L.length ≤ i) : lyA (L.drop i) i = none := by rw [List.drop_eq_nil_of_le h]; rfl
theorem lyB_step {L : List (List Sp)} {i : Nat} (h : i < L.length) : lyB (L.take i) (L.drop i) i = if (L.take i).any (rgsM (gr L i)) = true then some (3, (i : Int)) else lyB (L.take (i + 1)) (L.drop (i + 1)) (i + 1) := by rw [drop_gr h, lyB, take_gr h]
theorem lyB_end {L : List (List Sp)} {i : Nat} (h : L.length ≤ i) : lyB (L.take i) (L.drop i) i = none := by rw [List.drop_eq_nil_of_le h]; cases L.take i <;> rfl
theorem any_take {L : List (List Sp)} {i : Nat} {f : List Sp → Bool} (hi : i ≤ L.length) : (L.take i).any f = true ↔ ∃ k, k < i ∧ f (gr L k) = true := by
  rw [List.any_eq_true]
  constructor
  · rintro ⟨r, hr, hf⟩
    obtain ⟨k, hk, e⟩ := List.mem_iff_getElem.1 hr
    rw [List.length_take] at hk
    rw [List.getElem_take] at e
    refine ⟨k, by omega, ?_⟩
    have : gr L k = r := by rw [← e]; simp [gr, show k < L.length by omega]
    rw [this]; exact hf
  · rintro ⟨k, hk, hf⟩
    refine ⟨gr L k, ?_, hf⟩
    have e : (L.take i)[k]? = some (gr L k) := by rw [List.getElem?_take_of_lt hk]; exact gr_get (by omega)
    exact List.mem_of_getElem? e
noncomputable def lyF (L : List (List Sp)) : Int × Int := if 6 < L.length then (1, 0) else if 20 < lyN L then (2, 0) else (lyA L 0).getD ((lyB [] L 0).getD (0, 0))
theorem lyF_many {L : List (List Sp)} (h : 6 < L.length) : lyF L = (1, 0) := by unfold lyF; rw [if_pos h]
theorem lyF_spots {L : List (List Sp)} (h : ¬ 6 < L.length) (h2 : 20 < lyN L) : lyF L = (2, 0) := by unfold lyF; rw [if_neg h, if_pos h2]
theorem lyF_go {L : List (List Sp)} (h : ¬ 6 < L.length) (h2 : ¬ 20 < lyN L) : lyF L = (lyA (L.drop 0) 0).getD ((lyB [] L 0).getD (0, 0)) := by unfold lyF; rw [if_neg h, if_neg h2]; rfl
theorem lyA_none : ∀ {L : List (List Sp)} {i : Nat}, lyA L i = none → ∀ r ∈ L, rgF r = 0
  | [], _, _ => fun r h => by simp at h
  | r :: R, i, h => by
    rw [lyA] at h
    split at h
    · rename_i h0
      intro x hx
      rcases List.mem_cons.1 hx with rfl | hx
      · exact h0
      · exact lyA_none h x hx
    · simp at h
theorem lyA_pos : ∀ {L : List (List Sp)} {i : Nat} {x : Int × Int}, lyA L i = some x → x.1 ≠ 0
  | [], _, _, h => by simp [lyA] at h
  | r :: R, i, x, h => by
    rw [lyA] at h
    split at h
    · exact lyA_pos h
    · have := rgF_b r
      simp only [Option.some.injEq] at h; subst h; simp only []; omega
theorem lyB_pos : ∀ {L pre : List (List Sp)} {i : Nat} {x : Int × Int}, lyB pre L i = some x → x.1 ≠ 0
  | [], pre, _, _, h => by cases pre <;> simp [lyB] at h
  | r :: R, pre, i, x, h => by
    rw [lyB] at h
    split at h
    · simp only [Option.some.injEq] at h; subst h; simp
    · exact lyB_pos h
theorem lyB_none {L : List (List Sp)} : ∀ (n i : Nat), i + n = L.length → lyB (L.take i) (L.drop i) i = none → ∀ j k, i ≤ j → j < L.length → k < j → rgsM (gr L j) (gr L k) = false
  | 0, i, h, _ => fun j k h1 h2 _ => by omega
  | n + 1, i, h, hb => by
    intro j k h1 h2 h3
    rw [lyB_step (by omega)] at hb
    split at hb
    · simp at hb
    · rename_i ha
      rcases Nat.lt_or_ge i j with hij | hij
      · exact lyB_none n (i + 1) (by omega) hb j k (by omega) h2 h3
      · have : j = i := by omega
        subst this
        rw [any_take (by omega)] at ha
        cases hr : rgsM (gr L j) (gr L k) with
        | false => rfl
        | true => exact absurd ⟨k, h3, hr⟩ ha
theorem rgsM_sym {a b : List Sp} (ha : rgF a = 0) (hb : rgF b = 0) : rgsM a b = rgsM b a := by
  have key : ∀ a b : List Sp, rgF a = 0 → rgF b = 0 → rgsMeet a b → rgsMeet b a := by
    rintro a b ha hb ⟨i, k, hi, hk, h⟩
    obtain ⟨a1, _, a2, a3, _⟩ := rgF_zero ha
    obtain ⟨b1, _, b2, b3, _⟩ := rgF_zero hb
    refine ⟨k, i, hk, hi, ?_⟩
    rw [meet_sym (sd_good (by omega) a2 a3 hi) (sd_good (by omega) b2 b3 hk)]; exact h
  rw [Bool.eq_iff_iff, rgsM_iff, rgsM_iff]
  exact ⟨key a b ha hb, key b a hb ha⟩
structure LyOk (L : List (List Sp)) : Prop where
  len : L.length ≤ 6
  spots : lyN L ≤ 20
  ok : ∀ r ∈ L, rgF r = 0
  apart : ∀ i k, i < L.length → k < L.length → k ≠ i → rgsM (gr L i) (gr L k) = false
theorem lyF_ok {L : List (List Sp)} (h : (lyF L).1 = 0) : LyOk L := by
  unfold lyF at h
  split at h
  · simp at h
  · split at h
    · simp at h
    · rename_i h1 h2
      cases ha : lyA L 0 with
      | some x => rw [ha] at h; exact absurd h (lyA_pos ha)
      | none =>
        rw [ha] at h
        cases hb : lyB [] L 0 with
        | some x => rw [hb] at h; exact absurd h (lyB_pos hb)
        | none =>
          have ok := lyA_none ha
          have ap := lyB_none (L := L) L.length 0 (by omega) hb
          refine ⟨by omega, by omega, ok, fun i k hi hk hne => ?_⟩
          rcases Nat.lt_or_ge k i with hlt | hge
          · exact ap i k (by omega) hi hlt
          · rw [rgsM_sym (ok _ (gr_mem hi)) (ok _ (gr_mem hk))]
            exact ap k i (by omega) hk (by omega)
/-! Where a point lies to a layer. -/
def lyS (p : Pt) : List (List Sp) → Bool → Option Bool
  | [], o => some o
  | r :: R, o => if rgV r p = 0 then none else lyS p R (o ^^ decide (rgV r p = 1))
theorem lyS_step {p : Pt} {L : List (List Sp)} {i : Nat} (o : Bool) (h : i < L.length) : lyS p (L.drop i) o = if rgV (gr L i) p = 0 then none else lyS p (L.drop (i + 1)) (o ^^ decide (rgV (gr L i) p = 1)) := by rw [drop_gr h, lyS]
theorem lyS_end {p : Pt} {L : List (List Sp)} {i : Nat} (o : Bool) (h : L.length ≤ i) : lyS p (L.drop i) o = some o := by rw [List.drop_eq_nil_of_le h]; rfl
noncomputable def lyV (L : List (List Sp)) (p : Pt) : Int := if (lyF L).1 = 0 then (if p.good = true then sdv (lyS p L false) else 2) else 2
theorem lyV_ok {L : List (List Sp)} {p : Pt} (h : (lyF L).1 = 0) (g : p.good = true) : lyV L p = sdv (lyS p (L.drop 0) false) := by unfold lyV; rw [if_pos h, if_pos g]; rfl
theorem lyV_no {L : List (List Sp)} {p : Pt} (h : ¬ (lyF L).1 = 0) : lyV L p = 2 := by unfold lyV; rw [if_neg h]
theorem lyV_np {L : List (List Sp)} {p : Pt} (g : p.good = false) : lyV L p = 2 := by unfold lyV; rw [g]; split <;> rfl
/-! Depths. -/
def wiB (a b : List Sp) : Bool := decide (rgV b (ptS (gs a 0)) = 1)
def dpS (L : List (List Sp)) (i : Nat) : Nat → Int
  | 0 => 0
  | k + 1 => dpS L i k + (if k ≠ i ∧ wiB (gr L i) (gr L k) = true then 1 else 0)
def dpN (L : List (List Sp)) (i : Nat) : Int := dpS L i L.length
theorem dpS_b (L : List (List Sp)) (i : Nat) : ∀ k : Nat, 0 ≤ dpS L i k ∧ dpS L i k ≤ k
  | 0 => by simp [dpS]
  | k + 1 => by
    have := dpS_b L i k
    unfold dpS; split <;> omega
theorem rgI_wi {L : List (List Sp)} (h : LyOk L) {i k : Nat} (hi : i < L.length) (hk : k < L.length) (hne : k ≠ i) : rgI (gr L i) (gr L k) = wiB (gr L i) (gr L k) := by
  unfold rgI; rw [h.apart i k hi hk hne]; rfl
noncomputable def dpF (L : List (List Sp)) (i : Int) : Int := if (lyF L).1 = 0 then (if 0 ≤ i ∧ i ≤ (L.length : Int) - 1 then dpN L i.toNat else -1) else -1
/-! Areas. -/
def lyT (L : List (List Sp)) (i : Nat) : Int := if dpN L i % 2 = 1 then -((area (gr L i)).natAbs : Int) else ((area (gr L i)).natAbs : Int)
def lyR (L : List (List Sp)) : Nat → Int
  | 0 => 0
  | i + 1 => lyR L i + lyT L i
noncomputable def lyAr (L : List (List Sp)) : Int := if (lyF L).1 = 0 then lyR L L.length else 0
theorem area_b {r : List Sp} (h : rgF r = 0) : -24000000000000 ≤ area r ∧ area r ≤ 24000000000000 := by
  obtain ⟨_, h2, h3, _⟩ := rgF_zero h
  have := arS_b h3 r.length (Nat.le_refl _)
  unfold area; omega
theorem lyR_b {L : List (List Sp)} (h : LyOk L) : ∀ i, i ≤ L.length → -(24000000000000 * (i : Int)) ≤ lyR L i ∧ lyR L i ≤ 24000000000000 * (i : Int)
  | 0, _ => by simp [lyR]
  | i + 1, hi => by
    have := lyR_b h i (by omega)
    have := area_b (h.ok _ (gr_mem (i := i) (by omega)))
    unfold lyR lyT; split <;> omega
end Go.Proofs.YtdcajfgeleopiaaGreat

/- Rings in their form: from the least spot on. -/
namespace Go.Proofs.YtdcajfgeleopiaaGreat
open Go Go.RowKit

/-- The index of the least spot among the first i + 1. -/
def leI (l : List Sp) : Nat → Nat
  | 0 => 0
  | i + 1 => if lsS (gs l (i + 1)) (gs l (leI l i)) = true then i + 1 else leI l i
theorem leI_le (l : List Sp) : ∀ i, leI l i ≤ i
  | 0 => Nat.le_refl _
  | i + 1 => by
    have := leI_le l i
    unfold leI; split <;> omega
def leL (l : List Sp) : Nat := leI l (l.length - 1)
theorem leL_lt {l : List Sp} (h : 0 < l.length) : leL l < l.length := by have := leI_le l (l.length - 1); unfold leL; omega
theorem lsS_irr (p : Sp) : lsS p p = false := by
  cases h : lsS p p with
  | false => rfl
  | true => rw [lsS_if] at h; omega
theorem lsS_tr {p q r : Sp} (h : lsS p q = true) (k : lsS q r = true) : lsS p r = true := by rw [lsS_if] at *; omega
theorem lsS_tot {p q : Sp} (h : ¬ lsS p q = true) (k : ¬ lsS q p = true) : p = q := by
  rw [lsS_if] at h k
  cases p; cases q; simp only [Sp.mk.injEq] at *; omega
/-- What stands ahead of the least is greater. -/
theorem leI_min (l : List Sp) : ∀ i j, j ≤ i → ¬ lsS (gs l j) (gs l (leI l i)) = true
  | 0, j, h => by rw [Nat.le_zero.1 h, leI, lsS_irr]; simp
  | i + 1, j, h => by
    unfold leI
    rcases Nat.lt_or_ge j (i + 1) with h1 | h1
    · have ih := leI_min l i j (by omega)
      split
      · rename_i h2
        intro h3
        exact ih (lsS_tr h3 h2)
      · exact ih
    · rw [show j = i + 1 by omega]
      split
      · rw [lsS_irr]; simp
      · assumption
theorem leI_first (l : List Sp) : ∀ i j, j < leI l i → lsS (gs l (leI l i)) (gs l j) = true
  | 0, j, h => by simp [leI] at h
  | i + 1, j, h => by
    unfold leI at h ⊢
    split at h
    · rename_i h2
      rw [if_pos h2]
      have hm := leI_min l i j (by omega)
      by_cases h4 : lsS (gs l (leI l i)) (gs l j) = true
      · exact lsS_tr h2 h4
      · have := lsS_tot h4 hm
        rw [← this]; exact h2
    · rename_i h2
      rw [if_neg h2]; exact leI_first l i j h
theorem ixGo_at {p : Sp} : ∀ (l : List Sp) (k n : Nat), n < l.length → gs l n = p → (∀ j, j < n → gs l j ≠ p) → ixGo l k p = ((k + n : Nat) : Int)
  | [], _, _, h, _, _ => by simp at h
  | x :: r, k, 0, _, e, _ => by
    have : x = p := e
    simp [ixGo, this]
  | x :: r, k, n + 1, h, e, hn => by
    have h0 : x ≠ p := hn 0 (by omega)
    rw [ixGo, if_neg h0]
    have := ixGo_at r (k + 1) n (by simpa using h) e fun j hj => hn (j + 1) (by omega)
    rw [this]; congr 1; omega
theorem ixI_le {l : List Sp} (h : 0 < l.length) : ixI l (gs l (leL l)) = (leL l : Int) := by
  unfold ixI
  rw [ixGo_at l 0 (leL l) (leL_lt h) rfl fun j hj e => ?_]
  · simp
  · have := leI_first l _ j hj
    unfold leL at e
    rw [e, lsS_irr] at this; simp at this
/-- A ring that begins at another spot. -/
def rotR (l : List Sp) (k : Nat) : List Sp := l.drop k ++ l.take k
theorem rotR_len (l : List Sp) (k : Nat) : (rotR l k).length = l.length := by simp [rotR]; omega
theorem gs_ext {l m : List Sp} (h : l.length = m.length) (he : ∀ i, i < l.length → gs l i = gs m i) : l = m := by
  apply List.ext_getElem h
  intro i h1 h2
  have := he i h1
  simpa [gs, h1, h2] using this
theorem gs_app1 {l m : List Sp} {i : Nat} (h : i < l.length) : gs (l ++ m) i = gs l i := by
  simp only [gs, List.getD_eq_getElem?_getD]; rw [List.getElem?_append_left h]
theorem gs_app2 {l m : List Sp} {i : Nat} (h : l.length ≤ i) : gs (l ++ m) i = gs m (i - l.length) := by
  simp only [gs, List.getD_eq_getElem?_getD]; rw [List.getElem?_append_right h]
theorem gs_drop (l : List Sp) (k i : Nat) : gs (l.drop k) i = gs l (k + i) := by simp [gs, List.getD_eq_getElem?_getD]
theorem gs_take {l : List Sp} {k i : Nat} (h : i < k) : gs (l.take k) i = gs l i := by simp [gs, List.getD_eq_getElem?_getD, List.getElem?_take_of_lt h]
theorem rotR_gs {l : List Sp} {k i : Nat} (hk : k ≤ l.length) (hi : i < l.length) : gs (rotR l k) i = gs l ((k + i) % l.length) := by
  unfold rotR
  rcases Nat.lt_or_ge (k + i) l.length with h | h
  · rw [gs_app1 (by simp; omega), gs_drop, Nat.mod_eq_of_lt h]
  · rw [gs_app2 (by simp; omega), List.length_drop, gs_take (by omega)]
    congr 1
    rw [Nat.mod_eq_sub_mod h, Nat.mod_eq_of_lt (by omega)]; omega
/-- The reference's rows, one spot more each. -/
def rotS (l : List Sp) (k : Nat) (i : Nat) : List Sp := (List.range i).map fun j => gs l ((k + j) % l.length)
theorem rotS_step (l : List Sp) (k i : Nat) : rotS l k (i + 1) = rotS l k i ++ [gs l ((k + i) % l.length)] := by unfold rotS; rw [List.range_succ, List.map_append]; rfl
theorem rotS_len (l : List Sp) (k i : Nat) : (rotS l k i).length = i := by simp [rotS]
theorem rotS_end {l : List Sp} {k : Nat} (hk : k ≤ l.length) : rotS l k l.length = rotR l k := by
  refine gs_ext (by rw [rotS_len, rotR_len]) fun i hi => ?_
  rw [rotS_len] at hi
  rw [rotR_gs hk hi]
  simp [gs, rotS, List.getD_eq_getElem?_getD, hi]
def fmB (r : List Sp) : List Sp := if area r < 0 then turnR r else r
def fmR (r : List Sp) : List Sp := rotR (fmB r) (leL (fmB r))
theorem fmB_len (r : List Sp) : (fmB r).length = r.length := by unfold fmB; split <;> simp [turnR_len]
theorem fmR_len (r : List Sp) : (fmR r).length = r.length := by unfold fmR; rw [rotR_len, fmB_len]
end Go.Proofs.YtdcajfgeleopiaaGreat

/- Rows of rings: sizes. -/
namespace Go.Proofs.YtdcajfgeleopiaaGreat
open Go Go.RowKit

def rgC (r : List Sp) : List AV := [.isl (r.map Sp.cells)]
def rgs (L : List (List Sp)) : AV := .isl (L.map rgC)
/-- What is left of a bound behind each ring; -1: nothing. -/
def srGo : List (List Sp) → Int → Int
  | [], n => n
  | r :: R, n => if n - r.length < 0 then -1 else srGo R (n - r.length)
def srA (L : List (List Sp)) (n : Int) : Int := if n - L.length < 0 then -1 else srGo L (n - L.length)
theorem srGo_drop {L : List (List Sp)} {i : Nat} {l : List Sp} (h : L[i]? = some l) (n : Int) : srGo (L.drop i) n = if n - l.length < 0 then -1 else srGo (L.drop (i + 1)) (n - l.length) := by
  obtain ⟨hi, e⟩ := List.getElem?_eq_some_iff.1 h
  rw [List.drop_eq_getElem_cons hi, e]; rfl
theorem srGo_end (L : List (List Sp)) (n : Int) : srGo (L.drop L.length) n = n := by rw [List.drop_length]; rfl
theorem srGo_b : ∀ (L : List (List Sp)) (n : Int), 0 ≤ n → ¬ srGo L n < 0 → (∀ r ∈ L, (r.length : Int) ≤ n) ∧ (lyN L : Int) ≤ n
  | [], n, h0, _ => ⟨fun r h => by simp at h, by simpa [lyN] using h0⟩
  | r :: R, n, h0, h => by
    unfold srGo at h
    split at h
    · omega
    · rename_i h1
      obtain ⟨a, b⟩ := srGo_b R (n - r.length) (by omega) h
      refine ⟨fun x hx => ?_, by simp only [lyN]; omega⟩
      rcases List.mem_cons.1 hx with rfl | hx
      · omega
      · have := a x hx; omega
theorem srA_b {L : List (List Sp)} {n : Int} (h : ¬ srA L n < 0) : (L.length : Int) ≤ n ∧ (∀ r ∈ L, (r.length : Int) ≤ n) ∧ (lyN L : Int) ≤ n := by
  unfold srA at h
  split at h
  · omega
  · rename_i h1
    obtain ⟨a, b⟩ := srGo_b L _ (by omega) h
    exact ⟨by omega, fun r hr => by have := a r hr; omega, by omega⟩
/-- The first ring of which something is so. -/
def ixF (f : List Sp → Bool) : List (List Sp) → Nat → Int
  | [], _ => -1
  | x :: r, k => if f x = true then (k : Int) else ixF f r (k + 1)
theorem ixF_any (f : List Sp → Bool) : ∀ (l : List (List Sp)) (k : Nat), (0 ≤ ixF f l k) ↔ l.any f = true
  | [], k => by simp [ixF]
  | x :: r, k => by
    unfold ixF
    split
    · rename_i h; simp [h]
    · rename_i h; rw [ixF_any f r (k + 1)]; simp [h]
theorem ixF_dec (f : List Sp → Bool) (l : List (List Sp)) : decide (0 ≤ ixF f l 0) = l.any f := by
  rw [Bool.eq_iff_iff, decide_eq_true_eq]; exact ixF_any f l 0
end Go.Proofs.YtdcajfgeleopiaaGreat

/- Rows put one behind the other. -/
namespace Go.Proofs.YtdcajfgeleopiaaGreat
open Go Go.RowKit

theorem flat_step {L : List (List Sp)} {i : Nat} (h : i < L.length) : (L.take (i + 1)).flatten = (L.take i).flatten ++ gr L i := by
  rw [take_gr h, List.flatten_append]; simp
theorem flatS_len : ∀ (L : List (List Sp)), L.flatten.length = lyN L
  | [] => rfl
  | r :: R => by rw [List.flatten_cons, List.length_append, flatS_len R, lyN]
theorem lyN_le {L : List (List Sp)} (i : Nat) : lyN (L.take i) ≤ lyN L := by
  have := lyN_app (L.take i) (L.drop i)
  rw [List.take_append_drop] at this; omega
/-- The least spot's value, as the program finds it. -/
def mnS (l : List Sp) (i : Nat) : Sp := gs l (leI l (i - 1))
theorem mnS_one (l : List Sp) : mnS l 1 = gs l 0 := rfl
theorem mnS_step {l : List Sp} {i : Nat} (h : 1 ≤ i) : mnS l (i + 1) = if lsS (gs l i) (mnS l i) = true then gs l i else mnS l i := by
  obtain ⟨k, rfl⟩ : ∃ k, i = k + 1 := ⟨i - 1, by omega⟩
  unfold mnS
  simp only [Nat.add_sub_cancel]
  rw [leI]
  split <;> rfl
theorem mnS_end {l : List Sp} : mnS l l.length = gs l (leL l) := rfl
end Go.Proofs.YtdcajfgeleopiaaGreat
