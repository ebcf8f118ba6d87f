/- On which side of loops a point is. -/
import Derived.Test.YtdcajfgeleopiaaG11

namespace Go.Proofs.Ytdcajfgeleopiaa
open Go Go.RowKit

def sdGo (bt cu : Pt → Pt → Pt → Bool) (p : Pt) : List (Pt × Pt) → Bool → Option Bool
  | [], o => some o
  | (a, b) :: r, o => if bt a b p then none else sdGo bt cu p r (o ^^ cu a b p)
def sdv : Option Bool → Int
  | none => 0
  | some true => 1
  | some false => -1
end Go.Proofs.Ytdcajfgeleopiaa

/- Areas of loops: fractions in lowest terms, added one by one. -/
namespace Go.Proofs.Ytdcajfgeleopiaa
open Go Go.RowKit

def addQ (p q : Int × Int) : Int × Int := (lowU (p.1 * q.2 + q.1 * p.2) (p.2 * q.2), lowD (p.1 * q.2 + q.1 * p.2) (p.2 * q.2))
def gp (l : List Pt) (i : Nat) : Pt := l.getD i pt0
/-- A fraction in lowest terms, its divisor above 0. -/
def redQ (p : Int × Int) : Prop := 0 < p.2 ∧ Int.gcd p.1 p.2 = 1
theorem redQ.low {p : Int × Int} (h : redQ p) : lowU p.1 p.2 = p.1 ∧ lowD p.1 p.2 = p.2 := low_uniq (by have := h.1; omega) h.1 h.2 rfl
/-- The same fraction by other numbers. -/
def eqQ (u d : Int) (p : Int × Int) : Prop := 0 < d ∧ u * p.2 = p.1 * d
theorem eqQ.low {u d : Int} {p : Int × Int} (h : eqQ u d p) (hr : redQ p) : lowU u d = p.1 ∧ lowD u d = p.2 := low_uniq (by have := h.1; omega) hr.1 hr.2 h.2.symm
theorem eqQ.step {u d c w : Int} {p : Int × Int} (h : eqQ u d p) (hr : redQ p) (hw : 0 < w) : eqQ (u * (w / gg d w) + c * (d / gg d w)) (d * (w / gg d w)) (addQ p (c, w)) := by
  obtain ⟨hd, he⟩ := h
  have hg := gg_pos (u := d) (d := w) (by omega)
  have k1 : w / gg d w * gg d w = w := Int.ediv_mul_cancel (gg_r d w)
  have m1 : d / gg d w * gg d w = d := Int.ediv_mul_cancel (gg_l d w)
  generalize gg d w = g at *
  generalize w / g = k at *
  generalize d / g = m at *
  have hk : 0 < k := by
    rcases Int.lt_trichotomy k 0 with h0 | h0 | h0
    · have := Int.mul_neg_of_neg_of_pos h0 hg; omega
    · subst h0; omega
    · exact h0
  refine ⟨Int.mul_pos hd hk, ?_⟩
  have hpw : p.2 * w ≠ 0 := Int.mul_ne_zero (by have := hr.1; omega) (by omega)
  have lc := low_cross (u := p.1 * w + c * p.2) hpw
  have lc : (addQ p (c, w)).1 * (p.2 * w) = (p.1 * w + c * p.2) * (addQ p (c, w)).2 := lc
  generalize (addQ p (c, w)).1 = U at *
  generalize (addQ p (c, w)).2 = D at *
  refine Int.eq_of_mul_eq_mul_right hpw ?_
  have e1 : U * (d * k) * (p.2 * w) = (U * (p.2 * w)) * (d * k) := by grind
  rw [e1, lc, ← k1, ← m1]
  have he2 : u * p.2 = p.1 * (m * g) := by rw [m1]; exact he
  have e2 : (u * k + c * m) * D * (p.2 * (k * g)) = (D * k * g) * (k * (u * p.2) + c * m * p.2) := by grind
  rw [e2, he2]
  grind
theorem eqQ.one : eqQ 0 1 (0, 1) := ⟨by decide, rfl⟩
end Go.Proofs.Ytdcajfgeleopiaa

/- Rings turned. -/
namespace Go.Proofs.Ytdcajfgeleopiaa
open Go Go.RowKit

/-- Rows of two numbers, as they are marked. -/
def m2 (k : Int) (j : Nat) : List AV := [.int .i64 (k + 2 * (j : Int)), .int .i64 (k + 2 * (j : Int) + 1)]
end Go.Proofs.Ytdcajfgeleopiaa

/- Pairs of segments that meet. -/
namespace Go.Proofs.Ytdcajfgeleopiaa
open Go Go.RowKit

/-- Rows of four numbers, as they are marked. -/
def m4 (k : Int) (j : Nat) : List AV := [.int .i64 (k + 4 * (j : Int)), .int .i64 (k + 4 * (j : Int) + 1), .int .i64 (k + 4 * (j : Int) + 1 + 1), .int .i64 (k + 4 * (j : Int) + 1 + 1 + 1)]
end Go.Proofs.Ytdcajfgeleopiaa

/- Points halved, squares of distances: the plain laws. -/
namespace Go.Proofs.Ytdcajfgeleopiaa
open Go Go.RowKit

theorem told_scale {u d u' d' : Int} (h : d ≠ 0) (h' : d' ≠ 0) (e : u * d' = u' * d) : told u d = told u' d' := by
  have c := @low_cross u' d' h'
  obtain ⟨e1, e2⟩ := low_uniq (u := u) (d := d) h (lowD_pos (u := u') h') (low_red h') (by
    have : lowU u' d' * d * d' = u * lowD u' d' * d' := by grind
    exact Int.eq_of_mul_eq_mul_right h' this)
  rw [told_fit h, told_fit h', e1, e2]
def dX (p q : Pt) : Int := p.x.v * q.w.v - q.x.v * p.w.v
def dY (p q : Pt) : Int := p.y.v * q.w.v - q.y.v * p.w.v
def dN (p q : Pt) : Int := dX p q * dX p q + dY p q * dY p q
def dD (p q : Pt) : Int := (p.w.v * q.w.v) * (p.w.v * q.w.v)
def d2F (p q : Pt) : Rt × Bool := if (p.good && q.good) = true then told (dN p q) (dD p q) else (Rt0, false)
theorem d2F_good {p q : Pt} (hp : p.good = true) (hq : q.good = true) : d2F p q = told (dN p q) (dD p q) := by unfold d2F; rw [hp, hq]; rfl
theorem dD_pos {p q : Pt} (hp : p.good = true) (hq : q.good = true) : 0 < dD p q := by
  have := Int.mul_pos (good_pos hp) (good_pos hq)
  exact Int.mul_pos this this
/-- What a middle is. -/
structure Mid (p q m : Pt) : Prop where
  gp : p.good = true
  gq : q.good = true
  gm : m.good = true
  hx : m.x.v * (2 * (p.w.v * q.w.v)) = (p.x.v * q.w.v + q.x.v * p.w.v) * m.w.v
  hy : m.y.v * (2 * (p.w.v * q.w.v)) = (p.y.v * q.w.v + q.y.v * p.w.v) * m.w.v
section
variable {p q m : Pt} (M : Mid p q m)
include M
theorem Mid.dx1 : dX p m * (2 * (p.w.v * q.w.v)) = dX p q * (m.w.v * p.w.v) := by have := M.hx; unfold dX; grind
theorem Mid.dy1 : dY p m * (2 * (p.w.v * q.w.v)) = dY p q * (m.w.v * p.w.v) := by have := M.hy; unfold dY; grind
theorem Mid.dx2 : dX m q * (2 * (p.w.v * q.w.v)) = dX p q * (m.w.v * q.w.v) := by have := M.hx; unfold dX; grind
theorem Mid.dy2 : dY m q * (2 * (p.w.v * q.w.v)) = dY p q * (m.w.v * q.w.v) := by have := M.hy; unfold dY; grind
theorem Mid.d1 : d2F p m = told (dN p q) (4 * dD p q) := by
  rw [d2F_good M.gp M.gm]
  have a := dD_pos M.gp M.gq
  have b := dD_pos M.gp M.gm
  have h1 := M.dx1
  have h2 := M.dy1
  refine told_scale (by omega) (by omega) ?_
  unfold dN dD; grind
theorem Mid.d2 : d2F m q = told (dN p q) (4 * dD p q) := by
  rw [d2F_good M.gm M.gq]
  have a := dD_pos M.gp M.gq
  have b := dD_pos M.gm M.gq
  have h1 := M.dx2
  have h2 := M.dy2
  refine told_scale (by omega) (by omega) ?_
  unfold dN dD; grind
end
end Go.Proofs.Ytdcajfgeleopiaa

/- Nought away is on the segment: the plain law. -/
namespace Go.Proofs.Ytdcajfgeleopiaa
open Go Go.RowKit

theorem ptS_gd {p : Sp} (h : p.good = true) : (ptS p).good = true := by
  obtain ⟨v1, v2, v3⟩ := ptS_v h
  unfold Pt.good
  rw [v1, v2, v3, sp_sm h]
  simp
end Go.Proofs.Ytdcajfgeleopiaa

/- On which side of a ring a point is. -/
namespace Go.Proofs.Ytdcajfgeleopiaa
open Go Go.RowKit

def rgE (r : List Sp) : List (Pt × Pt) := (List.range r.length).map fun i => (ptS (gs r i), ptS (nx1 r i))
def rgV (r : List Sp) (p : Pt) : Int := sdv (sdGo btI cuI p (rgE r) false)
theorem rgE_drop {r : List Sp} {i : Nat} (h : i < r.length) : (rgE r).drop i = (ptS (gs r i), ptS (nx1 r i)) :: (rgE r).drop (i + 1) := by
  have hl : i < (rgE r).length := by simp [rgE]; exact h
  rw [List.drop_eq_getElem_cons hl]
  simp [rgE]
theorem rgE_end {r : List Sp} {i : Nat} (h : r.length ≤ i) : (rgE r).drop i = [] := List.drop_eq_nil_of_le (by simp [rgE]; exact h)
theorem bt_sym (p q r : Pt) : btI q p r = btI p q r := by
  have a1 := cmV_anti q r
  have a2 := cmV_anti p r
  have hd : sg3 (det q p r) = -sg3 (det p q r) := by rw [det_swap, sg3_neg]
  have e1 : cmV r q = -cmV q r := a1
  have e2 : cmV r p = -cmV p r := a2
  unfold btI
  rw [hd, e1, e2]
  have e3 : cmV q r * -cmV p r = cmV p r * -cmV q r := by grind
  rw [e3]
  have e4 : decide (-sg3 (det p q r) = 0) = decide (sg3 (det p q r) = 0) := by rw [Bool.eq_iff_iff]; simp
  rw [e4, Bool.or_comm (pteq q r)]
theorem cu_sym (a b p : Pt) : cuI b a p = cuI a b p := by
  unfold cuI
  generalize decide (sg3 (det b a p) > 0) = d
  generalize decide (sg3 (det a b p) > 0) = e
  cases decide (cmY a p > 0) <;> cases decide (cmY b p > 0) <;> rfl
theorem side_eq {a b : Sp} {p : Pt} (ga : a.good = true) (gb : b.good = true) (hp : p.ok) (gp : p.good = true) :
    btS (ptS (segO a b).a) (ptS (segO a b).b) p = btI (ptS a) (ptS b) p ∧ cuS (ptS (segO a b).a) (ptS (segO a b).b) p = cuI (ptS a) (ptS b) p := by
  have oa : ∀ q : Sp, (ptS q).ok := fun q => pt3_ok _ _ _
  unfold segO
  split
  · simp only []
    rw [← bt_eq (oa b) (oa a) hp (ptS_gd gb) (ptS_gd ga) gp, ← cu_eq (ptS_gd gb) (ptS_gd ga) gp, bt_sym, cu_sym]
    exact ⟨rfl, rfl⟩
  · simp only []
    rw [← bt_eq (oa a) (oa b) hp (ptS_gd ga) (ptS_gd gb) gp, ← cu_eq (ptS_gd ga) (ptS_gd gb) gp]
    exact ⟨rfl, rfl⟩
/-- Does a ring lie within another one? -/
noncomputable def rgI (a b : List Sp) : Bool := !rgsM a b && decide (rgV b (ptS (gs a 0)) = 1)
noncomputable def rgIn (a b : List Sp) : Bool := decide (rgF a = 0) && (decide (rgF b = 0) && rgI a b)
end Go.Proofs.Ytdcajfgeleopiaa

/- Layers: faults, sides, depths, areas. -/
namespace Go.Proofs.Ytdcajfgeleopiaa
open Go Go.RowKit

def gr (L : List (List Sp)) (i : Nat) : List Sp := L.getD i []
def lyN : List (List Sp) → Nat
  | [] => 0
  | r :: R => r.length + lyN R
structure LyOk (L : List (List Sp)) : Prop where
  len : L.length ≤ 6
  spots : lyN L ≤ 20
  ok : ∀ r ∈ L, rgF r = 0
  apart : ∀ i k, i < L.length → k < L.length → k ≠ i → rgsM (gr L i) (gr L k) = false
/-! Where a point lies to a layer. -/
/-! Depths. -/
def wiB (a b : List Sp) : Bool := decide (rgV b (ptS (gs a 0)) = 1)
/-! Areas. -/
end Go.Proofs.Ytdcajfgeleopiaa

/- Strings by their bytes. -/
namespace Go.Proofs.Ytdcajfgeleopiaa
open Go Go.RowKit

def Byt (l : List Int) : Prop := ∀ c ∈ l, 0 ≤ c ∧ c < 256
theorem Byt.tail {c : Int} {l : List Int} (h : Byt (c :: l)) : Byt l := fun x hx => h x (by simp [hx])
theorem Byt.drop {l : List Int} (h : Byt l) (k : Nat) : Byt (l.drop k) := fun x hx => h x (List.mem_of_mem_drop hx)
theorem Byt.take {l : List Int} (h : Byt l) (k : Nat) : Byt (l.take k) := fun x hx => h x (List.mem_of_mem_take hx)
end Go.Proofs.Ytdcajfgeleopiaa

/- Walks: on which side of a ring a point is; FnExactRingIn, walked. -/
namespace Go.Proofs.Ytdcajfgeleopiaa
open Go Go.RowKit
set_option linter.unusedSimpArgs false
set_option linter.unusedVariables false
set_option maxRecDepth 100000
attribute [local simp] szT2 byT2 agT2 unT2 zoT2 szT3 byT3 agT3 unT3 zoT3 szT4 byT4 agT4 unT4 zoT4 szT26 byT26 agT26 flT26 fdT26_0 fdT26_1 fdT26_2 fdT26_3 zoT26 szT35 byT35 agT35 elT35 unT35 zoT35 szT37 byT37 agT37 flT37 fdT37_0 zoT37 szT41 byT41 agT41 elT41 unT41 zoT41 szT43 byT43 agT43 flT43 fdT43_0 zoT43 szT51 byT51 agT51 flT51 fdT51_0 fdT51_1 fdT51_2 zoT51 szT80 byT80 agT80 flT80 fdT80_0 fdT80_1 zoT80 szT102 byT102 agT102 flT102 fdT102_0 fdT102_1 zoT102 szT104 byT104 agT104 flT104 fdT104_0 fdT104_1 zoT104 szT113 byT113 agT113 flT113 fdT113_0 fdT113_1 fdT113_2 zoT113

theorem rgV_start {r : List Sp} {p : Pt} : rgV r p = sdv (sdGo btI cuI p ((rgE r).drop 0) false) := rfl
theorem wi_dec (a b : List Sp) : (rgV b (ptS (gs a 0)) == 1) = wiB a b := by unfold wiB; rw [beqd]

section
attribute [local simp] Sp.av Sp.cells Sg.av Sg.cells Pt.av Pt.cells
set_option maxHeartbeats 4000000 in
theorem sideI_fc (r : List Sp) (hg : spsGood r) (hl : r.length ≤ 1099511627776) (p : Pt) (hp : p.ok) (gp : p.good = true) : FC Try.prog 150 [.agg [.isl (r.map Sp.cells)], p.av] (.int .i64 (rgV r p : Int)) := by
 refine .b Try.func150 43 (fun nx K hK => ?_) (hi := by simp [idfL, idf, idfLL_iff, Sp.av, Sp.cells, Pt.av, Pt.cells])
 refine .q ?_
 refine .q ?_
 refine .sq fun K3 hK3 => ?_
 refine .q ?_ (by simp (disch := first|omega|(simp only[ln];omega)) [List.length_map]; rfl)
 refine .block ?_
 
 refine .loop (fun N s => ∃ i : Nat, ∃ o : Bool, N = r.length - i ∧ i ≤ r.length ∧ (rgV r p = sdv (sdGo btI cuI p ((rgE r).drop i) o)) ∧ s.env 2 = .ptr nx 0 0 ∧ s.env 3 = .ptr (nx + 1) 0 0 ∧ s.env 5 = .bool o ∧ s.env 11 = .isl (r.map Sp.cells) ∧ s.env 12 = .int .i64 (r.length : Int) ∧ s.env 13 = .int .i64 (i : Int) ∧ s.heap nx = some (1, [[.isl (r.map Sp.cells)]]) ∧ nx < s.nx ∧ s.heap (nx + 1) = some (12, [[.int .u64 p.x.a, .int .u64 p.x.b, .int .u64 p.x.c, .int .u64 p.x.d, .int .u64 p.y.a, .int .u64 p.y.b, .int .u64 p.y.c, .int .u64 p.y.d, .int .u64 p.w.a, .int .u64 p.w.b, .int .u64 p.w.c, .int .u64 p.w.d]]) ∧ (nx + 1) < s.nx ∧ s.nt = 43) (r.length) (by refine ⟨0, false, by omega, by omega, rgV_start, ?_, ?_, ?_, ?_, ?_, ?_, ?_, ?_, ?_, ?_, rfl⟩ <;> first|(simp (disch := omega);done)|omega|(simp;done)|(simp;omega)) ?_
 rintro N ⟨e, H, mm, nt⟩ ⟨i, o, rfl, hi, hv, g2, g3, g5, g11, g12, g13, Hr, xr, Hp, xp, rfl⟩
 simp only [] at g2 g3 g5 g11 g12 g13 Hr xr Hp xp
 refine .q ?_ (by simp (disch := first|omega|(simp only[ln];omega)) [g12, g13]; rfl)
 refine .sq fun K6 hK6 => ?_
 refine .c (fun h14 => ?_) (fun h14 => ?_)
 ·try simp only[dc]at h14
  have hi' : i < r.length := by omega
  have hat := rg_at hi'
  obtain ⟨j, hj⟩ : ∃ j : Nat, j = (i + 1) % r.length := ⟨_, rfl⟩
  have hjl : j < r.length := by rw [hj]; exact nx1_lt hi'
  have htm : Int.tmod ((i : Int) + 1) (r.length : Int) = (j : Int) := by rw [hj]; exact ite_tmod hi'
  have hat2 := rg_at hjl
  have hnj : gs r j = nx1 r i := by rw [hj]; rfl
  have hne : ¬ r = [] := by intro h; rw [h] at hi'; simp at hi'
  have ga := hg _ (gs_mem hi')
  have gb := hg _ (gs_mem hjl)
  have oa : (ptS (gs r i)).ok := pt3_ok _ _ _
  have ob : (ptS (gs r j)).ok := pt3_ok _ _ _
  have qa := ptS_gd ga
  have qb := ptS_gd gb
  have ca := pointOfI_fc (gs r i) ga
  have cb := pointOfI_fc (gs r j) gb
  rw [rgE_drop hi', sdGo, ← hnj] at hv
  generalize ptS (gs r i) = A at *
  generalize ptS (gs r j) = B at *
  refine .skip ?_
  refine hK6 _ ?_
  refine .sq fun K7 hK7 => ?_
  have J7 : ∀ s : St, (∃ o' : Bool, (rgV r p = sdv (sdGo btI cuI p ((rgE r).drop (i + 1)) o')) ∧ s.env 2 = .ptr nx 0 0 ∧ s.env 3 = .ptr (nx + 1) 0 0 ∧ s.env 5 = .bool o' ∧ s.env 11 = .isl (r.map Sp.cells) ∧ s.env 12 = .int .i64 (r.length : Int) ∧ s.env 13 = .int .i64 (i : Int) ∧ s.heap nx = some (1, [[.isl (r.map Sp.cells)]]) ∧ nx < s.nx ∧ s.heap (nx + 1) = some (12, [[.int .u64 p.x.a, .int .u64 p.x.b, .int .u64 p.x.c, .int .u64 p.x.d, .int .u64 p.y.a, .int .u64 p.y.b, .int .u64 p.y.c, .int .u64 p.y.d, .int .u64 p.w.a, .int .u64 p.w.b, .int .u64 p.w.c, .int .u64 p.w.d]]) ∧ (nx + 1) < s.nx ∧ s.nt = 43) → K7 s := by
   clear hv
   rintro ⟨e, H, mm, nt⟩ ⟨o', hv', g2j, g3j, g5j, g11j, g12j, g13j, Hrj, xrj, Hpj, xpj, rfl⟩
   simp only [] at g2j g3j g5j g11j g12j g13j Hrj xrj Hpj xpj
   refine hK7 _ ?_
   refine .r ?_ (by simp (disch := first|omega|(simp only[ln];omega)) [g2j, g3j, g5j, g11j, g12j, g13j, Hrj, Hpj]; rfl)
   refine ⟨r.length - (i + 1), by omega, i + 1, o', rfl, by omega, hv', ?_, ?_, ?_, ?_, ?_, ?_, ?_, ?_, ?_, ?_, rfl⟩ <;> first|(simp (disch := omega) [g2j, g3j, g5j, g11j, g12j, g13j, Hrj, Hpj];done)|omega|(simp;done)|(simp;omega)
  refine .block ?_
  refine .q ?_ (by simp (disch := first|omega|(simp only[ln];omega)) [if_pos, g11, g13, hat, List.length_map]; rfl)
  refine .sq fun K9 hK9 => ?_
  refine .old fun hold => ?_
  refine .d 15 ?_
  refine .k 1 (fun fs10 hfs10 => ?_) (by simp (disch := first|omega|(simp only[ln];omega)) [runDf.eq_def, runF1, runF2, stepF.eq_def, updo.eq_def, hupo.eq_def, opSto1.eq_def, List.take_succ_cons, List.take_zero, if_pos, g2, g13, Hr, hat, hat2, htm, hne, List.length_map]; rfl)
  refine .f ca hb135 ?_ (ha := by simp (disch := first|omega|(simp only[ln];omega)) [idf_Wd', if_pos, g2, g13, Hr, hat, hat2, htm, hne, List.length_map])
  refine DP.runF1q (by simp (disch := first|omega|(simp only[ln];omega)) [runDf.eq_def, runF1, runF2, stepF.eq_def, updo.eq_def, hupo.eq_def, opSto1.eq_def, if_pos, g2, g13, Hr, hat, hat2, htm, hne, List.length_map]; rfl) fun fq11 hfq11 => ?_
  simp [qids, asksB, Op.operands, topId] at hfq11
  simp only [updo]
  refine DP.runF1q (by simp (disch := first|omega|(simp only[ln];omega)) [runDf.eq_def, runF1, runF2, stepF.eq_def, updo.eq_def, hupo.eq_def, opSto1.eq_def, if_pos, g2, g13, Hr, hat, hat2, htm, hne, List.length_map]; rfl) fun fq12 hfq12 => ?_
  simp [qids, asksB, Op.operands, topId] at hfq12
  simp only [updo]
  refine DP.runF1q (by simp (disch := first|omega|(simp only[ln];omega)) [runDf.eq_def, runF1, runF2, stepF.eq_def, updo.eq_def, hupo.eq_def, opSto1.eq_def, if_pos, g2, g13, Hr, hat, hat2, htm, hne, List.length_map]; rfl) fun fq13 hfq13 => ?_
  simp [qids, asksB, Op.operands, topId] at hfq13
  simp only [updo]
  refine DP.runF1q (by simp (disch := first|omega|(simp only[ln];omega)) [runDf.eq_def, runF1, runF2, stepF.eq_def, updo.eq_def, hupo.eq_def, opSto1.eq_def, if_pos, g2, g13, Hr, hat, hat2, htm, hne, List.length_map]; rfl) fun fq14 hfq14 => ?_
  simp [qids, asksB, Op.operands, topId] at hfq14
  simp only [updo]
  refine DP.runF1q (by simp (disch := first|omega|(simp only[ln];omega)) [runDf.eq_def, runF1, runF2, stepF.eq_def, updo.eq_def, hupo.eq_def, opSto1.eq_def, if_pos, g2, g13, Hr, hat, hat2, htm, hne, List.length_map]; rfl) fun fq15 hfq15 => ?_
  simp [qids, asksB, Op.operands, topId] at hfq15
  simp only [updo]
  refine DP.runF1q (by simp (disch := first|omega|(simp only[ln];omega)) [runDf.eq_def, runF1, runF2, stepF.eq_def, updo.eq_def, hupo.eq_def, opSto1.eq_def, if_pos, g2, g13, Hr, hat, hat2, htm, hne, List.length_map]; rfl) fun fq16 hfq16 => ?_
  simp [qids, asksB, Op.operands, topId] at hfq16
  simp only [updo]
  refine DP.runF1q (by simp (disch := first|omega|(simp only[ln];omega)) [runDf.eq_def, runF1, runF2, stepF.eq_def, updo.eq_def, hupo.eq_def, opSto1.eq_def, if_pos, g2, g13, Hr, hat, hat2, htm, hne, List.length_map]; rfl) fun fq17 hfq17 => ?_
  simp [qids, asksB, Op.operands, topId] at hfq17
  simp only [updo]
  refine DP.runF1q (by simp (disch := first|omega|(simp only[ln];omega)) [runDf.eq_def, runF1, runF2, stepF.eq_def, updo.eq_def, hupo.eq_def, opSto1.eq_def, if_pos, g2, g13, Hr, hat, hat2, htm, hne, List.length_map]; rfl) fun fq18 hfq18 => ?_
  simp [qids, asksB, Op.operands, topId] at hfq18
  simp only [updo]
  refine DP.runF1q (by simp (disch := first|omega|(simp only[ln];omega)) [runDf.eq_def, runF1, runF2, stepF.eq_def, updo.eq_def, hupo.eq_def, opSto1.eq_def, if_pos, g2, g13, Hr, hat, hat2, htm, hne, List.length_map]; rfl) fun fq19 hfq19 => ?_
  simp [qids, asksB, Op.operands, topId] at hfq19
  simp only [updo]
  refine DP.runF1q (by simp (disch := first|omega|(simp only[ln];omega)) [runDf.eq_def, runF1, runF2, stepF.eq_def, updo.eq_def, hupo.eq_def, opSto1.eq_def, if_pos, g2, g13, Hr, hat, hat2, htm, hne, List.length_map]; rfl) fun fq20 hfq20 => ?_
  simp [qids, asksB, Op.operands, topId] at hfq20
  simp only [updo]
  refine .f cb hb135 ?_ (ha := by simp (disch := first|omega|(simp only[ln];omega)) [idf_Wd', if_pos, g2, g13, Hr, hat, hat2, htm, hne, List.length_map])
  refine .k 2 (fun fs21 hfs21 => ?_) (by simp (disch := first|omega|(simp only[ln];omega)) [runDf.eq_def, runF1, runF2, stepF.eq_def, updo.eq_def, hupo.eq_def, opSto1.eq_def, List.take_succ_cons, List.take_zero, if_pos, g2, g13, Hr, hat, hat2, htm, hne, List.length_map]; rfl)
  refine DQ.sto1 (m := 15) [2, 3, 4, 5, 6, 7, 8, 9, 10, 11] _ (by simp (disch := first|omega|(simp only[ln];omega)) [runDf.eq_def, runF1, runF2, stepF.eq_def, updo.eq_def, hupo.eq_def, opSto1.eq_def, if_pos, g2, g13, Hr, hat, hat2, htm, hne, List.length_map]; rfl) rfl (by simp only[ln, hfs10, hfs21];omega) (by kernel_rfl) (by intro k f hk hex; simp only [List.mem_cons, List.not_mem_nil, or_false] at hex; rcases hex with rfl | rfl | rfl | rfl | rfl | rfl | rfl | rfl | rfl | rfl <;> (simp [List.getElem?_append, hfs10, hfs21] at hk; subst hk; refine ⟨?_, by first | omega | (simp; done) | (simp; omega)⟩; simp [qids, asksB, Op.operands, Call.operands, topId, numS, numI, Wd, hfq11, hfq12, hfq13, hfq14, hfq15, hfq16, hfq17, hfq18, hfq19, hfq20, g2, g13, g11]; try omega)) ?_
  try simp only []
  refine DQ.sto1 (m := 15) [] _ (by simp (disch := first|omega|(simp only[ln];omega)) [runDf.eq_def, runF1, runF2, stepF.eq_def, updo.eq_def, hupo.eq_def, opSto1.eq_def, if_pos, g2, g13, Hr, hat, hat2, htm, hne, List.length_map]; rfl) rfl (by simp only[ln, hfs10, hfs21];omega) (by kernel_rfl) (by intro k f hk hex; simp only [List.not_mem_nil] at hex) ?_
  try simp only []
  refine hK9 _ ?_
  refine .sq fun K22 hK22 => ?_
  refine .sq fun K23 hK23 => ?_
  refine .region ?_
  refine .kf 3 (between_fc A B p oa ob hp qa qb gp) hb179 ?_ (by simp (disch := first|omega|(simp only[ln];omega)) [List.take_succ_cons, List.take_zero, g3, Hp]; rfl) (ha := by simp (disch := first|omega|(simp only[ln];omega)) [idf_Wd', g3, Hp])
  refine .nil ?_
  refine hK23 _ ?_
  refine .c (t := btI A B p) (fun h34 => ?_) (fun h34 => ?_)
  ·try simp only[dc]at h34
   rw [if_pos h34] at hv
   refine .q ?_
   refine .ret ?_
   exact hK _ _ _ _ trivial ((Fin.m).cast (by rw [hv]; rfl))
  ·try simp only[dc]at h34
   rw [if_neg (by rw [h34]; simp)] at hv
   refine .skip ?_
   refine hK22 _ ?_
   refine .sq fun K25 hK25 => ?_
   refine .region ?_
   refine .kf 3 (crosses_fc A B p oa ob hp) hb180 ?_ (by simp (disch := first|omega|(simp only[ln];omega)) [List.take_succ_cons, List.take_zero, g3, Hp]; rfl) (ha := by simp (disch := first|omega|(simp only[ln];omega)) [idf_Wd', g3, Hp])
   refine .nil ?_
   refine hK25 _ ?_
   refine .c (t := cuI A B p) (fun h38 => ?_) (fun h38 => ?_)
   ·try simp only[dc]at h38
    refine .r ?_ (by simp (disch := first|omega|(simp only[ln];omega)) [g5]; rfl)
    refine J7 _ ?_
    refine ⟨!o, by rw [hv, h38]; cases o <;> rfl, ?_, ?_, ?_, ?_, ?_, ?_, ?_, ?_, ?_, ?_, rfl⟩ <;> first|(simp (disch := omega) [g2, g3, g5, g11, g12, g13, Hr, Hp];done)|omega|(simp;done)|(simp;omega)
   ·try simp only[dc]at h38
    refine .skip ?_
    refine J7 _ ?_
    refine ⟨o, by rw [hv, h38]; cases o <;> rfl, ?_, ?_, ?_, ?_, ?_, ?_, ?_, ?_, ?_, ?_, rfl⟩ <;> first|(simp (disch := omega) [g2, g3, g5, g11, g12, g13, Hr, Hp];done)|omega|(simp;done)|(simp;omega)
 ·try simp only[dc]at h14
  have hin : i = r.length := by omega
  rw [rgE_end (by omega), sdGo] at hv
  refine .exit ?_
  refine hK3 _ ?_
  refine .sq fun K26 hK26 => ?_
  refine .q ?_ (by simp (disch := first|omega|(simp only[ln];omega)) [g5]; rfl)
  refine .c (t := o) (fun h42 => ?_) (fun h42 => ?_)
  ·try simp only[dc]at h42
   refine .q ?_
   refine .ret ?_
   exact hK _ _ _ _ trivial ((Fin.m).cast (by rw [hv, h42]; rfl))
  ·try simp only[dc]at h42
   refine .skip ?_
   refine hK26 _ ?_
   refine .q ?_
   refine .ret ?_
   exact hK _ _ _ _ trivial ((Fin.m).cast (by rw [hv, h42]; rfl))
end
section
attribute [local simp] idf_numS cells_numS numS_fold idf_numI cells_numI numI_fold Sp.av Sp.cells Sg.av Sg.cells Pt.av Pt.cells l3A l3C
set_option maxHeartbeats 1000000 in
theorem l4On_fc (a b : Sp) (ga : a.good = true) (gb : b.good = true) (p : Pt) (hp : p.ok) : FC Try.prog 177 [.agg [.int .i64 a.x, .int .i64 a.y, .int .i64 b.x, .int .i64 b.y], l3A p.x.v p.y.v p.w.v] (.bool (btS (ptS a) (ptS b) p)) := by
 obtain ⟨a1, a2, a3⟩ := ptS_v ga
 obtain ⟨b1, b2, b3⟩ := ptS_v gb
 have ba := Sp.b ga
 have bb := Sp.b gb
 have sa := l3Spot_fc a.x a.y (by omega) (by omega) (by omega) (by omega)
 have sb := l3Spot_fc b.x b.y (by omega) (by omega) (by omega) (by omega)
 have k := l3Between_fc (ptS a) (ptS b) p (pt3_ok _ _ _) (pt3_ok _ _ _) hp
 rw [a1, a2, a3, b1, b2, b3] at k
 refine .b Try.func177 13 (fun nx K hK => ?_) (hi := by simp [idfL, idf, l3A, l3C, idf_Wd'])
 refine .q ?_
 refine .sq fun K2 hK2 => ?_
 refine .d 8 ?_
 refine .k 2 (fun fs3 hfs3 => ?_)
 refine .f sa hb142 ?_
 refine .k 2 (fun fs4 hfs4 => ?_)
 refine .f sb hb142 ?_
 refine .k 1 (fun fs5 hfs5 => ?_)
 refine .f k hb186 ?_
 refine .r 8 (by simp only[ln, hfs3, hfs4, hfs5];omega) ?_
 refine hK2 _ ?_
 refine .ret ?_
 exact hK _ _ _ _ trivial (Fin.m)
set_option maxHeartbeats 4000000 in
theorem l5In_fc (r : List Sp) (hg : spsGood r) (hl : r.length ≤ 1099511627776) (p : Pt) (hp : p.ok) (gp : p.good = true) (hd : ¬ rgDup r) (h3 : 3 ≤ r.length) : FC Try.prog 149 [.agg [.isl (r.map Sp.cells)], l3A p.x.v p.y.v p.w.v] (.int .i64 (rgV r p : Int)) := by
 refine .b Try.func149 32 (fun nx K hK => ?_) (hi := by simp [idfL, idf, idfLL_iff, Sp.cells, l3A, l3C, idf_Wd'])
 refine .q ?_
 refine .q ?_
 refine .sq fun K3 hK3 => ?_
 refine .q ?_
 refine .block ?_
 
 refine .loop (fun N s => ∃ i : Nat, ∃ o : Bool, N = r.length - i ∧ i ≤ r.length ∧ (rgV r p = sdv (sdGo btI cuI p ((rgE r).drop i) o)) ∧ s.env 2 = .ptr nx 0 0 ∧ s.env 3 = .ptr (nx + 1) 0 0 ∧ s.env 5 = .bool o ∧ s.env 6 = .int .i64 (i : Int) ∧ s.heap nx = some (1, [[.isl (r.map Sp.cells)]]) ∧ nx < s.nx ∧ s.heap (nx + 1) = some (6, [l3C p.x.v p.y.v p.w.v]) ∧ (nx + 1) < s.nx ∧ s.nt = 32) (r.length) (by refine ⟨0, false, by omega, by omega, rgV_start, ?_, ?_, ?_, ?_, ?_, ?_, ?_, ?_, rfl⟩ <;> first|(simp (disch := omega) [l3C];done)|omega|(simp;done)|(simp;omega)) ?_
 rintro N ⟨e, H, mm, nt⟩ ⟨i, o, rfl, hi, hv, g2, g3, g5, g6, Hr, xr, Hp, xp, rfl⟩
 simp only [] at g2 g3 g5 g6 Hr xr Hp xp
 refine .sq fun K5 hK5 => ?_
 refine .q ?_ (by simp (disch := first|omega|(simp only[ln];omega)) [g2, g6, Hr, List.length_map]; rfl)
 refine .c (fun h12 => ?_) (fun h12 => ?_)
 ·try simp only[dc]at h12
  have hi' : i < r.length := by omega
  have ga := hg _ (gs_mem hi')
  have gb := hg _ (gs_mem (nx1_lt hi'))
  have gsd := sd_good (by omega) hg hd hi'
  have sda := good_a gsd
  have sdb := good_b gsd
  obtain ⟨e1, e2⟩ := side_eq (p := p) ga gb hp gp
  have ba := Sp.b sda
  have bb := Sp.b sdb
  have k1 := l4On_fc (sd r i).a (sd r i).b sda sdb p hp
  have k2 := l5Cuts_fc (ptS (sd r i).a) (ptS (sd r i).b) p (pt3_ok _ _ _) (pt3_ok _ _ _) hp
  obtain ⟨a1, a2, a3⟩ := ptS_v sda
  obtain ⟨b1, b2, b3⟩ := ptS_v sdb
  rw [a1, a2, a3, b1, b2, b3] at k2
  have sa := l3Spot_fc (sd r i).a.x (sd r i).a.y (by omega) (by omega) (by omega) (by omega)
  have sb := l3Spot_fc (sd r i).b.x (sd r i).b.y (by omega) (by omega) (by omega) (by omega)
  have ks := l5Side_fc r i hi' hl
  rw [rgE_drop hi', sdGo] at hv
  rw [show btS (ptS (sd r i).a) (ptS (sd r i).b) p = btI (ptS (gs r i)) (ptS (nx1 r i)) p from e1] at k1
  rw [show cuS (ptS (sd r i).a) (ptS (sd r i).b) p = cuI (ptS (gs r i)) (ptS (nx1 r i)) p from e2] at k2
  generalize btI (ptS (gs r i)) (ptS (nx1 r i)) p = bt at *
  generalize cuI (ptS (gs r i)) (ptS (nx1 r i)) p = cu at *
  refine .skip ?_
  refine hK5 _ ?_
  refine .sq fun K7 hK7 => ?_
  have J7 : ∀ s : St, (∃ o' : Bool, (rgV r p = sdv (sdGo btI cuI p ((rgE r).drop (i + 1)) o')) ∧ s.env 2 = .ptr nx 0 0 ∧ s.env 3 = .ptr (nx + 1) 0 0 ∧ s.env 5 = .bool o' ∧ s.env 6 = .int .i64 (i : Int) ∧ s.heap nx = some (1, [[.isl (r.map Sp.cells)]]) ∧ nx < s.nx ∧ s.heap (nx + 1) = some (6, [l3C p.x.v p.y.v p.w.v]) ∧ (nx + 1) < s.nx ∧ s.nt = 32) → K7 s := by
   clear hv
   rintro ⟨e, H, mm, nt⟩ ⟨o', hv', g2j, g3j, g5j, g6j, Hrj, xrj, Hpj, xpj, rfl⟩
   simp only [] at g2j g3j g5j g6j Hrj xrj Hpj xpj
   refine hK7 _ ?_
   refine .r ?_ (by simp (disch := first|omega|(simp only[ln];omega)) [g2j, g3j, g5j, g6j, Hrj, Hpj]; rfl)
   refine ⟨r.length - (i + 1), by omega, i + 1, o', rfl, by omega, hv', ?_, ?_, ?_, ?_, ?_, ?_, ?_, ?_, rfl⟩ <;> first|(simp (disch := omega) [g2j, g3j, g5j, g6j, Hrj, Hpj];done)|omega|(simp;done)|(simp;omega)
  refine .block ?_
  refine .sq fun K8 hK8 => ?_
  refine .region ?_
  refine .kf 2 ks hb66 ?_ (by simp (disch := first|omega|(simp only[ln];omega)) [List.take_succ_cons, List.take_zero, g2, g6, Hr]; rfl) (ha := by simp (disch := first|omega|(simp only[ln];omega)) [idf_Wd', g2, g6, Hr])
  refine .e ?_ (by simp (disch := first|omega|(simp only[ln];omega)) [g2, g6, Hr]; rfl)
  refine hK8 _ ?_
  refine .sq fun K9 hK9 => ?_
  refine .sq fun K10 hK10 => ?_
  refine .region ?_
  refine .kf 2 k1 hb177 ?_ (by simp (disch := first|omega|(simp only[ln];omega)) [List.take_succ_cons, List.take_zero, g3, Hp]; rfl) (ha := by simp (disch := first|omega|(simp only[ln];omega)) [idf_Wd', g3, Hp])
  refine .nil ?_
  refine hK10 _ ?_
  refine .c (t := bt) (fun h20 => ?_) (fun h20 => ?_)
  ·try simp only[dc]at h20
   rw [if_pos h20] at hv
   refine .q ?_
   refine .ret ?_
   exact hK _ _ _ _ trivial ((Fin.m).cast (by rw [hv]; rfl))
  ·try simp only[dc]at h20
   rw [if_neg (by rw [h20]; simp)] at hv
   refine .skip ?_
   refine hK9 _ ?_
   refine .sq fun K12 hK12 => ?_
   refine .d 8 ?_
   refine .k 2 (fun fs13 hfs13 => ?_) (by simp (disch := first|omega|(simp only[ln];omega)) [runDf.eq_def, runF1, runF2, stepF.eq_def, updo.eq_def, hupo.eq_def, opSto1.eq_def, List.take_succ_cons, List.take_zero, g3, Hp]; rfl)
   refine .f sa hb142 ?_ (ha := by simp (disch := first|omega|(simp only[ln];omega)) [idf_Wd', g3, Hp])
   refine .k 2 (fun fs14 hfs14 => ?_) (by simp (disch := first|omega|(simp only[ln];omega)) [runDf.eq_def, runF1, runF2, stepF.eq_def, updo.eq_def, hupo.eq_def, opSto1.eq_def, List.take_succ_cons, List.take_zero, g3, Hp]; rfl)
   refine .f sb hb142 ?_ (ha := by simp (disch := first|omega|(simp only[ln];omega)) [idf_Wd', g3, Hp])
   refine .k 1 (fun fs15 hfs15 => ?_) (by simp (disch := first|omega|(simp only[ln];omega)) [runDf.eq_def, runF1, runF2, stepF.eq_def, updo.eq_def, hupo.eq_def, opSto1.eq_def, List.take_succ_cons, List.take_zero, g3, Hp]; rfl)
   refine .f k2 hb178 ?_ (ha := by simp (disch := first|omega|(simp only[ln];omega)) [idf_Wd', g3, Hp])
   refine .r 8 (by simp only[ln, hfs13, hfs14, hfs15];omega) ?_ (by simp (disch := first|omega|(simp only[ln];omega)) [runDf.eq_def, runF1, runF2, stepF.eq_def, updo.eq_def, hupo.eq_def, opSto1.eq_def, g3, Hp]; rfl)
   refine hK12 _ ?_
   refine .c (t := cu) (fun h28 => ?_) (fun h28 => ?_)
   ·try simp only[dc]at h28
    refine .r ?_ (by simp (disch := first|omega|(simp only[ln];omega)) [g5]; rfl)
    refine J7 _ ?_
    refine ⟨!o, by rw [hv, h28]; cases o <;> rfl, ?_, ?_, ?_, ?_, ?_, ?_, ?_, ?_, rfl⟩ <;> first|(simp (disch := omega) [g2, g3, g5, g6, Hr, Hp];done)|omega|(simp;done)|(simp;omega)
   ·try simp only[dc]at h28
    refine .skip ?_
    refine J7 _ ?_
    refine ⟨o, by rw [hv, h28]; cases o <;> rfl, ?_, ?_, ?_, ?_, ?_, ?_, ?_, ?_, rfl⟩ <;> first|(simp (disch := omega) [g2, g3, g5, g6, Hr, Hp];done)|omega|(simp;done)|(simp;omega)
 ·try simp only[dc]at h12
  have hin : i = r.length := by omega
  rw [rgE_end (by omega), sdGo] at hv
  refine .exit ?_
  refine hK3 _ ?_
  refine .sq fun K16 hK16 => ?_
  refine .q ?_ (by simp (disch := first|omega|(simp only[ln];omega)) [g5]; rfl)
  refine .c (t := o) (fun h31 => ?_) (fun h31 => ?_)
  ·try simp only[dc]at h31
   refine .q ?_
   refine .ret ?_
   exact hK _ _ _ _ trivial ((Fin.m).cast (by rw [hv, h31]; rfl))
  ·try simp only[dc]at h31
   refine .skip ?_
   refine hK16 _ ?_
   refine .q ?_
   refine .ret ?_
   exact hK _ _ _ _ trivial ((Fin.m).cast (by rw [hv, h31]; rfl))
end
section
attribute [local simp] Sp.av Sp.cells Sg.av Sg.cells Pt.av Pt.cells
set_option maxHeartbeats 1000000 in
theorem ringInI_fc (a b : List Sp) (ha : rgF a = 0) (hb : rgF b = 0) : FC Try.prog 97 [.agg [.isl (a.map Sp.cells)], .agg [.isl (b.map Sp.cells)]] (.bool (rgI a b)) := by
 obtain ⟨a1, a2, a3, a4, _⟩ := rgF_zero ha
 obtain ⟨b1, b2, b3, b4, _⟩ := rgF_zero hb
 have h0 : 0 < a.length := by omega
 have hat := rg_at h0
 have g0 := a3 _ (gs_mem h0)
 have q0 := ptS_gd g0
 have o0 : (ptS (gs a 0)).ok := pt3_ok _ _ _
 have w := wi_dec a b
 have hne : ¬ a = [] := by intro h; rw [h] at h0; simp at h0
 have c1 := ringsMeetI_fc a b ha hb
 have c2 := pointOfI_fc (gs a 0) g0
 have c3 := sideI_fc b b3 (by omega) (ptS (gs a 0)) o0 q0
 have e : rgI a b = (!rgsM a b && wiB a b) := rfl
 refine .b Try.func97 19 (fun nx K hK => ?_) (hi := by simp [idfL, idf, idfLL_iff, Sp.av, Sp.cells, Sg.av, Sg.cells])
 refine .q ?_
 refine .sq fun K2 hK2 => ?_
 cases hm : rgsM a b
 ·rw [hm] at c1
  generalize ptS (gs a 0) = A at *
  refine .d 14 ?_
  refine .k 2 (fun fs3 hfs3 => ?_) (by simp (disch := first|omega|(simp only[ln];omega)) [runDf.eq_def, runF1, runF2, stepF.eq_def, updo.eq_def, hupo.eq_def, opSto1.eq_def, List.take_succ_cons, List.take_zero, if_pos, hm, hat, w, h0, hne, List.length_map]; rfl)
  refine .f c1 hb82 ?_ (ha := by simp (disch := first|omega|(simp only[ln];omega)) [idf_Wd', if_pos, hm, hat, w, h0, hne, List.length_map])
  refine .k 7 (fun fs4 hfs4 => ?_) (by simp (disch := first|omega|(simp only[ln];omega)) [runDf.eq_def, runF1, runF2, stepF.eq_def, updo.eq_def, hupo.eq_def, opSto1.eq_def, List.take_succ_cons, List.take_zero, if_pos, hm, hat, w, h0, hne, List.length_map]; rfl)
  refine .f c2 hb135 ?_ (ha := by simp (disch := first|omega|(simp only[ln];omega)) [idf_Wd', if_pos, hm, hat, w, h0, hne, List.length_map])
  refine .f c3 hb150 ?_ (ha := by simp (disch := first|omega|(simp only[ln];omega)) [idf_Wd', if_pos, hm, hat, w, h0, hne, List.length_map])
  refine .k 2 (fun fs5 hfs5 => ?_) (by simp (disch := first|omega|(simp only[ln];omega)) [runDf.eq_def, runF1, runF2, stepF.eq_def, updo.eq_def, hupo.eq_def, opSto1.eq_def, List.take_succ_cons, List.take_zero, if_pos, hm, hat, w, h0, hne, List.length_map]; rfl)
  refine .r 14 (by simp only[ln, hfs3, hfs4, hfs5];omega) ?_ (by simp (disch := first|omega|(simp only[ln];omega)) [runDf.eq_def, runF1, runF2, stepF.eq_def, updo.eq_def, hupo.eq_def, opSto1.eq_def, if_pos, hm, hat, w, h0, hne, List.length_map]; rfl)
  refine hK2 _ ?_
  refine .ret ?_
  exact hK _ _ _ _ trivial ((Fin.m).cast (by rw [e, hm]; rfl))
 ·rw [hm] at c1
  refine .d 14 ?_
  refine .k 2 (fun fs6 hfs6 => ?_) (by simp (disch := first|omega|(simp only[ln];omega)) [runDf.eq_def, runF1, runF2, stepF.eq_def, updo.eq_def, hupo.eq_def, opSto1.eq_def, List.take_succ_cons, List.take_zero, if_pos, hm, hat]; rfl)
  refine .f c1 hb82 ?_ (ha := by simp (disch := first|omega|(simp only[ln];omega)) [idf_Wd', if_pos, hm, hat])
  refine .k 11 (fun fs7 hfs7 => ?_) (by simp (disch := first|omega|(simp only[ln];omega)) [runDf.eq_def, runF1, runF2, stepF.eq_def, updo.eq_def, hupo.eq_def, opSto1.eq_def, List.take_succ_cons, List.take_zero, if_pos, hm, hat]; rfl)
  refine .r 14 (by simp only[ln, hfs6, hfs7];omega) ?_ (by simp (disch := first|omega|(simp only[ln];omega)) [runDf.eq_def, runF1, runF2, stepF.eq_def, updo.eq_def, hupo.eq_def, opSto1.eq_def, if_pos, hm, hat]; rfl)
  refine hK2 _ ?_
  refine .ret ?_
  exact hK _ _ _ _ trivial ((Fin.m).cast (by rw [e, hm]; rfl))
end
section
attribute [local simp] idf_numS cells_numS numS_fold idf_numI cells_numI numI_fold Sp.av Sp.cells Sg.av Sg.cells Pt.av Pt.cells l3A l3C
set_option maxHeartbeats 1000000 in
theorem l5Within_fc (a b : List Sp) (ha : rgF a = 0) (hb : rgF b = 0) : FC Try.prog 96 [.agg [.isl (a.map Sp.cells)], .agg [.isl (b.map Sp.cells)]] (.bool (wiB a b)) := by
 obtain ⟨a1, a2, a3, a4, _⟩ := rgF_zero ha
 obtain ⟨b1, b2, b3, b4, _⟩ := rgF_zero hb
 have h0 : 0 < a.length := by omega
 have hat := rg_at h0
 have g0 := a3 _ (gs_mem h0)
 have q0 := ptS_gd g0
 have o0 : (ptS (gs a 0)).ok := pt3_ok _ _ _
 have w := wi_dec a b
 have hne : ¬ a = [] := by intro h; rw [h] at h0; simp at h0
 obtain ⟨p1, p2, p3⟩ := ptS_v g0
 have bp := Sp.b g0
 have c2 := l3Spot_fc (gs a 0).x (gs a 0).y (by omega) (by omega) (by omega) (by omega)
 have c3 := l5In_fc b b3 (by omega) (ptS (gs a 0)) o0 q0 b4 b1
 rw [p1, p2, p3] at c3
 refine .b Try.func96 13 (fun nx K hK => ?_) (hi := by simp [idfL, idf, idfLL_iff, Sp.av, Sp.cells, Sg.av, Sg.cells])
 refine .q ?_
 refine .sq fun K2 hK2 => ?_
 refine .d 8 ?_
 refine .k 5 (fun fs3 hfs3 => ?_) (by simp (disch := first|omega|(simp only[ln];omega)) [runDf.eq_def, runF1, runF2, stepF.eq_def, updo.eq_def, hupo.eq_def, opSto1.eq_def, List.take_succ_cons, List.take_zero, if_pos, hat, w, h0, hne, List.length_map]; rfl)
 refine .f c2 hb142 ?_ (ha := by simp (disch := first|omega|(simp only[ln];omega)) [idf_Wd', if_pos, hat, w, h0, hne, List.length_map])
 refine .f c3 hb149 ?_ (ha := by simp (disch := first|omega|(simp only[ln];omega)) [idf_Wd', if_pos, hat, w, h0, hne, List.length_map])
 refine .k 1 (fun fs4 hfs4 => ?_) (by simp (disch := first|omega|(simp only[ln];omega)) [runDf.eq_def, runF1, runF2, stepF.eq_def, updo.eq_def, hupo.eq_def, opSto1.eq_def, List.take_succ_cons, List.take_zero, if_pos, hat, w, h0, hne, List.length_map]; rfl)
 refine .r 8 (by simp only[ln, hfs3, hfs4];omega) ?_ (by simp (disch := first|omega|(simp only[ln];omega)) [runDf.eq_def, runF1, runF2, stepF.eq_def, updo.eq_def, hupo.eq_def, opSto1.eq_def, if_pos, hat, w, h0, hne, List.length_map]; rfl)
 refine hK2 _ ?_
 refine .ret ?_
 exact hK _ _ _ _ trivial (Fin.m)
end
section
attribute [local simp] Sp.av Sp.cells Sg.av Sg.cells
set_option maxHeartbeats 1000000 in
theorem ringInF_fc (a b : List Sp) (la : a.length ≤ 1099511627776) (lb : b.length ≤ 1099511627776) : FC Try.prog 44 [.agg [.isl (a.map Sp.cells)], .agg [.isl (b.map Sp.cells)]] (.bool (rgIn a b)) := by
 have e : rgIn a b = (decide (rgF a = 0) && (decide (rgF b = 0) && rgI a b)) := rfl
 refine .b Try.func44 16 (fun nx K hK => ?_) (hi := by simp [idfL, idf, idfLL_iff, Sp.av, Sp.cells, Sg.av, Sg.cells])
 refine .q ?_
 refine .sq fun K2 hK2 => ?_
 by_cases za : rgF a = 0
 ·have hda : decide (rgF a = 0) = true := decide_eq_true za
  by_cases zb : rgF b = 0
  ·have hdb : decide (rgF b = 0) = true := decide_eq_true zb
   have c1 := isRing_fc a la
   have c2 := isRing_fc b lb
   rw [hda] at c1
   rw [hdb] at c2
   have c3 := ringInI_fc a b za zb
   refine .region ?_
   refine .kf 1 c1 hb68 ?_ (by simp (disch := first|omega|(simp only[ln];omega)) [List.take_succ_cons, List.take_zero, hda, hdb]; rfl) (ha := by simp (disch := first|omega|(simp only[ln];omega)) [idf_Wd', hda, hdb])
   refine .kf 2 c2 hb68 ?_ (by simp (disch := first|omega|(simp only[ln];omega)) [List.take_succ_cons, List.take_zero, hda, hdb]; rfl) (ha := by simp (disch := first|omega|(simp only[ln];omega)) [idf_Wd', hda, hdb])
   refine .kf 4 c3 hb97 ?_ (by simp (disch := first|omega|(simp only[ln];omega)) [List.take_succ_cons, List.take_zero, hda, hdb]; rfl) (ha := by simp (disch := first|omega|(simp only[ln];omega)) [idf_Wd', hda, hdb])
   refine .e ?_ (by simp (disch := first|omega|(simp only[ln];omega)) [hda, hdb]; rfl)
   refine hK2 _ ?_
   refine .ret ?_
   exact hK _ _ _ _ trivial ((Fin.m).cast (by rw [e, hda, hdb]; rfl))
  ·have hdb : decide (rgF b = 0) = false := decide_eq_false zb
   have c1 := isRing_fc a la
   have c2 := isRing_fc b lb
   rw [hda] at c1
   rw [hdb] at c2
   refine .region ?_
   refine .kf 1 c1 hb68 ?_ (by simp (disch := first|omega|(simp only[ln];omega)) [List.take_succ_cons, List.take_zero, hda, hdb]; rfl) (ha := by simp (disch := first|omega|(simp only[ln];omega)) [idf_Wd', hda, hdb])
   refine .kf 2 c2 hb68 ?_ (by simp (disch := first|omega|(simp only[ln];omega)) [List.take_succ_cons, List.take_zero, hda, hdb]; rfl) (ha := by simp (disch := first|omega|(simp only[ln];omega)) [idf_Wd', hda, hdb])
   refine .e ?_ (by simp (disch := first|omega|(simp only[ln];omega)) [hda, hdb]; rfl)
   refine hK2 _ ?_
   refine .ret ?_
   exact hK _ _ _ _ trivial ((Fin.m).cast (by rw [e, hda, hdb]; rfl))
 ·have hda : decide (rgF a = 0) = false := decide_eq_false za
  have c1 := isRing_fc a la
  rw [hda] at c1
  refine .region ?_
  refine .kf 1 c1 hb68 ?_ (by simp (disch := first|omega|(simp only[ln];omega)) [List.take_succ_cons, List.take_zero, hda]; rfl) (ha := by simp (disch := first|omega|(simp only[ln];omega)) [idf_Wd', hda])
  refine .e ?_ (by simp (disch := first|omega|(simp only[ln];omega)) [hda]; rfl)
  refine hK2 _ ?_
  refine .ret ?_
  exact hK _ _ _ _ trivial ((Fin.m).cast (by rw [e, hda]; rfl))
set_option maxHeartbeats 1000000 in
theorem ringInS_fc (a b : List Sp) (la : a.length ≤ 1099511627776) (lb : b.length ≤ 1099511627776) : FC Try.prog 43 [.agg [.isl (a.map Sp.cells)], .agg [.isl (b.map Sp.cells)]] (.bool (rgIn a b)) := by
 have e : rgIn a b = (decide (rgF a = 0) && (decide (rgF b = 0) && rgI a b)) := rfl
 refine .b Try.func43 22 (fun nx K hK => ?_) (hi := by simp [idfL, idf, idfLL_iff, Sp.av, Sp.cells, Sg.av, Sg.cells])
 refine .q ?_
 refine .sq fun K2 hK2 => ?_
 by_cases za : rgF a = 0
 ·have hda : decide (rgF a = 0) = true := decide_eq_true za
  by_cases zb : rgF b = 0
  ·have hdb : decide (rgF b = 0) = true := decide_eq_true zb
   have c1 := l5Ok_fc a la
   have c2 := l5Ok_fc b lb
   rw [hda] at c1
   rw [hdb] at c2
   have c3 := l5Meet_fc a b za zb
   have c4 := l5Within_fc a b za zb
   have ei : rgI a b = (!rgsM a b && wiB a b) := rfl
   cases hm : rgsM a b
   ·rw [hm] at c3
    refine .region ?_
    refine .kf 1 c1 hb65 ?_ (by simp (disch := first|omega|(simp only[ln];omega)) [List.take_succ_cons, List.take_zero, hda, hdb, hm]; rfl) (ha := by simp (disch := first|omega|(simp only[ln];omega)) [idf_Wd', hda, hdb, hm])
    refine .kf 2 c2 hb65 ?_ (by simp (disch := first|omega|(simp only[ln];omega)) [List.take_succ_cons, List.take_zero, hda, hdb, hm]; rfl) (ha := by simp (disch := first|omega|(simp only[ln];omega)) [idf_Wd', hda, hdb, hm])
    refine .kf 4 c3 hb78 ?_ (by simp (disch := first|omega|(simp only[ln];omega)) [List.take_succ_cons, List.take_zero, hda, hdb, hm]; rfl) (ha := by simp (disch := first|omega|(simp only[ln];omega)) [idf_Wd', hda, hdb, hm])
    refine .kf 5 c4 hb96 ?_ (by simp (disch := first|omega|(simp only[ln];omega)) [List.take_succ_cons, List.take_zero, hda, hdb, hm]; rfl) (ha := by simp (disch := first|omega|(simp only[ln];omega)) [idf_Wd', hda, hdb, hm])
    refine .e ?_ (by simp (disch := first|omega|(simp only[ln];omega)) [hda, hdb, hm]; rfl)
    refine hK2 _ ?_
    refine .ret ?_
    exact hK _ _ _ _ trivial ((Fin.m).cast (by rw [e, hda, hdb, ei, hm]; rfl))
   ·rw [hm] at c3
    refine .region ?_
    refine .kf 1 c1 hb65 ?_ (by simp (disch := first|omega|(simp only[ln];omega)) [List.take_succ_cons, List.take_zero, hda, hdb, hm]; rfl) (ha := by simp (disch := first|omega|(simp only[ln];omega)) [idf_Wd', hda, hdb, hm])
    refine .kf 2 c2 hb65 ?_ (by simp (disch := first|omega|(simp only[ln];omega)) [List.take_succ_cons, List.take_zero, hda, hdb, hm]; rfl) (ha := by simp (disch := first|omega|(simp only[ln];omega)) [idf_Wd', hda, hdb, hm])
    refine .kf 4 c3 hb78 ?_ (by simp (disch := first|omega|(simp only[ln];omega)) [List.take_succ_cons, List.take_zero, hda, hdb, hm]; rfl) (ha := by simp (disch := first|omega|(simp only[ln];omega)) [idf_Wd', hda, hdb, hm])
    refine .e ?_ (by simp (disch := first|omega|(simp only[ln];omega)) [hda, hdb, hm]; rfl)
    refine hK2 _ ?_
    refine .ret ?_
    exact hK _ _ _ _ trivial ((Fin.m).cast (by rw [e, hda, hdb, ei, hm]; rfl))
  ·have hdb : decide (rgF b = 0) = false := decide_eq_false zb
   have c1 := l5Ok_fc a la
   have c2 := l5Ok_fc b lb
   rw [hda] at c1
   rw [hdb] at c2
   refine .region ?_
   refine .kf 1 c1 hb65 ?_ (by simp (disch := first|omega|(simp only[ln];omega)) [List.take_succ_cons, List.take_zero, hda, hdb]; rfl) (ha := by simp (disch := first|omega|(simp only[ln];omega)) [idf_Wd', hda, hdb])
   refine .kf 2 c2 hb65 ?_ (by simp (disch := first|omega|(simp only[ln];omega)) [List.take_succ_cons, List.take_zero, hda, hdb]; rfl) (ha := by simp (disch := first|omega|(simp only[ln];omega)) [idf_Wd', hda, hdb])
   refine .e ?_ (by simp (disch := first|omega|(simp only[ln];omega)) [hda, hdb]; rfl)
   refine hK2 _ ?_
   refine .ret ?_
   exact hK _ _ _ _ trivial ((Fin.m).cast (by rw [e, hda, hdb]; rfl))
 ·have hda : decide (rgF a = 0) = false := decide_eq_false za
  have c1 := l5Ok_fc a la
  rw [hda] at c1
  refine .region ?_
  refine .kf 1 c1 hb65 ?_ (by simp (disch := first|omega|(simp only[ln];omega)) [List.take_succ_cons, List.take_zero, hda]; rfl) (ha := by simp (disch := first|omega|(simp only[ln];omega)) [idf_Wd', hda])
  refine .e ?_ (by simp (disch := first|omega|(simp only[ln];omega)) [hda]; rfl)
  refine hK2 _ ?_
  refine .ret ?_
  exact hK _ _ _ _ trivial ((Fin.m).cast (by rw [e, hda]; rfl))
set_option maxHeartbeats 1000000 in
theorem fnExactRingIn_fc (a b : List Sp) (ha : a.length ≤ 9223372036854775807) (hb : b.length ≤ 9223372036854775807) : FC Try.prog 8 [.agg [.isl (a.map Sp.cells)], .agg [.isl (b.map Sp.cells)]] (.bool true) := by
 obtain ⟨v, hv⟩ : ∃ v, rgIn a b = v := ⟨_, rfl⟩
 refine .b Try.func8 45 (fun nx K hK => ?_) (hi := by simp [idfL, idf, idfLL_iff, Sp.av, Sp.cells, Sg.av, Sg.cells])
 refine .q ?_
 refine .q ?_
 refine .sq fun K3 hK3 => ?_
 refine .region ?_
 refine .kf 2 (szRing_fc a 1048576 (by omega) (by omega) ha) hb17 ?_
 refine .e ?_
 refine hK3 _ ?_
 refine .sq fun K4 hK4 => ?_
 refine .q ?_
 refine .c (t := decide (szN a.length 1048576 < 0)) (fun h14 => ?_) (fun h14 => ?_)
 ·try simp only[dc]at h14
  refine .q ?_
  refine .ret ?_
  exact hK _ _ _ _ trivial ((Fin.m))
 ·try simp only[dc]at h14
  obtain ⟨k1, e1⟩ := szN_le h14
  rw [e1]
  have a2 : a.length ≤ 1048576 := by omega
  have a3 : a.length ≤ 1099511627776 := by omega
  refine .skip ?_
  refine hK4 _ ?_
  refine .sq fun K7 hK7 => ?_
  refine .region ?_
  refine .kf 2 (szRing_fc b (1048576 - (a.length : Int)) (by omega) (by omega) hb) hb17 ?_
  refine .e ?_
  refine hK7 _ ?_
  refine .sq fun K8 hK8 => ?_
  refine .q ?_
  refine .c (t := decide (szN b.length (1048576 - (a.length : Int)) < 0)) (fun h19 => ?_) (fun h19 => ?_)
  ·try simp only[dc]at h19
   refine .q ?_
   refine .ret ?_
   exact hK _ _ _ _ trivial ((Fin.m))
  ·try simp only[dc]at h19
   obtain ⟨k2, _⟩ := szN_le h19
   have b2 : b.length ≤ 1048576 := by omega
   have b3 : b.length ≤ 1099511627776 := by omega
   have cs := ringInS_fc a b a3 b3
   have ci := ringInF_fc a b a3 b3
   rw [hv] at cs ci
   refine .skip ?_
   refine hK8 _ ?_
   refine .sq fun K11 hK11 => ?_
   refine .d 5 ?_
   refine .k 1 (fun fs12 hfs12 => ?_)
   refine .f (toRing_fc a a2) hb19 ?_
   refine .k 1 (fun fs13 hfs13 => ?_)
   refine .f (toRing_fc b b2) hb19 ?_
   refine .f cs hb43 ?_
   refine .r 5 (by simp only[ln, hfs12, hfs13];omega) ?_
   refine hK11 _ ?_
   refine .sq fun K14 hK14 => ?_
   refine .region ?_
   refine .kf 1 (toRing_fc a a2) hb19 ?_
   refine .e ?_
   refine hK14 _ ?_
   refine .sq fun K15 hK15 => ?_
   refine .region ?_
   refine .kf 1 (toRing_fc b b2) hb19 ?_
   refine .e ?_
   refine hK15 _ ?_
   refine .sq fun K16 hK16 => ?_
   refine .region ?_
   refine .kf 2 ci hb44 ?_
   refine .e ?_
   refine hK16 _ ?_
   refine .sq fun K17 hK17 => ?_
   refine .q ?_
   refine .c (fun h34 => ?_) (fun h34 => ?_)
   ·simp at h34
   ·try simp only[dc]at h34
    refine .skip ?_
    refine hK17 _ ?_
    refine .sq fun K19 hK19 => ?_
    refine .sq fun K20 hK20 => ?_
    refine .d 5 ?_
    refine .k 2 (fun fs21 hfs21 => ?_)
    refine .f (toRing_fc a a2) hb19 ?_
    refine .f (eqRing_fc a ha) hb22 ?_
    refine .k 1 (fun fs22 hfs22 => ?_)
    refine .r 5 (by simp only[ln, hfs21, hfs22];omega) ?_
    refine hK20 _ ?_
    refine .c (fun h39 => ?_) (fun h39 => ?_)
    ·simp at h39
    ·try simp only[dc]at h39
     refine .skip ?_
     refine hK19 _ ?_
     refine .sq fun K23 hK23 => ?_
     refine .sq fun K24 hK24 => ?_
     refine .d 5 ?_
     refine .k 2 (fun fs25 hfs25 => ?_)
     refine .f (toRing_fc b b2) hb19 ?_
     refine .f (eqRing_fc b hb) hb22 ?_
     refine .k 1 (fun fs26 hfs26 => ?_)
     refine .r 5 (by simp only[ln, hfs25, hfs26];omega) ?_
     refine hK24 _ ?_
     refine .c (fun h44 => ?_) (fun h44 => ?_)
     ·simp at h44
     ·try simp only[dc]at h44
      refine .skip ?_
      refine hK23 _ ?_
      refine .q ?_
      refine .ret ?_
      exact hK _ _ _ _ trivial ((Fin.m))
end

end Go.Proofs.Ytdcajfgeleopiaa
