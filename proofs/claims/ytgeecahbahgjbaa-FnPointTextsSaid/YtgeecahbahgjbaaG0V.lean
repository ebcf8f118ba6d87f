/- What a block holds may be told more weakly. -/
import Derived.Test.YtgeecahbahgjbaaG0U

namespace Go.Proofs.Ytgeecahbahgjbaa
open Go Go.RowKit

theorem AWP.weakH {P : Program} {c : Code} {K : Exit → St → Prop} {s : St} (id z : Nat) (es es' : List (List AV)) (hH : s.heap id = some (z, es)) (hw : ∀ w β b vss, VRLL w β b es vss → VRLL w β b es' vss)
    (h : AWP P c K { s with heap := hupd s.heap id (some (z, es')) }) : AWP P c K s := by
  intro w0 w β a Q hs hq
  refine h w0 w β a Q ⟨⟨hs.hr.below, fun i z2 es2 he => ?_, fun i l hl => ?_, hs.hr.inj⟩, hs.defers, hs.size, hs.env⟩ hq
  · simp only [hupd] at he
    split at he
    · rename_i hi
      subst hi
      simp only [Option.some.injEq, Prod.mk.injEq] at he
      obtain ⟨rfl, rfl⟩ := he
      obtain ⟨l, hl, hz, c, elem, hg, vss, hv, hc⟩ := hs.hr.blk i z es hH
      exact ⟨l, hl, hz, c, elem, hg, vss, hw _ _ _ _ hv, hc⟩
    · exact hs.hr.blk i z2 es2 he
  · obtain ⟨h1, h2⟩ := hs.hr.dom i l hl
    refine ⟨fun hn => h1 ?_, h2⟩
    simp only [hupd] at hn
    split at hn
    · rename_i hi; subst hi; rw [hH]; simp
    · exact hn
end Go.Proofs.Ytgeecahbahgjbaa
