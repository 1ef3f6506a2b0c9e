/- Rows of sheets; plain, and same of equal ones. -/
import Derived.Test.YtokdclbfjlnnjaaR30
namespace Go.Proofs.Ytokdclbfjlnnjaa
open Go.RowKit Go.BigFrame

/-- A sheet: where it begins, its figure's width, height and shapes, and whose they are. -/
structure Sht where
  x : Int
  wd : Int
  ht : Int
  sh : List Sh
  of_ : List Int
/-- A sheet's five cells. -/
def ShtAt (w : World) (b off i : Nat) (s : Sht) (av : Option Addr) (cv : Nat) (ao : Option Addr) (co : Nat) : Prop :=
  w.cell? ⟨b, off + i * 5, none⟩ = some (.int .i64 s.x) ∧ w.cell? ⟨b, off + i * 5 + 1, none⟩ = some (.int .i64 s.wd) ∧ w.cell? ⟨b, off + i * 5 + 2, none⟩ = some (.int .i64 s.ht) ∧ w.cell? ⟨b, off + i * 5 + 3, none⟩ = some (.slice av s.sh.length cv) ∧
    w.cell? ⟨b, off + i * 5 + 4, none⟩ = some (.slice ao s.of_.length co) ∧ Shs w (.slice av s.sh.length cv) s.sh ∧ Ints w (.slice ao s.of_.length co) s.of_
def Shts (w : World) (v : Value) (l : List Sht) : Prop := ∃ a c, v = .slice a l.length c ∧ l.length ≤ 1000 ∧ (a = none → c = 0) ∧ ∀ i s, l[i]? = some s → ∃ b off av cv ao co, a = some ⟨b, off, none⟩ ∧ ShtAt w b off i s av cv ao co
theorem ShtAt.aft {w w' : World} {b off i : Nat} {s : Sht} {av : Option Addr} {cv : Nat} {ao : Option Addr} {co : Nat} (h : ShtAt w b off i s av cv ao co) (hw : Aft w w') : ShtAt w' b off i s av cv ao co := by
  obtain ⟨h0, h1, h2, h3, h4, h5, h6⟩ := h
  have tr : ∀ {b o : Nat} {v : Value}, w.cell? ⟨b, o, none⟩ = some v → w'.cell? ⟨b, o, none⟩ = some v := fun h => (hw.cell (World.block_lt_of_cell? _ _ h)).trans h
  exact ⟨tr h0, tr h1, tr h2, tr h3, tr h4, h5.aft hw, h6.aft hw⟩
theorem Shts.aft {w w' : World} {v : Value} {l : List Sht} (h : Shts w v l) (hw : Aft w w') : Shts w' v l := by
  obtain ⟨a, c, e, hl, hn, h⟩ := h
  refine ⟨a, c, e, hl, hn, fun i s hs => ?_⟩
  obtain ⟨b, off, av, cv, ao, co, e, h⟩ := h i s hs
  exact ⟨b, off, av, cv, ao, co, e, h.aft hw⟩
theorem Shts.nil (w : World) : Shts w (.slice none 0 0) [] := ⟨none, 0, rfl, by simp, fun _ => rfl, fun i s h => by simp at h⟩

end Go.Proofs.Ytokdclbfjlnnjaa
