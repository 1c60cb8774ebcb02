import Derived.Test.YtdhoappjadnhcaaGreatG13
import Derived.Test.YtdhoappjadnhcaaGreatHCTQE
/-
  My own texts (road H): HCTVE.
-/
set_option maxHeartbeats 8000000
set_option linter.unusedSimpArgs false
set_option linter.unusedVariables false
namespace HT
open Go Go.Proofs HK
def Eng.tw (d : Eng) : Nat := (d.gs.map Gor.wt).sum + (d.chans.map Chan.wt).sum + (d.mus.map Mutex.wt).sum
theorem Eng.tw_le (d : Eng) : d.tw ≤ 8 * d.sz := by
  have h1 := wt_le (f := Gor.wt) (g := Gor.sz) (fun x => by simp only [Gor.wt, Gor.sz]; omega) d.gs
  have h2 := wt_le (f := Chan.wt) (g := Chan.sz) (fun x => by simp only [Chan.wt, Chan.sz]; omega) d.chans
  have h3 := wt_le (f := Mutex.wt) (g := Mutex.sz) (fun x => by simp only [Mutex.wt, Mutex.sz]; omega) d.mus
  simp only [Eng.tw, Eng.sz]; omega
end HT
