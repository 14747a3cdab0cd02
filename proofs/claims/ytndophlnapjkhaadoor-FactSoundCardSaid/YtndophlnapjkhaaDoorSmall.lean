/- The chapter's graph, and what is found in it: closed, by the kernel. Conditions: none. -/
import Derived.Test.YtndophlnapjkhaaDoorLaw1
namespace Go.Proofs.YtndophlnapjkhaaDoor.Vc
open Go Go.RowKit
set_option linter.unusedVariables false
def smallL : List GNode := [⟨4, 0, ⟨#[]⟩, [], []⟩, ⟨2, 0, ⟨#[]⟩, [], []⟩, ⟨8, 0, ⟨#[]⟩, [], [0, 1]⟩, ⟨7, 0, ⟨#[]⟩, [⟨#[97]⟩], [0]⟩, ⟨7, 0, ⟨#[]⟩, [⟨#[97]⟩], [2]⟩, ⟨1, 0, ⟨#[]⟩, [], []⟩, ⟨9, 0, ⟨#[]⟩, [], [3]⟩]
theorem small_check : checkG smallL = 0 := by kernel_rfl
theorem small1 : findErr smallL [(0, 2)] = 0 ∧ allF smallL [(0, 2)] = ([0], [⟨0, 2, [0]⟩]) := ⟨by kernel_rfl, by kernel_rfl⟩
theorem small2 : findErr smallL [(3, 4)] = 0 ∧ allF smallL [(3, 4)] = ([0], [⟨3, 4, [0, 1]⟩, ⟨0, 2, [0]⟩]) := ⟨by kernel_rfl, by kernel_rfl⟩
theorem small3 : findErr smallL [(6, 4), (2, 5)] = 0 ∧ allF smallL [(6, 4), (2, 5)] = ([0, 3], [⟨6, 4, [-1, 1]⟩, ⟨3, 4, [0, 2]⟩, ⟨0, 2, [0]⟩, ⟨2, 5, [4, 5]⟩, ⟨0, 5, [0]⟩, ⟨1, 5, [0]⟩]) := ⟨by kernel_rfl, by kernel_rfl⟩
theorem small4 : findErr smallL [(2, 0)] = 160 := by kernel_rfl
theorem small5 : findErr smallL [(7, 0)] = 9 := by kernel_rfl
theorem small6 : checkF smallL [⟨0, 1, [0]⟩] = 0 ∧ firstF smallL [⟨0, 1, [0]⟩] = 0 := ⟨by kernel_rfl, by kernel_rfl⟩
theorem small7 : checkF smallL [⟨3, 4, [0, 0]⟩] = 0 ∧ firstF smallL [⟨3, 4, [0, 0]⟩] = 0 := ⟨by kernel_rfl, by kernel_rfl⟩
theorem small8 : checkF smallL [⟨5, 0, [0]⟩] = 0 ∧ hereF smallL [⟨5, 0, [0]⟩] 0 = true := ⟨by kernel_rfl, by kernel_rfl⟩
theorem small9 : checkF smallL [⟨0, 5, [0]⟩] = 0 ∧ hereF smallL [⟨0, 5, [0]⟩] 0 = false ∧ onF smallL (fat [⟨0, 5, [0]⟩] 0) = [] := ⟨by kernel_rfl, by kernel_rfl, by kernel_rfl⟩
end Go.Proofs.YtndophlnapjkhaaDoor.Vc
