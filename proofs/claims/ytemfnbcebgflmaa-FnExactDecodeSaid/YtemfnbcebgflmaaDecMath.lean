/- What a word says at a level, in numbers. Nothing of the program. -/
import Derived.Test.YtemfnbcebgflmaaBitsMath
namespace Go.Proofs.Ytemfnbcebgflmaa.DecMath

/-- Decode, in numbers: kind, output, permissions. -/
def dec (l w : Int) : Int × Int × Int :=
  if l < 1 ∨ l > 3 then (4, 0, 0)
  else if w % 2 = 0 then (0, 0, 0)
  else if (w / 32) % 128 ≠ 0 ∨ (w / 268435456) % 68719476736 ≠ 0 then (4, 0, 0)
  else if l ≤ 2 ∧ (w / 2) % 2 = 1 ∧ (w / 4) % 8 = 0 then (1, (w / 4096) % 65536, 0)
  else if l = 2 ∧ (w / 2) % 2 = 0 ∧ (w / 4) % 8 > 0 ∧ (w / 4096) % 65536 % 16 = 0 then (2, (w / 4096) % 65536, (w / 4) % 8)
  else if l = 3 ∧ (w / 2) % 2 = 1 ∧ (w / 4) % 8 > 0 then (3, (w / 4096) % 65536, (w / 4) % 8)
  else (4, 0, 0)

end Go.Proofs.Ytemfnbcebgflmaa.DecMath
