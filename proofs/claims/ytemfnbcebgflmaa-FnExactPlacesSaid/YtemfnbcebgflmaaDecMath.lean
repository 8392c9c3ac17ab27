/- What a word says at a level, in numbers. Nothing of the program. -/
import Derived.Test.YtemfnbcebgflmaaBitsMath
namespace Go.Proofs.Ytemfnbcebgflmaa.DecMath

/-- Decode, in numbers: kind, output, permissions. -/
def dec (l w : Int) : Int × Int × Int :=
  if l < 1 ∨ l > 3 then (4, 0, 0)
  else if w % 2 = 0 then (0, 0, 0)
  else if (w / 32) % 128 ≠ 0 ∨ (w / 268435456) % 68719476736 ≠ 0 then (4, 0, 0)
  else if l ≤ 2 ∧ (w / 2) % 2 = 1 ∧ (w / 4) % 8 = 0 then (1, (w / 4096) % 65536, 0)
  else if l = 2 ∧ (w / 2) % 2 = 0 ∧ (w / 4) % 8 > 0 ∧ (w / 4096) % 65536 % 16 = 0 then (2, (w / 4096) % 65536, (w / 4) % 8)
  else if l = 3 ∧ (w / 2) % 2 = 1 ∧ (w / 4) % 8 > 0 then (3, (w / 4096) % 65536, (w / 4) % 8)
  else (4, 0, 0)

/-- Encode, in numbers. -/
def enc (l : Int) (d : Int × Int × Int) : Int :=
  if (d.1 ≠ 1 ∧ d.1 ≠ 2 ∧ d.1 ≠ 3) ∨ d.2.1 < 0 ∨ d.2.1 ≥ 65536 ∨ d.2.2 < 0 ∨ d.2.2 > 7 then 0
  else if dec l (1 + d.2.2 * 4 + d.2.1 * 4096 + (if d.1 = 2 then 0 else 2)) = d then 1 + d.2.2 * 4 + d.2.1 * 4096 + (if d.1 = 2 then 0 else 2) else 0

end Go.Proofs.Ytemfnbcebgflmaa.DecMath
