-- wip/slice2.py
import Derived.Test.YtimbbaoodjhdoaaZPlanBent2

set_option maxHeartbeats 8000000
set_option maxRecDepth 100000
open Go.Proofs.YtimbbaoodjhdoaaW Go.Proofs.Ytimbbaoodjhdoaa
section
namespace Go.Proofs.Ytimbbaoodjhdoaa.Plan
open Go.RowKit PAll Plain PrintWords ZipT PrintWords.Kd PrintMore.Kd
set_option linter.unusedVariables false
set_option linter.unusedSimpArgs false
theorem walkN_append {f : List Tb} : ∀ (l m : List No) (done : List Nd), (walkN f l done).2 = 0 → walkN f (l ++ m) done = walkN f m (walkN f l done).1
 | [], _, _, _ => rfl
 | x :: r, m, done, h => by
  rw [List.cons_append]
  unfold walkN at h
  rw [show walkN f (x :: r) done = if (look f done x).2 = 0 then walkN f r (done ++ [(look f done x).1]) else ([], (look f done x).2) from rfl]
  rw [show walkN f (x :: (r ++ m)) done = if (look f done x).2 = 0 then walkN f (r ++ m) (done ++ [(look f done x).1]) else ([], (look f done x).2) from rfl]
  split at h
  ·
   rename_i he; rw [if_pos he, if_pos he]; exact walkN_append r m _ h
  ·
   rename_i he; exact absurd h he
end Go.Proofs.Ytimbbaoodjhdoaa.Plan
end
