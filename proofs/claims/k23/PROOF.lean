import PyProof.Rows.All
import Wide.All
import OpenK.AllK
import Wide.FinOn
import PySem.Challenge.RW_lockhouse_k23_fewest_told
open PySem PySem.W PyProof.Rows
set_option Elab.async false
set_option maxRecDepth 100000 in
set_option maxHeartbeats 8000000 in
theorem PySem.Challenge.cw_lockhouse_k23_fewest_told_holds : PySem.Challenge.rw_lockhouse_k23_fewest_told.Holds := by
  open_k
