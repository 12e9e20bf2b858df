/- FOR THE EYE ALONE (no claim bears it): code is printed short. -/
import Derived.Calls
import Lean
open Lean PrettyPrinter
@[app_unexpander Go.Item.code] def unexp1 : Unexpander := fun _ => `(CODE)
@[app_unexpander Go.Item.inLoop] def unexp2 : Unexpander := fun _ => `(LOOP)
@[app_unexpander Go.Item.inRegion] def unexp4 : Unexpander := fun _ => `(REGION)
@[app_unexpander Go.Oper.mk] def unexp3 : Unexpander
  | `($_ $d $op $_ $_ $_ $g) => `(($d, $op, $g))
  | _ => throw ()
