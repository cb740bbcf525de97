/- Zrc, PmZk, WoL, put together. -/
import Derived.Test.YtmbboaapillefaaGreatDoorPk6
import Derived.KernelRfl
namespace Go.Proofs.YtmbboaapillefaaGreatDoor
open Go Xe Pm
set_option maxRecDepth 100000
abbrev ii (z : Int) : D:=.v (.int .i64 z)
def k387 : Known:=⟨2000013000077000001000024000001000010,25,[.g [.w 2000003000020000004000032,.w 2000003000020000004000035]],
 [(2000003000020000004000035,.w 52 31 2 [ii 0,ii 1,ii 1,ii 2,ii 0,ii 1,ii 0,.v (bs [102]),.sl 1 11 [ii 0,ii 1,ii 2,.v (bs [97]),ii 0,ii
 0,ii 0,ii 0,.v (.slice none 0 0),ii 0,ii 0],ii 0,ii 0,ii 0,ii 0,.v (.slice none 0 0),ii 0,ii 1,ii 5,ii 3,ii 0,ii 0,ii 1,ii 3,ii
 0,ii 0,ii 0,ii 0,.v (.slice none 0 0),.sl 1 15 [ii 0,ii 1,ii 6,ii 2,ii 0,ii 0,ii 1,ii 2,ii 0,ii 0,ii 0,ii 0,.v (.slice none 0 0),
 .v (.slice none 0 0),.v (.slice none 0 0)],.v (.slice none 0 0),ii 0,.v (.slice none 0 0),ii 0,ii 1,ii 3,ii 2,ii 0,ii 1,ii 0,.v (bs
 [102]),.sl 1 11 [ii 0,ii 1,ii 4,.v (bs [97]),ii 0,ii 0,ii 0,ii 0,.v (.slice none 0 0),ii 0,ii 0],ii 0,ii 0,ii 0,ii 0,.v (.slice none
 0 0),ii 0,ii 1,ii 7,ii 2,ii 0,ii 0,ii 1,ii 4,ii 0,ii 0,ii 0,ii 0,.v (.slice none 0 0),.v (.slice none 0 0),.v (.slice none 0 0),ii
 0,.v (.slice none 0 0)]),(2000003000020000004000032,.w 60 6 1 [ii 0,ii 1,ii 0,.v (bs [109]),.v (.slice none 0 0),.sl 2 3 [ii 0,ii 1,ii 1,
 ii 0,ii 1,ii 3]])],.c (.y 2000013000077000001000024000001000011000038000105000024000025000004000022 0 38 0 8),[(2000003000020000004000032,.w 60
 6 1 [ii 0,ii 1,ii 0,.v (bs [109]),.v (.slice none 0 0),.sl 2 3 [ii 0,ii 1,ii 1,ii 0,ii 1,ii 3]]),(2000003000020000004000035,.w 52 31 2
 [ii 0,ii 1,ii 1,ii 2,ii 0,ii 1,ii 0,.v (bs [102]),.sl 1 11 [ii 0,ii 1,ii 2,.v (bs [97]),ii 0,ii 0,ii 0,ii 0,.v (.slice none 0 0),ii
 0,ii 0],ii 0,ii 0,ii 0,ii 0,.v (.slice none 0 0),ii 0,ii 1,ii 5,ii 3,ii 0,ii 0,ii 1,ii 3,ii 0,ii 0,ii 0,ii 0,.v (.slice none 0
 0),.sl 1 15 [ii 0,ii 1,ii 6,ii 2,ii 0,ii 0,ii 1,ii 2,ii 0,ii 0,ii 0,ii 0,.v (.slice none 0 0),.v (.slice none 0 0),.v (.slice none 0
 0)],.v (.slice none 0 0),ii 0,.v (.slice none 0 0),ii 0,ii 1,ii 3,ii 2,ii 0,ii 1,ii 0,.v (bs [102]),.sl 1 11 [ii 0,ii 1,ii 4,.v (bs
 [97]),ii 0,ii 0,ii 0,ii 0,.v (.slice none 0 0),ii 0,ii 0],ii 0,ii 0,ii 0,ii 0,.v (.slice none 0 0),ii 0,ii 1,ii 7,ii 2,ii 0,ii 0,
 ii 1,ii 4,ii 0,ii 0,ii 0,ii 0,.v (.slice none 0 0),.v (.slice none 0 0),.v (.slice none 0 0),ii 0,.v (.slice none 0 0)]),
 (2000013000077000001000024000001000011000038000105000024000025000004000022,.w 70 38 8 [ii 0,ii 1,ii 0,ii 0,.v (bs [109]),.v (.slice none 0 0),
 ii 0,ii 0,ii 0,ii 0,ii 0,ii 0,ii 0,ii 0,ii 0,.v (.slice none 0 0),ii 0,ii 0,ii 0,.v (.slice none 0 0),ii 0,ii 0,ii 0,ii 0,.v
 (.slice none 0 0),ii 0,ii 0,ii 0,ii 0,ii 0,ii 0,ii 0,ii 0,ii 0,ii 0,.v (.slice none 0 0),.v (.slice none 0 0),.v (.slice none 0 0),ii
 0,ii 1,ii 1,ii 2,.v (bs [102]),.v (.slice none 0 0),ii 2,ii 0,ii 1,ii 0,ii 0,ii 0,ii 0,ii 0,ii 0,.v (.slice none 0 0),ii 0,ii 1,ii
 5,.v (.slice none 0 0),ii 0,ii 0,ii 0,ii 0,.v (.slice none 0 0),ii 0,ii 0,ii 0,ii 0,ii 0,ii 0,ii 0,ii 0,ii 0,ii 0,.v (.slice none 0
 0),.v (.slice none 0 0),.v (.slice none 0 0),ii 0,ii 1,ii 2,ii 3,.v (bs [97]),.v (.slice none 0 0),ii 0,ii 0,ii 1,ii 1,ii 0,ii 0,ii
 0,ii 0,ii 0,.v (.slice none 0 0),ii 0,ii 0,ii 0,.v (.slice none 0 0),ii 0,ii 0,ii 0,ii 0,.v (.slice none 0 0),ii 0,ii 0,ii 0,ii 0,
 ii 0,ii 0,ii 0,ii 0,ii 0,ii 0,.v (.slice none 0 0),.v (.slice none 0 0),.v (.slice none 0 0),ii 0,ii 1,ii 3,ii 2,.v (bs [102]),.v
 (.slice none 0 0),ii 2,ii 0,ii 1,ii 0,ii 0,ii 0,ii 0,ii 0,ii 0,.v (.slice none 0 0),ii 0,ii 1,ii 7,.v (.slice none 0 0),ii 0,ii 0,
 ii 0,ii 0,.v (.slice none 0 0),ii 0,ii 0,ii 0,ii 0,ii 0,ii 0,ii 0,ii 0,ii 0,ii 0,.v (.slice none 0 0),.v (.slice none 0 0),.v (.slice
 none 0 0),ii 0,ii 1,ii 4,ii 3,.v (bs [97]),.v (.slice none 0 0),ii 0,ii 0,ii 1,ii 3,ii 0,ii 0,ii 0,ii 0,ii 0,.v (.slice none 0 0),
 ii 0,ii 0,ii 0,.v (.slice none 0 0),ii 0,ii 0,ii 0,ii 0,.v (.slice none 0 0),ii 0,ii 0,ii 0,ii 0,ii 0,ii 0,ii 0,ii 0,ii 0,ii 0,.v
 (.slice none 0 0),.v (.slice none 0 0),.v (.slice none 0 0),ii 0,ii 1,ii 5,ii 4,.v (bs []),.v (.slice none 0 0),ii 0,ii 0,ii 0,ii 0,ii
 0,ii 0,ii 0,ii 0,ii 0,.v (.slice none 0 0),ii 0,ii 0,ii 0,.v (.slice none 0 0),ii 0,ii 0,ii 0,ii 0,.v (.slice none 0 0),ii 0,ii 3,
 ii 0,ii 0,ii 1,ii 3,ii 0,ii 0,ii 0,ii 0,.v (.slice none 0 0),.sl 1 3 [ii 0,ii 1,ii 6],.v (.slice none 0 0),ii 0,ii 1,ii 6,ii 4,.v
 (bs []),.v (.slice none 0 0),ii 0,ii 0,ii 0,ii 0,ii 0,ii 0,ii 0,ii 0,ii 0,.v (.slice none 0 0),ii 0,ii 0,ii 0,.v (.slice none 0 0),
 ii 0,ii 0,ii 0,ii 0,.v (.slice none 0 0),ii 0,ii 2,ii 0,ii 0,ii 1,ii 2,ii 0,ii 0,ii 0,ii 0,.v (.slice none 0 0),.v (.slice none 0
 0),.v (.slice none 0 0),ii 0,ii 1,ii 7,ii 4,.v (bs []),.v (.slice none 0 0),ii 0,ii 0,ii 0,ii 0,ii 0,ii 0,ii 0,ii 0,ii 0,.v (.slice
 none 0 0),ii 0,ii 0,ii 0,.v (.slice none 0 0),ii 0,ii 0,ii 0,ii 0,.v (.slice none 0 0),ii 0,ii 2,ii 0,ii 0,ii 1,ii 4,ii 0,ii 0,ii
 0,ii 0,.v (.slice none 0 0),.v (.slice none 0 0),.v (.slice none 0 0)])]⟩
theorem o387 : k387.Ok Tryz.prog:=known [] (fun _ h=>by cases h) _ (by kernel_rfl)
def k692 : Known:=⟨2000013000077000001000024000007000024,140,[.c (.y 2000013000077000001000024000001000011000038000105000024000025000004000022 0
 38 0 8),.c (.y 2000013000077000001000024000007000024000038000105000024000025000004000022 0 38 0 8),.c (.f 141 [])],
 [(2000013000077000001000024000007000024000038000105000024000025000004000022,.w 70 38 8 [ii 0,ii 1,ii 0,ii 0,.v (bs [109]),.v (.slice none 0
 0),ii 0,ii 0,ii 0,ii 0,ii 0,ii 0,ii 0,ii 0,ii 0,.v (.slice none 0 0),ii 0,ii 0,ii 0,.v (.slice none 0 0),ii 0,ii 0,ii 0,ii 0,.v
 (.slice none 0 0),ii 0,ii 0,ii 0,ii 0,ii 0,ii 0,ii 0,ii 0,ii 0,ii 0,.v (.slice none 0 0),.v (.slice none 0 0),.v (.slice none 0 0),ii
 0,ii 1,ii 1,ii 2,.v (bs [102]),.v (.slice none 0 0),ii 2,ii 0,ii 1,ii 0,ii 0,ii 0,ii 0,ii 0,ii 0,.v (.slice none 0 0),ii 0,ii 1,ii
 5,.v (.slice none 0 0),ii 0,ii 0,ii 0,ii 0,.v (.slice none 0 0),ii 0,ii 0,ii 0,ii 0,ii 0,ii 0,ii 0,ii 0,ii 0,ii 0,.v (.slice none 0
 0),.v (.slice none 0 0),.v (.slice none 0 0),ii 0,ii 1,ii 2,ii 3,.v (bs [97]),.v (.slice none 0 0),ii 0,ii 0,ii 1,ii 1,ii 0,ii 0,ii
 0,ii 0,ii 0,.v (.slice none 0 0),ii 0,ii 0,ii 0,.v (.slice none 0 0),ii 0,ii 0,ii 0,ii 0,.v (.slice none 0 0),ii 0,ii 0,ii 0,ii 0,
 ii 0,ii 0,ii 0,ii 0,ii 0,ii 0,.v (.slice none 0 0),.v (.slice none 0 0),.v (.slice none 0 0),ii 0,ii 1,ii 3,ii 2,.v (bs [102]),.v
 (.slice none 0 0),ii 2,ii 0,ii 1,ii 0,ii 0,ii 0,ii 0,ii 0,ii 0,.v (.slice none 0 0),ii 0,ii 1,ii 7,.v (.slice none 0 0),ii 0,ii 0,
 ii 0,ii 0,.v (.slice none 0 0),ii 0,ii 0,ii 0,ii 0,ii 0,ii 0,ii 0,ii 0,ii 0,ii 0,.v (.slice none 0 0),.v (.slice none 0 0),.v (.slice
 none 0 0),ii 0,ii 1,ii 4,ii 3,.v (bs [97]),.v (.slice none 0 0),ii 0,ii 0,ii 1,ii 3,ii 0,ii 0,ii 0,ii 0,ii 0,.v (.slice none 0 0),
 ii 0,ii 0,ii 0,.v (.slice none 0 0),ii 0,ii 0,ii 0,ii 0,.v (.slice none 0 0),ii 0,ii 0,ii 0,ii 0,ii 0,ii 0,ii 0,ii 0,ii 0,ii 0,.v
 (.slice none 0 0),.v (.slice none 0 0),.v (.slice none 0 0),ii 0,ii 1,ii 5,ii 4,.v (bs []),.v (.slice none 0 0),ii 0,ii 0,ii 0,ii 0,ii
 0,ii 0,ii 0,ii 0,ii 0,.v (.slice none 0 0),ii 0,ii 0,ii 0,.v (.slice none 0 0),ii 0,ii 0,ii 0,ii 0,.v (.slice none 0 0),ii 0,ii 3,
 ii 0,ii 0,ii 1,ii 3,ii 0,ii 0,ii 0,ii 0,.v (.slice none 0 0),.sl 1 3 [ii 0,ii 1,ii 6],.v (.slice none 0 0),ii 0,ii 1,ii 6,ii 4,.v
 (bs []),.v (.slice none 0 0),ii 0,ii 0,ii 0,ii 0,ii 0,ii 0,ii 0,ii 0,ii 0,.v (.slice none 0 0),ii 0,ii 0,ii 0,.v (.slice none 0 0),
 ii 0,ii 0,ii 0,ii 0,.v (.slice none 0 0),ii 0,ii 2,ii 0,ii 0,ii 1,ii 2,ii 0,ii 0,ii 0,ii 0,.v (.slice none 0 0),.v (.slice none 0
 0),.v (.slice none 0 0),ii 0,ii 1,ii 7,ii 4,.v (bs []),.v (.slice none 0 0),ii 0,ii 0,ii 0,ii 0,ii 0,ii 0,ii 0,ii 0,ii 0,.v (.slice
 none 0 0),ii 0,ii 0,ii 0,.v (.slice none 0 0),ii 0,ii 0,ii 0,ii 0,.v (.slice none 0 0),ii 0,ii 2,ii 0,ii 0,ii 1,ii 4,ii 0,ii 0,ii
 0,ii 0,.v (.slice none 0 0),.v (.slice none 0 0),.v (.slice none 0 0)]),
 (2000013000077000001000024000001000011000038000105000024000025000004000022,.w 70 38 8 [ii 0,ii 1,ii 0,ii 0,.v (bs [109]),.v (.slice none 0 0),
 ii 0,ii 0,ii 0,ii 0,ii 0,ii 0,ii 0,ii 0,ii 0,.v (.slice none 0 0),ii 0,ii 0,ii 0,.v (.slice none 0 0),ii 0,ii 0,ii 0,ii 0,.v
 (.slice none 0 0),ii 0,ii 0,ii 0,ii 0,ii 0,ii 0,ii 0,ii 0,ii 0,ii 0,.v (.slice none 0 0),.v (.slice none 0 0),.v (.slice none 0 0),ii
 0,ii 1,ii 1,ii 2,.v (bs [102]),.v (.slice none 0 0),ii 2,ii 0,ii 1,ii 0,ii 0,ii 0,ii 0,ii 0,ii 0,.v (.slice none 0 0),ii 0,ii 1,ii
 5,.v (.slice none 0 0),ii 0,ii 0,ii 0,ii 0,.v (.slice none 0 0),ii 0,ii 0,ii 0,ii 0,ii 0,ii 0,ii 0,ii 0,ii 0,ii 0,.v (.slice none 0
 0),.v (.slice none 0 0),.v (.slice none 0 0),ii 0,ii 1,ii 2,ii 3,.v (bs [97]),.v (.slice none 0 0),ii 0,ii 0,ii 1,ii 1,ii 0,ii 0,ii
 0,ii 0,ii 0,.v (.slice none 0 0),ii 0,ii 0,ii 0,.v (.slice none 0 0),ii 0,ii 0,ii 0,ii 0,.v (.slice none 0 0),ii 0,ii 0,ii 0,ii 0,
 ii 0,ii 0,ii 0,ii 0,ii 0,ii 0,.v (.slice none 0 0),.v (.slice none 0 0),.v (.slice none 0 0),ii 0,ii 1,ii 3,ii 2,.v (bs [102]),.v
 (.slice none 0 0),ii 2,ii 0,ii 1,ii 0,ii 0,ii 0,ii 0,ii 0,ii 0,.v (.slice none 0 0),ii 0,ii 1,ii 7,.v (.slice none 0 0),ii 0,ii 0,
 ii 0,ii 0,.v (.slice none 0 0),ii 0,ii 0,ii 0,ii 0,ii 0,ii 0,ii 0,ii 0,ii 0,ii 0,.v (.slice none 0 0),.v (.slice none 0 0),.v (.slice
 none 0 0),ii 0,ii 1,ii 4,ii 3,.v (bs [97]),.v (.slice none 0 0),ii 0,ii 0,ii 1,ii 3,ii 0,ii 0,ii 0,ii 0,ii 0,.v (.slice none 0 0),
 ii 0,ii 0,ii 0,.v (.slice none 0 0),ii 0,ii 0,ii 0,ii 0,.v (.slice none 0 0),ii 0,ii 0,ii 0,ii 0,ii 0,ii 0,ii 0,ii 0,ii 0,ii 0,.v
 (.slice none 0 0),.v (.slice none 0 0),.v (.slice none 0 0),ii 0,ii 1,ii 5,ii 4,.v (bs []),.v (.slice none 0 0),ii 0,ii 0,ii 0,ii 0,ii
 0,ii 0,ii 0,ii 0,ii 0,.v (.slice none 0 0),ii 0,ii 0,ii 0,.v (.slice none 0 0),ii 0,ii 0,ii 0,ii 0,.v (.slice none 0 0),ii 0,ii 3,
 ii 0,ii 0,ii 1,ii 3,ii 0,ii 0,ii 0,ii 0,.v (.slice none 0 0),.sl 1 3 [ii 0,ii 1,ii 6],.v (.slice none 0 0),ii 0,ii 1,ii 6,ii 4,.v
 (bs []),.v (.slice none 0 0),ii 0,ii 0,ii 0,ii 0,ii 0,ii 0,ii 0,ii 0,ii 0,.v (.slice none 0 0),ii 0,ii 0,ii 0,.v (.slice none 0 0),
 ii 0,ii 0,ii 0,ii 0,.v (.slice none 0 0),ii 0,ii 2,ii 0,ii 0,ii 1,ii 2,ii 0,ii 0,ii 0,ii 0,.v (.slice none 0 0),.v (.slice none 0
 0),.v (.slice none 0 0),ii 0,ii 1,ii 7,ii 4,.v (bs []),.v (.slice none 0 0),ii 0,ii 0,ii 0,ii 0,ii 0,ii 0,ii 0,ii 0,ii 0,.v (.slice
 none 0 0),ii 0,ii 0,ii 0,.v (.slice none 0 0),ii 0,ii 0,ii 0,ii 0,.v (.slice none 0 0),ii 0,ii 2,ii 0,ii 0,ii 1,ii 4,ii 0,ii 0,ii
 0,ii 0,.v (.slice none 0 0),.v (.slice none 0 0),.v (.slice none 0 0)])],.c (.d (vB true)),
 [(2000013000077000001000024000001000011000038000105000024000025000004000022,.w 70 38 8 [ii 0,ii 1,ii 0,ii 0,.v (bs [109]),.v (.slice none 0
 0),ii 0,ii 0,ii 0,ii 0,ii 0,ii 0,ii 0,ii 0,ii 0,.v (.slice none 0 0),ii 0,ii 0,ii 0,.v (.slice none 0 0),ii 0,ii 0,ii 0,ii 0,.v
 (.slice none 0 0),ii 0,ii 0,ii 0,ii 0,ii 0,ii 0,ii 0,ii 0,ii 0,ii 0,.v (.slice none 0 0),.v (.slice none 0 0),.v (.slice none 0 0),ii
 0,ii 1,ii 1,ii 2,.v (bs [102]),.v (.slice none 0 0),ii 2,ii 0,ii 1,ii 0,ii 0,ii 0,ii 0,ii 0,ii 0,.v (.slice none 0 0),ii 0,ii 1,ii
 5,.v (.slice none 0 0),ii 0,ii 0,ii 0,ii 0,.v (.slice none 0 0),ii 0,ii 0,ii 0,ii 0,ii 0,ii 0,ii 0,ii 0,ii 0,ii 0,.v (.slice none 0
 0),.v (.slice none 0 0),.v (.slice none 0 0),ii 0,ii 1,ii 2,ii 3,.v (bs [97]),.v (.slice none 0 0),ii 0,ii 0,ii 1,ii 1,ii 0,ii 0,ii
 0,ii 0,ii 0,.v (.slice none 0 0),ii 0,ii 0,ii 0,.v (.slice none 0 0),ii 0,ii 0,ii 0,ii 0,.v (.slice none 0 0),ii 0,ii 0,ii 0,ii 0,
 ii 0,ii 0,ii 0,ii 0,ii 0,ii 0,.v (.slice none 0 0),.v (.slice none 0 0),.v (.slice none 0 0),ii 0,ii 1,ii 3,ii 2,.v (bs [102]),.v
 (.slice none 0 0),ii 2,ii 0,ii 1,ii 0,ii 0,ii 0,ii 0,ii 0,ii 0,.v (.slice none 0 0),ii 0,ii 1,ii 7,.v (.slice none 0 0),ii 0,ii 0,
 ii 0,ii 0,.v (.slice none 0 0),ii 0,ii 0,ii 0,ii 0,ii 0,ii 0,ii 0,ii 0,ii 0,ii 0,.v (.slice none 0 0),.v (.slice none 0 0),.v (.slice
 none 0 0),ii 0,ii 1,ii 4,ii 3,.v (bs [97]),.v (.slice none 0 0),ii 0,ii 0,ii 1,ii 3,ii 0,ii 0,ii 0,ii 0,ii 0,.v (.slice none 0 0),
 ii 0,ii 0,ii 0,.v (.slice none 0 0),ii 0,ii 0,ii 0,ii 0,.v (.slice none 0 0),ii 0,ii 0,ii 0,ii 0,ii 0,ii 0,ii 0,ii 0,ii 0,ii 0,.v
 (.slice none 0 0),.v (.slice none 0 0),.v (.slice none 0 0),ii 0,ii 1,ii 5,ii 4,.v (bs []),.v (.slice none 0 0),ii 0,ii 0,ii 0,ii 0,ii
 0,ii 0,ii 0,ii 0,ii 0,.v (.slice none 0 0),ii 0,ii 0,ii 0,.v (.slice none 0 0),ii 0,ii 0,ii 0,ii 0,.v (.slice none 0 0),ii 0,ii 3,
 ii 0,ii 0,ii 1,ii 3,ii 0,ii 0,ii 0,ii 0,.v (.slice none 0 0),.sl 1 3 [ii 0,ii 1,ii 6],.v (.slice none 0 0),ii 0,ii 1,ii 6,ii 4,.v
 (bs []),.v (.slice none 0 0),ii 0,ii 0,ii 0,ii 0,ii 0,ii 0,ii 0,ii 0,ii 0,.v (.slice none 0 0),ii 0,ii 0,ii 0,.v (.slice none 0 0),
 ii 0,ii 0,ii 0,ii 0,.v (.slice none 0 0),ii 0,ii 2,ii 0,ii 0,ii 1,ii 2,ii 0,ii 0,ii 0,ii 0,.v (.slice none 0 0),.v (.slice none 0
 0),.v (.slice none 0 0),ii 0,ii 1,ii 7,ii 4,.v (bs []),.v (.slice none 0 0),ii 0,ii 0,ii 0,ii 0,ii 0,ii 0,ii 0,ii 0,ii 0,.v (.slice
 none 0 0),ii 0,ii 0,ii 0,.v (.slice none 0 0),ii 0,ii 0,ii 0,ii 0,.v (.slice none 0 0),ii 0,ii 2,ii 0,ii 0,ii 1,ii 4,ii 0,ii 0,ii
 0,ii 0,.v (.slice none 0 0),.v (.slice none 0 0),.v (.slice none 0 0)]),
 (2000013000077000001000024000007000024000038000105000024000025000004000022,.w 70 38 8 [ii 0,ii 1,ii 0,ii 0,.v (bs [109]),.v (.slice none 0 0),
 ii 0,ii 0,ii 0,ii 0,ii 0,ii 0,ii 0,ii 0,ii 0,.v (.slice none 0 0),ii 0,ii 0,ii 0,.v (.slice none 0 0),ii 0,ii 0,ii 0,ii 0,.v
 (.slice none 0 0),ii 0,ii 0,ii 0,ii 0,ii 0,ii 0,ii 0,ii 0,ii 0,ii 0,.v (.slice none 0 0),.v (.slice none 0 0),.v (.slice none 0 0),ii
 0,ii 1,ii 1,ii 2,.v (bs [102]),.v (.slice none 0 0),ii 2,ii 0,ii 1,ii 0,ii 0,ii 0,ii 0,ii 0,ii 0,.v (.slice none 0 0),ii 0,ii 1,ii
 5,.v (.slice none 0 0),ii 0,ii 0,ii 0,ii 0,.v (.slice none 0 0),ii 0,ii 0,ii 0,ii 0,ii 0,ii 0,ii 0,ii 0,ii 0,ii 0,.v (.slice none 0
 0),.v (.slice none 0 0),.v (.slice none 0 0),ii 0,ii 1,ii 2,ii 3,.v (bs [97]),.v (.slice none 0 0),ii 0,ii 0,ii 1,ii 1,ii 0,ii 0,ii
 0,ii 0,ii 0,.v (.slice none 0 0),ii 0,ii 0,ii 0,.v (.slice none 0 0),ii 0,ii 0,ii 0,ii 0,.v (.slice none 0 0),ii 0,ii 0,ii 0,ii 0,
 ii 0,ii 0,ii 0,ii 0,ii 0,ii 0,.v (.slice none 0 0),.v (.slice none 0 0),.v (.slice none 0 0),ii 0,ii 1,ii 3,ii 2,.v (bs [102]),.v
 (.slice none 0 0),ii 2,ii 0,ii 1,ii 0,ii 0,ii 0,ii 0,ii 0,ii 0,.v (.slice none 0 0),ii 0,ii 1,ii 7,.v (.slice none 0 0),ii 0,ii 0,
 ii 0,ii 0,.v (.slice none 0 0),ii 0,ii 0,ii 0,ii 0,ii 0,ii 0,ii 0,ii 0,ii 0,ii 0,.v (.slice none 0 0),.v (.slice none 0 0),.v (.slice
 none 0 0),ii 0,ii 1,ii 4,ii 3,.v (bs [97]),.v (.slice none 0 0),ii 0,ii 0,ii 1,ii 3,ii 0,ii 0,ii 0,ii 0,ii 0,.v (.slice none 0 0),
 ii 0,ii 0,ii 0,.v (.slice none 0 0),ii 0,ii 0,ii 0,ii 0,.v (.slice none 0 0),ii 0,ii 0,ii 0,ii 0,ii 0,ii 0,ii 0,ii 0,ii 0,ii 0,.v
 (.slice none 0 0),.v (.slice none 0 0),.v (.slice none 0 0),ii 0,ii 1,ii 5,ii 4,.v (bs []),.v (.slice none 0 0),ii 0,ii 0,ii 0,ii 0,ii
 0,ii 0,ii 0,ii 0,ii 0,.v (.slice none 0 0),ii 0,ii 0,ii 0,.v (.slice none 0 0),ii 0,ii 0,ii 0,ii 0,.v (.slice none 0 0),ii 0,ii 3,
 ii 0,ii 0,ii 1,ii 3,ii 0,ii 0,ii 0,ii 0,.v (.slice none 0 0),.sl 1 3 [ii 0,ii 1,ii 6],.v (.slice none 0 0),ii 0,ii 1,ii 6,ii 4,.v
 (bs []),.v (.slice none 0 0),ii 0,ii 0,ii 0,ii 0,ii 0,ii 0,ii 0,ii 0,ii 0,.v (.slice none 0 0),ii 0,ii 0,ii 0,.v (.slice none 0 0),
 ii 0,ii 0,ii 0,ii 0,.v (.slice none 0 0),ii 0,ii 2,ii 0,ii 0,ii 1,ii 2,ii 0,ii 0,ii 0,ii 0,.v (.slice none 0 0),.v (.slice none 0
 0),.v (.slice none 0 0),ii 0,ii 1,ii 7,ii 4,.v (bs []),.v (.slice none 0 0),ii 0,ii 0,ii 0,ii 0,ii 0,ii 0,ii 0,ii 0,ii 0,.v (.slice
 none 0 0),ii 0,ii 0,ii 0,.v (.slice none 0 0),ii 0,ii 0,ii 0,ii 0,.v (.slice none 0 0),ii 0,ii 2,ii 0,ii 0,ii 1,ii 4,ii 0,ii 0,ii
 0,ii 0,.v (.slice none 0 0),.v (.slice none 0 0),.v (.slice none 0 0)])]⟩
theorem o692 : k692.Ok Tryz.prog:=known [] (fun _ h=>by cases h) _ (by kernel_rfl)
def k703 : Known:=⟨2000013000077000001000023,44,[.g [.w 2000003000020000004000032,.w 2000003000020000004000035]],[(2000003000020000004000035,.w
 52 31 2 [ii 0,ii 1,ii 1,ii 2,ii 0,ii 1,ii 0,.v (bs [102]),.sl 1 11 [ii 0,ii 1,ii 2,.v (bs [97]),ii 0,ii 0,ii 0,ii 0,.v (.slice none
 0 0),ii 0,ii 0],ii 0,ii 0,ii 0,ii 0,.v (.slice none 0 0),ii 0,ii 1,ii 5,ii 3,ii 0,ii 0,ii 1,ii 3,ii 0,ii 0,ii 0,ii 0,.v (.slice
 none 0 0),.sl 1 15 [ii 0,ii 1,ii 6,ii 2,ii 0,ii 0,ii 1,ii 2,ii 0,ii 0,ii 0,ii 0,.v (.slice none 0 0),.v (.slice none 0 0),.v (.slice
 none 0 0)],.v (.slice none 0 0),ii 0,.v (.slice none 0 0),ii 0,ii 1,ii 3,ii 2,ii 0,ii 1,ii 0,.v (bs [102]),.sl 1 11 [ii 0,ii 1,ii 4,
 .v (bs [97]),ii 0,ii 0,ii 0,ii 0,.v (.slice none 0 0),ii 0,ii 0],ii 0,ii 0,ii 0,ii 0,.v (.slice none 0 0),ii 0,ii 1,ii 7,ii 2,ii 0,
 ii 0,ii 1,ii 4,ii 0,ii 0,ii 0,ii 0,.v (.slice none 0 0),.v (.slice none 0 0),.v (.slice none 0 0),ii 0,.v (.slice none 0 0)]),
 (2000003000020000004000032,.w 60 6 1 [ii 0,ii 1,ii 0,.v (bs [109]),.v (.slice none 0 0),.sl 2 3 [ii 0,ii 1,ii 1,ii 0,ii 1,ii 3]])],.c
 (.l 6),[(2000003000020000004000032,.w 60 6 1 [ii 0,ii 1,ii 0,.v (bs [109]),.v (.slice none 0 0),.sl 2 3 [ii 0,ii 1,ii 1,ii 0,ii 1,ii
 3]]),(2000003000020000004000035,.w 52 31 2 [ii 0,ii 1,ii 1,ii 2,ii 0,ii 1,ii 0,.v (bs [102]),.sl 1 11 [ii 0,ii 1,ii 2,.v (bs [97]),ii
 0,ii 0,ii 0,ii 0,.v (.slice none 0 0),ii 0,ii 0],ii 0,ii 0,ii 0,ii 0,.v (.slice none 0 0),ii 0,ii 1,ii 5,ii 3,ii 0,ii 0,ii 1,ii
 3,ii 0,ii 0,ii 0,ii 0,.v (.slice none 0 0),.sl 1 15 [ii 0,ii 1,ii 6,ii 2,ii 0,ii 0,ii 1,ii 2,ii 0,ii 0,ii 0,ii 0,.v (.slice none 0
 0),.v (.slice none 0 0),.v (.slice none 0 0)],.v (.slice none 0 0),ii 0,.v (.slice none 0 0),ii 0,ii 1,ii 3,ii 2,ii 0,ii 1,ii 0,.v (bs
 [102]),.sl 1 11 [ii 0,ii 1,ii 4,.v (bs [97]),ii 0,ii 0,ii 0,ii 0,.v (.slice none 0 0),ii 0,ii 0],ii 0,ii 0,ii 0,ii 0,.v (.slice none
 0 0),ii 0,ii 1,ii 7,ii 2,ii 0,ii 0,ii 1,ii 4,ii 0,ii 0,ii 0,ii 0,.v (.slice none 0 0),.v (.slice none 0 0),.v (.slice none 0 0),ii
 0,.v (.slice none 0 0)])]⟩
theorem o703 : k703.Ok Tryz.prog:=known [k692,k387] (List.forall_mem_cons.2 ⟨o692,List.forall_mem_cons.2 ⟨o387,fun _ h=>by cases h⟩⟩) _ (by kernel_rfl)
def k877 : Known:=⟨2000013000076,12,[.g [.w 2000003000020000004000032,.w 2000003000020000004000035]],[(2000003000020000004000035,.w 52 31 2 [ii
 0,ii 1,ii 1,ii 2,ii 0,ii 1,ii 0,.v (bs [102]),.sl 1 11 [ii 0,ii 1,ii 2,.v (bs [97]),ii 0,ii 0,ii 0,ii 0,.v (.slice none 0 0),ii 0,
 ii 0],ii 0,ii 0,ii 0,ii 0,.v (.slice none 0 0),ii 0,ii 1,ii 5,ii 3,ii 0,ii 0,ii 1,ii 3,ii 0,ii 0,ii 0,ii 0,.v (.slice none 0 0),
 .sl 1 15 [ii 0,ii 1,ii 6,ii 2,ii 0,ii 0,ii 1,ii 2,ii 0,ii 0,ii 0,ii 0,.v (.slice none 0 0),.v (.slice none 0 0),.v (.slice none 0 0)],
 .v (.slice none 0 0),ii 0,.v (.slice none 0 0),ii 0,ii 1,ii 3,ii 2,ii 0,ii 1,ii 0,.v (bs [102]),.sl 1 11 [ii 0,ii 1,ii 4,.v (bs [97]),
 ii 0,ii 0,ii 0,ii 0,.v (.slice none 0 0),ii 0,ii 0],ii 0,ii 0,ii 0,ii 0,.v (.slice none 0 0),ii 0,ii 1,ii 7,ii 2,ii 0,ii 0,ii 1,
 ii 4,ii 0,ii 0,ii 0,ii 0,.v (.slice none 0 0),.v (.slice none 0 0),.v (.slice none 0 0),ii 0,.v (.slice none 0 0)]),
 (2000003000020000004000032,.w 60 6 1 [ii 0,ii 1,ii 0,.v (bs [109]),.v (.slice none 0 0),.sl 2 3 [ii 0,ii 1,ii 1,ii 0,ii 1,ii 3]])],.c
 (.w 2000013000077000030000084000009000039000001000018),[(2000003000020000004000032,.w 60 6 1 [ii 0,ii 1,ii 0,.v (bs [109]),.v (.slice none 0
 0),.sl 2 3 [ii 0,ii 1,ii 1,ii 0,ii 1,ii 3]]),(2000003000020000004000035,.w 52 31 2 [ii 0,ii 1,ii 1,ii 2,ii 0,ii 1,ii 0,.v (bs [102]),
 .sl 1 11 [ii 0,ii 1,ii 2,.v (bs [97]),ii 0,ii 0,ii 0,ii 0,.v (.slice none 0 0),ii 0,ii 0],ii 0,ii 0,ii 0,ii 0,.v (.slice none 0 0),
 ii 0,ii 1,ii 5,ii 3,ii 0,ii 0,ii 1,ii 3,ii 0,ii 0,ii 0,ii 0,.v (.slice none 0 0),.sl 1 15 [ii 0,ii 1,ii 6,ii 2,ii 0,ii 0,ii 1,ii
 2,ii 0,ii 0,ii 0,ii 0,.v (.slice none 0 0),.v (.slice none 0 0),.v (.slice none 0 0)],.v (.slice none 0 0),ii 0,.v (.slice none 0 0),ii
 0,ii 1,ii 3,ii 2,ii 0,ii 1,ii 0,.v (bs [102]),.sl 1 11 [ii 0,ii 1,ii 4,.v (bs [97]),ii 0,ii 0,ii 0,ii 0,.v (.slice none 0 0),ii 0,
 ii 0],ii 0,ii 0,ii 0,ii 0,.v (.slice none 0 0),ii 0,ii 1,ii 7,ii 2,ii 0,ii 0,ii 1,ii 4,ii 0,ii 0,ii 0,ii 0,.v (.slice none 0 0),
 .v (.slice none 0 0),.v (.slice none 0 0),ii 0,.v (.slice none 0 0)]),(2000013000077000030000084000009000039000001000018,.w 57 6 2 [ii 16,ii
 0,ii 1,ii 1,ii 5,.v (.slice none 0 0),ii 16,ii 0,ii 1,ii 3,ii 5,.v (.slice none 0 0)])]⟩
theorem o877 : k877.Ok Tryz.prog:=known [k703] (List.forall_mem_cons.2 ⟨o703,fun _ h=>by cases h⟩) _ (by kernel_rfl)
def k1055 : Known:=⟨2000013000082000001000024000001000010,25,[.g [.w 2000005000025000004000032,.w 2000005000025000004000035]],
 [(2000005000025000004000035,.w 52 31 2 [ii 0,ii 1,ii 1,ii 2,ii 0,ii 1,ii 0,.v (bs [102]),.sl 1 11 [ii 0,ii 1,ii 2,.v (bs [97]),ii 0,ii
 0,ii 0,ii 0,.v (.slice none 0 0),ii 0,ii 0],ii 0,ii 0,ii 0,ii 0,.v (.slice none 0 0),ii 0,ii 1,ii 5,ii 3,ii 0,ii 0,ii 1,ii 3,ii
 0,ii 0,ii 0,ii 0,.v (.slice none 0 0),.sl 1 15 [ii 0,ii 1,ii 6,ii 2,ii 0,ii 0,ii 1,ii 2,ii 0,ii 0,ii 0,ii 0,.v (.slice none 0 0),
 .v (.slice none 0 0),.v (.slice none 0 0)],.v (.slice none 0 0),ii 0,.v (.slice none 0 0),ii 0,ii 1,ii 3,ii 2,ii 0,ii 1,ii 0,.v (bs
 [103]),.sl 1 11 [ii 0,ii 1,ii 4,.v (bs [97]),ii 0,ii 0,ii 0,ii 0,.v (.slice none 0 0),ii 0,ii 0],ii 0,ii 0,ii 0,ii 0,.v (.slice none
 0 0),ii 0,ii 1,ii 7,ii 3,ii 0,ii 0,ii 1,ii 1,ii 0,ii 0,ii 0,ii 0,.v (.slice none 0 0),.sl 1 15 [ii 0,ii 1,ii 8,ii 2,ii 0,ii 0,ii
 1,ii 4,ii 0,ii 0,ii 0,ii 0,.v (.slice none 0 0),.v (.slice none 0 0),.v (.slice none 0 0)],.v (.slice none 0 0),ii 0,.v (.slice none 0
 0)]),(2000005000025000004000032,.w 60 6 1 [ii 0,ii 1,ii 0,.v (bs [109]),.v (.slice none 0 0),.sl 2 3 [ii 0,ii 1,ii 1,ii 0,ii 1,ii 3]])],
 .c (.y 2000013000082000001000024000001000011000038000105000024000025000004000022 0 38 0 9),[(2000005000025000004000032,.w 60 6 1 [ii 0,ii 1,ii
 0,.v (bs [109]),.v (.slice none 0 0),.sl 2 3 [ii 0,ii 1,ii 1,ii 0,ii 1,ii 3]]),(2000005000025000004000035,.w 52 31 2 [ii 0,ii 1,ii 1,ii
 2,ii 0,ii 1,ii 0,.v (bs [102]),.sl 1 11 [ii 0,ii 1,ii 2,.v (bs [97]),ii 0,ii 0,ii 0,ii 0,.v (.slice none 0 0),ii 0,ii 0],ii 0,ii 0,
 ii 0,ii 0,.v (.slice none 0 0),ii 0,ii 1,ii 5,ii 3,ii 0,ii 0,ii 1,ii 3,ii 0,ii 0,ii 0,ii 0,.v (.slice none 0 0),.sl 1 15 [ii 0,ii
 1,ii 6,ii 2,ii 0,ii 0,ii 1,ii 2,ii 0,ii 0,ii 0,ii 0,.v (.slice none 0 0),.v (.slice none 0 0),.v (.slice none 0 0)],.v (.slice none 0
 0),ii 0,.v (.slice none 0 0),ii 0,ii 1,ii 3,ii 2,ii 0,ii 1,ii 0,.v (bs [103]),.sl 1 11 [ii 0,ii 1,ii 4,.v (bs [97]),ii 0,ii 0,ii 0,
 ii 0,.v (.slice none 0 0),ii 0,ii 0],ii 0,ii 0,ii 0,ii 0,.v (.slice none 0 0),ii 0,ii 1,ii 7,ii 3,ii 0,ii 0,ii 1,ii 1,ii 0,ii 0,
 ii 0,ii 0,.v (.slice none 0 0),.sl 1 15 [ii 0,ii 1,ii 8,ii 2,ii 0,ii 0,ii 1,ii 4,ii 0,ii 0,ii 0,ii 0,.v (.slice none 0 0),.v (.slice
 none 0 0),.v (.slice none 0 0)],.v (.slice none 0 0),ii 0,.v (.slice none 0 0)]),
 (2000013000082000001000024000001000011000038000105000024000025000004000022,.w 70 38 9 [ii 0,ii 1,ii 0,ii 0,.v (bs [109]),.v (.slice none 0 0),
 ii 0,ii 0,ii 0,ii 0,ii 0,ii 0,ii 0,ii 0,ii 0,.v (.slice none 0 0),ii 0,ii 0,ii 0,.v (.slice none 0 0),ii 0,ii 0,ii 0,ii 0,.v
 (.slice none 0 0),ii 0,ii 0,ii 0,ii 0,ii 0,ii 0,ii 0,ii 0,ii 0,ii 0,.v (.slice none 0 0),.v (.slice none 0 0),.v (.slice none 0 0),ii
 0,ii 1,ii 1,ii 2,.v (bs [102]),.v (.slice none 0 0),ii 2,ii 0,ii 1,ii 0,ii 0,ii 0,ii 0,ii 0,ii 0,.v (.slice none 0 0),ii 0,ii 1,ii
 5,.v (.slice none 0 0),ii 0,ii 0,ii 0,ii 0,.v (.slice none 0 0),ii 0,ii 0,ii 0,ii 0,ii 0,ii 0,ii 0,ii 0,ii 0,ii 0,.v (.slice none 0
 0),.v (.slice none 0 0),.v (.slice none 0 0),ii 0,ii 1,ii 2,ii 3,.v (bs [97]),.v (.slice none 0 0),ii 0,ii 0,ii 1,ii 1,ii 0,ii 0,ii
 0,ii 0,ii 0,.v (.slice none 0 0),ii 0,ii 0,ii 0,.v (.slice none 0 0),ii 0,ii 0,ii 0,ii 0,.v (.slice none 0 0),ii 0,ii 0,ii 0,ii 0,
 ii 0,ii 0,ii 0,ii 0,ii 0,ii 0,.v (.slice none 0 0),.v (.slice none 0 0),.v (.slice none 0 0),ii 0,ii 1,ii 3,ii 2,.v (bs [103]),.v
 (.slice none 0 0),ii 2,ii 0,ii 1,ii 0,ii 0,ii 0,ii 0,ii 0,ii 0,.v (.slice none 0 0),ii 0,ii 1,ii 7,.v (.slice none 0 0),ii 0,ii 0,
 ii 0,ii 0,.v (.slice none 0 0),ii 0,ii 0,ii 0,ii 0,ii 0,ii 0,ii 0,ii 0,ii 0,ii 0,.v (.slice none 0 0),.v (.slice none 0 0),.v (.slice
 none 0 0),ii 0,ii 1,ii 4,ii 3,.v (bs [97]),.v (.slice none 0 0),ii 0,ii 0,ii 1,ii 3,ii 0,ii 0,ii 0,ii 0,ii 0,.v (.slice none 0 0),
 ii 0,ii 0,ii 0,.v (.slice none 0 0),ii 0,ii 0,ii 0,ii 0,.v (.slice none 0 0),ii 0,ii 0,ii 0,ii 0,ii 0,ii 0,ii 0,ii 0,ii 0,ii 0,.v
 (.slice none 0 0),.v (.slice none 0 0),.v (.slice none 0 0),ii 0,ii 1,ii 5,ii 4,.v (bs []),.v (.slice none 0 0),ii 0,ii 0,ii 0,ii 0,ii
 0,ii 0,ii 0,ii 0,ii 0,.v (.slice none 0 0),ii 0,ii 0,ii 0,.v (.slice none 0 0),ii 0,ii 0,ii 0,ii 0,.v (.slice none 0 0),ii 0,ii 3,
 ii 0,ii 0,ii 1,ii 3,ii 0,ii 0,ii 0,ii 0,.v (.slice none 0 0),.sl 1 3 [ii 0,ii 1,ii 6],.v (.slice none 0 0),ii 0,ii 1,ii 6,ii 4,.v
 (bs []),.v (.slice none 0 0),ii 0,ii 0,ii 0,ii 0,ii 0,ii 0,ii 0,ii 0,ii 0,.v (.slice none 0 0),ii 0,ii 0,ii 0,.v (.slice none 0 0),
 ii 0,ii 0,ii 0,ii 0,.v (.slice none 0 0),ii 0,ii 2,ii 0,ii 0,ii 1,ii 2,ii 0,ii 0,ii 0,ii 0,.v (.slice none 0 0),.v (.slice none 0
 0),.v (.slice none 0 0),ii 0,ii 1,ii 7,ii 4,.v (bs []),.v (.slice none 0 0),ii 0,ii 0,ii 0,ii 0,ii 0,ii 0,ii 0,ii 0,ii 0,.v (.slice
 none 0 0),ii 0,ii 0,ii 0,.v (.slice none 0 0),ii 0,ii 0,ii 0,ii 0,.v (.slice none 0 0),ii 0,ii 3,ii 0,ii 0,ii 1,ii 1,ii 0,ii 0,ii
 0,ii 0,.v (.slice none 0 0),.sl 1 3 [ii 0,ii 1,ii 8],.v (.slice none 0 0),ii 0,ii 1,ii 8,ii 4,.v (bs []),.v (.slice none 0 0),ii 0,ii
 0,ii 0,ii 0,ii 0,ii 0,ii 0,ii 0,ii 0,.v (.slice none 0 0),ii 0,ii 0,ii 0,.v (.slice none 0 0),ii 0,ii 0,ii 0,ii 0,.v (.slice none 0
 0),ii 0,ii 2,ii 0,ii 0,ii 1,ii 4,ii 0,ii 0,ii 0,ii 0,.v (.slice none 0 0),.v (.slice none 0 0),.v (.slice none 0 0)])]⟩
theorem o1055 : k1055.Ok Tryz.prog:=known [] (fun _ h=>by cases h) _ (by kernel_rfl)
def k1412 : Known:=⟨2000013000082000001000024000007000024,140,[.c (.y 2000013000082000001000024000001000011000038000105000024000025000004000022 0
 38 0 9),.c (.y 2000013000082000001000024000007000024000038000105000024000025000004000022 0 38 0 9),.c (.f 141 [])],
 [(2000013000082000001000024000007000024000038000105000024000025000004000022,.w 70 38 9 [ii 0,ii 1,ii 0,ii 0,.v (bs [109]),.v (.slice none 0
 0),ii 0,ii 0,ii 0,ii 0,ii 0,ii 0,ii 0,ii 0,ii 0,.v (.slice none 0 0),ii 0,ii 0,ii 0,.v (.slice none 0 0),ii 0,ii 0,ii 0,ii 0,.v
 (.slice none 0 0),ii 0,ii 0,ii 0,ii 0,ii 0,ii 0,ii 0,ii 0,ii 0,ii 0,.v (.slice none 0 0),.v (.slice none 0 0),.v (.slice none 0 0),ii
 0,ii 1,ii 1,ii 2,.v (bs [102]),.v (.slice none 0 0),ii 2,ii 0,ii 1,ii 0,ii 0,ii 0,ii 0,ii 0,ii 0,.v (.slice none 0 0),ii 0,ii 1,ii
 5,.v (.slice none 0 0),ii 0,ii 0,ii 0,ii 0,.v (.slice none 0 0),ii 0,ii 0,ii 0,ii 0,ii 0,ii 0,ii 0,ii 0,ii 0,ii 0,.v (.slice none 0
 0),.v (.slice none 0 0),.v (.slice none 0 0),ii 0,ii 1,ii 2,ii 3,.v (bs [97]),.v (.slice none 0 0),ii 0,ii 0,ii 1,ii 1,ii 0,ii 0,ii
 0,ii 0,ii 0,.v (.slice none 0 0),ii 0,ii 0,ii 0,.v (.slice none 0 0),ii 0,ii 0,ii 0,ii 0,.v (.slice none 0 0),ii 0,ii 0,ii 0,ii 0,
 ii 0,ii 0,ii 0,ii 0,ii 0,ii 0,.v (.slice none 0 0),.v (.slice none 0 0),.v (.slice none 0 0),ii 0,ii 1,ii 3,ii 2,.v (bs [103]),.v
 (.slice none 0 0),ii 2,ii 0,ii 1,ii 0,ii 0,ii 0,ii 0,ii 0,ii 0,.v (.slice none 0 0),ii 0,ii 1,ii 7,.v (.slice none 0 0),ii 0,ii 0,
 ii 0,ii 0,.v (.slice none 0 0),ii 0,ii 0,ii 0,ii 0,ii 0,ii 0,ii 0,ii 0,ii 0,ii 0,.v (.slice none 0 0),.v (.slice none 0 0),.v (.slice
 none 0 0),ii 0,ii 1,ii 4,ii 3,.v (bs [97]),.v (.slice none 0 0),ii 0,ii 0,ii 1,ii 3,ii 0,ii 0,ii 0,ii 0,ii 0,.v (.slice none 0 0),
 ii 0,ii 0,ii 0,.v (.slice none 0 0),ii 0,ii 0,ii 0,ii 0,.v (.slice none 0 0),ii 0,ii 0,ii 0,ii 0,ii 0,ii 0,ii 0,ii 0,ii 0,ii 0,.v
 (.slice none 0 0),.v (.slice none 0 0),.v (.slice none 0 0),ii 0,ii 1,ii 5,ii 4,.v (bs []),.v (.slice none 0 0),ii 0,ii 0,ii 0,ii 0,ii
 0,ii 0,ii 0,ii 0,ii 0,.v (.slice none 0 0),ii 0,ii 0,ii 0,.v (.slice none 0 0),ii 0,ii 0,ii 0,ii 0,.v (.slice none 0 0),ii 0,ii 3,
 ii 0,ii 0,ii 1,ii 3,ii 0,ii 0,ii 0,ii 0,.v (.slice none 0 0),.sl 1 3 [ii 0,ii 1,ii 6],.v (.slice none 0 0),ii 0,ii 1,ii 6,ii 4,.v
 (bs []),.v (.slice none 0 0),ii 0,ii 0,ii 0,ii 0,ii 0,ii 0,ii 0,ii 0,ii 0,.v (.slice none 0 0),ii 0,ii 0,ii 0,.v (.slice none 0 0),
 ii 0,ii 0,ii 0,ii 0,.v (.slice none 0 0),ii 0,ii 2,ii 0,ii 0,ii 1,ii 2,ii 0,ii 0,ii 0,ii 0,.v (.slice none 0 0),.v (.slice none 0
 0),.v (.slice none 0 0),ii 0,ii 1,ii 7,ii 4,.v (bs []),.v (.slice none 0 0),ii 0,ii 0,ii 0,ii 0,ii 0,ii 0,ii 0,ii 0,ii 0,.v (.slice
 none 0 0),ii 0,ii 0,ii 0,.v (.slice none 0 0),ii 0,ii 0,ii 0,ii 0,.v (.slice none 0 0),ii 0,ii 3,ii 0,ii 0,ii 1,ii 1,ii 0,ii 0,ii
 0,ii 0,.v (.slice none 0 0),.sl 1 3 [ii 0,ii 1,ii 8],.v (.slice none 0 0),ii 0,ii 1,ii 8,ii 4,.v (bs []),.v (.slice none 0 0),ii 0,ii
 0,ii 0,ii 0,ii 0,ii 0,ii 0,ii 0,ii 0,.v (.slice none 0 0),ii 0,ii 0,ii 0,.v (.slice none 0 0),ii 0,ii 0,ii 0,ii 0,.v (.slice none 0
 0),ii 0,ii 2,ii 0,ii 0,ii 1,ii 4,ii 0,ii 0,ii 0,ii 0,.v (.slice none 0 0),.v (.slice none 0 0),.v (.slice none 0 0)]),
 (2000013000082000001000024000001000011000038000105000024000025000004000022,.w 70 38 9 [ii 0,ii 1,ii 0,ii 0,.v (bs [109]),.v (.slice none 0 0),
 ii 0,ii 0,ii 0,ii 0,ii 0,ii 0,ii 0,ii 0,ii 0,.v (.slice none 0 0),ii 0,ii 0,ii 0,.v (.slice none 0 0),ii 0,ii 0,ii 0,ii 0,.v
 (.slice none 0 0),ii 0,ii 0,ii 0,ii 0,ii 0,ii 0,ii 0,ii 0,ii 0,ii 0,.v (.slice none 0 0),.v (.slice none 0 0),.v (.slice none 0 0),ii
 0,ii 1,ii 1,ii 2,.v (bs [102]),.v (.slice none 0 0),ii 2,ii 0,ii 1,ii 0,ii 0,ii 0,ii 0,ii 0,ii 0,.v (.slice none 0 0),ii 0,ii 1,ii
 5,.v (.slice none 0 0),ii 0,ii 0,ii 0,ii 0,.v (.slice none 0 0),ii 0,ii 0,ii 0,ii 0,ii 0,ii 0,ii 0,ii 0,ii 0,ii 0,.v (.slice none 0
 0),.v (.slice none 0 0),.v (.slice none 0 0),ii 0,ii 1,ii 2,ii 3,.v (bs [97]),.v (.slice none 0 0),ii 0,ii 0,ii 1,ii 1,ii 0,ii 0,ii
 0,ii 0,ii 0,.v (.slice none 0 0),ii 0,ii 0,ii 0,.v (.slice none 0 0),ii 0,ii 0,ii 0,ii 0,.v (.slice none 0 0),ii 0,ii 0,ii 0,ii 0,
 ii 0,ii 0,ii 0,ii 0,ii 0,ii 0,.v (.slice none 0 0),.v (.slice none 0 0),.v (.slice none 0 0),ii 0,ii 1,ii 3,ii 2,.v (bs [103]),.v
 (.slice none 0 0),ii 2,ii 0,ii 1,ii 0,ii 0,ii 0,ii 0,ii 0,ii 0,.v (.slice none 0 0),ii 0,ii 1,ii 7,.v (.slice none 0 0),ii 0,ii 0,
 ii 0,ii 0,.v (.slice none 0 0),ii 0,ii 0,ii 0,ii 0,ii 0,ii 0,ii 0,ii 0,ii 0,ii 0,.v (.slice none 0 0),.v (.slice none 0 0),.v (.slice
 none 0 0),ii 0,ii 1,ii 4,ii 3,.v (bs [97]),.v (.slice none 0 0),ii 0,ii 0,ii 1,ii 3,ii 0,ii 0,ii 0,ii 0,ii 0,.v (.slice none 0 0),
 ii 0,ii 0,ii 0,.v (.slice none 0 0),ii 0,ii 0,ii 0,ii 0,.v (.slice none 0 0),ii 0,ii 0,ii 0,ii 0,ii 0,ii 0,ii 0,ii 0,ii 0,ii 0,.v
 (.slice none 0 0),.v (.slice none 0 0),.v (.slice none 0 0),ii 0,ii 1,ii 5,ii 4,.v (bs []),.v (.slice none 0 0),ii 0,ii 0,ii 0,ii 0,ii
 0,ii 0,ii 0,ii 0,ii 0,.v (.slice none 0 0),ii 0,ii 0,ii 0,.v (.slice none 0 0),ii 0,ii 0,ii 0,ii 0,.v (.slice none 0 0),ii 0,ii 3,
 ii 0,ii 0,ii 1,ii 3,ii 0,ii 0,ii 0,ii 0,.v (.slice none 0 0),.sl 1 3 [ii 0,ii 1,ii 6],.v (.slice none 0 0),ii 0,ii 1,ii 6,ii 4,.v
 (bs []),.v (.slice none 0 0),ii 0,ii 0,ii 0,ii 0,ii 0,ii 0,ii 0,ii 0,ii 0,.v (.slice none 0 0),ii 0,ii 0,ii 0,.v (.slice none 0 0),
 ii 0,ii 0,ii 0,ii 0,.v (.slice none 0 0),ii 0,ii 2,ii 0,ii 0,ii 1,ii 2,ii 0,ii 0,ii 0,ii 0,.v (.slice none 0 0),.v (.slice none 0
 0),.v (.slice none 0 0),ii 0,ii 1,ii 7,ii 4,.v (bs []),.v (.slice none 0 0),ii 0,ii 0,ii 0,ii 0,ii 0,ii 0,ii 0,ii 0,ii 0,.v (.slice
 none 0 0),ii 0,ii 0,ii 0,.v (.slice none 0 0),ii 0,ii 0,ii 0,ii 0,.v (.slice none 0 0),ii 0,ii 3,ii 0,ii 0,ii 1,ii 1,ii 0,ii 0,ii
 0,ii 0,.v (.slice none 0 0),.sl 1 3 [ii 0,ii 1,ii 8],.v (.slice none 0 0),ii 0,ii 1,ii 8,ii 4,.v (bs []),.v (.slice none 0 0),ii 0,ii
 0,ii 0,ii 0,ii 0,ii 0,ii 0,ii 0,ii 0,.v (.slice none 0 0),ii 0,ii 0,ii 0,.v (.slice none 0 0),ii 0,ii 0,ii 0,ii 0,.v (.slice none 0
 0),ii 0,ii 2,ii 0,ii 0,ii 1,ii 4,ii 0,ii 0,ii 0,ii 0,.v (.slice none 0 0),.v (.slice none 0 0),.v (.slice none 0 0)])],.c (.d (vB
 true)),[(2000013000082000001000024000001000011000038000105000024000025000004000022,.w 70 38 9 [ii 0,ii 1,ii 0,ii 0,.v (bs [109]),.v (.slice
 none 0 0),ii 0,ii 0,ii 0,ii 0,ii 0,ii 0,ii 0,ii 0,ii 0,.v (.slice none 0 0),ii 0,ii 0,ii 0,.v (.slice none 0 0),ii 0,ii 0,ii 0,ii
 0,.v (.slice none 0 0),ii 0,ii 0,ii 0,ii 0,ii 0,ii 0,ii 0,ii 0,ii 0,ii 0,.v (.slice none 0 0),.v (.slice none 0 0),.v (.slice none 0
 0),ii 0,ii 1,ii 1,ii 2,.v (bs [102]),.v (.slice none 0 0),ii 2,ii 0,ii 1,ii 0,ii 0,ii 0,ii 0,ii 0,ii 0,.v (.slice none 0 0),ii 0,
 ii 1,ii 5,.v (.slice none 0 0),ii 0,ii 0,ii 0,ii 0,.v (.slice none 0 0),ii 0,ii 0,ii 0,ii 0,ii 0,ii 0,ii 0,ii 0,ii 0,ii 0,.v
 (.slice none 0 0),.v (.slice none 0 0),.v (.slice none 0 0),ii 0,ii 1,ii 2,ii 3,.v (bs [97]),.v (.slice none 0 0),ii 0,ii 0,ii 1,ii 1,
 ii 0,ii 0,ii 0,ii 0,ii 0,.v (.slice none 0 0),ii 0,ii 0,ii 0,.v (.slice none 0 0),ii 0,ii 0,ii 0,ii 0,.v (.slice none 0 0),ii 0,ii
 0,ii 0,ii 0,ii 0,ii 0,ii 0,ii 0,ii 0,ii 0,.v (.slice none 0 0),.v (.slice none 0 0),.v (.slice none 0 0),ii 0,ii 1,ii 3,ii 2,.v (bs
 [103]),.v (.slice none 0 0),ii 2,ii 0,ii 1,ii 0,ii 0,ii 0,ii 0,ii 0,ii 0,.v (.slice none 0 0),ii 0,ii 1,ii 7,.v (.slice none 0 0),ii
 0,ii 0,ii 0,ii 0,.v (.slice none 0 0),ii 0,ii 0,ii 0,ii 0,ii 0,ii 0,ii 0,ii 0,ii 0,ii 0,.v (.slice none 0 0),.v (.slice none 0 0),
 .v (.slice none 0 0),ii 0,ii 1,ii 4,ii 3,.v (bs [97]),.v (.slice none 0 0),ii 0,ii 0,ii 1,ii 3,ii 0,ii 0,ii 0,ii 0,ii 0,.v (.slice
 none 0 0),ii 0,ii 0,ii 0,.v (.slice none 0 0),ii 0,ii 0,ii 0,ii 0,.v (.slice none 0 0),ii 0,ii 0,ii 0,ii 0,ii 0,ii 0,ii 0,ii 0,ii
 0,ii 0,.v (.slice none 0 0),.v (.slice none 0 0),.v (.slice none 0 0),ii 0,ii 1,ii 5,ii 4,.v (bs []),.v (.slice none 0 0),ii 0,ii 0,ii
 0,ii 0,ii 0,ii 0,ii 0,ii 0,ii 0,.v (.slice none 0 0),ii 0,ii 0,ii 0,.v (.slice none 0 0),ii 0,ii 0,ii 0,ii 0,.v (.slice none 0 0),
 ii 0,ii 3,ii 0,ii 0,ii 1,ii 3,ii 0,ii 0,ii 0,ii 0,.v (.slice none 0 0),.sl 1 3 [ii 0,ii 1,ii 6],.v (.slice none 0 0),ii 0,ii 1,ii
 6,ii 4,.v (bs []),.v (.slice none 0 0),ii 0,ii 0,ii 0,ii 0,ii 0,ii 0,ii 0,ii 0,ii 0,.v (.slice none 0 0),ii 0,ii 0,ii 0,.v (.slice
 none 0 0),ii 0,ii 0,ii 0,ii 0,.v (.slice none 0 0),ii 0,ii 2,ii 0,ii 0,ii 1,ii 2,ii 0,ii 0,ii 0,ii 0,.v (.slice none 0 0),.v
 (.slice none 0 0),.v (.slice none 0 0),ii 0,ii 1,ii 7,ii 4,.v (bs []),.v (.slice none 0 0),ii 0,ii 0,ii 0,ii 0,ii 0,ii 0,ii 0,ii 0,
 ii 0,.v (.slice none 0 0),ii 0,ii 0,ii 0,.v (.slice none 0 0),ii 0,ii 0,ii 0,ii 0,.v (.slice none 0 0),ii 0,ii 3,ii 0,ii 0,ii 1,ii
 1,ii 0,ii 0,ii 0,ii 0,.v (.slice none 0 0),.sl 1 3 [ii 0,ii 1,ii 8],.v (.slice none 0 0),ii 0,ii 1,ii 8,ii 4,.v (bs []),.v (.slice
 none 0 0),ii 0,ii 0,ii 0,ii 0,ii 0,ii 0,ii 0,ii 0,ii 0,.v (.slice none 0 0),ii 0,ii 0,ii 0,.v (.slice none 0 0),ii 0,ii 0,ii 0,ii
 0,.v (.slice none 0 0),ii 0,ii 2,ii 0,ii 0,ii 1,ii 4,ii 0,ii 0,ii 0,ii 0,.v (.slice none 0 0),.v (.slice none 0 0),.v (.slice none 0
 0)]),(2000013000082000001000024000007000024000038000105000024000025000004000022,.w 70 38 9 [ii 0,ii 1,ii 0,ii 0,.v (bs [109]),.v (.slice none
 0 0),ii 0,ii 0,ii 0,ii 0,ii 0,ii 0,ii 0,ii 0,ii 0,.v (.slice none 0 0),ii 0,ii 0,ii 0,.v (.slice none 0 0),ii 0,ii 0,ii 0,ii 0,.v
 (.slice none 0 0),ii 0,ii 0,ii 0,ii 0,ii 0,ii 0,ii 0,ii 0,ii 0,ii 0,.v (.slice none 0 0),.v (.slice none 0 0),.v (.slice none 0 0),ii
 0,ii 1,ii 1,ii 2,.v (bs [102]),.v (.slice none 0 0),ii 2,ii 0,ii 1,ii 0,ii 0,ii 0,ii 0,ii 0,ii 0,.v (.slice none 0 0),ii 0,ii 1,ii
 5,.v (.slice none 0 0),ii 0,ii 0,ii 0,ii 0,.v (.slice none 0 0),ii 0,ii 0,ii 0,ii 0,ii 0,ii 0,ii 0,ii 0,ii 0,ii 0,.v (.slice none 0
 0),.v (.slice none 0 0),.v (.slice none 0 0),ii 0,ii 1,ii 2,ii 3,.v (bs [97]),.v (.slice none 0 0),ii 0,ii 0,ii 1,ii 1,ii 0,ii 0,ii
 0,ii 0,ii 0,.v (.slice none 0 0),ii 0,ii 0,ii 0,.v (.slice none 0 0),ii 0,ii 0,ii 0,ii 0,.v (.slice none 0 0),ii 0,ii 0,ii 0,ii 0,
 ii 0,ii 0,ii 0,ii 0,ii 0,ii 0,.v (.slice none 0 0),.v (.slice none 0 0),.v (.slice none 0 0),ii 0,ii 1,ii 3,ii 2,.v (bs [103]),.v
 (.slice none 0 0),ii 2,ii 0,ii 1,ii 0,ii 0,ii 0,ii 0,ii 0,ii 0,.v (.slice none 0 0),ii 0,ii 1,ii 7,.v (.slice none 0 0),ii 0,ii 0,
 ii 0,ii 0,.v (.slice none 0 0),ii 0,ii 0,ii 0,ii 0,ii 0,ii 0,ii 0,ii 0,ii 0,ii 0,.v (.slice none 0 0),.v (.slice none 0 0),.v (.slice
 none 0 0),ii 0,ii 1,ii 4,ii 3,.v (bs [97]),.v (.slice none 0 0),ii 0,ii 0,ii 1,ii 3,ii 0,ii 0,ii 0,ii 0,ii 0,.v (.slice none 0 0),
 ii 0,ii 0,ii 0,.v (.slice none 0 0),ii 0,ii 0,ii 0,ii 0,.v (.slice none 0 0),ii 0,ii 0,ii 0,ii 0,ii 0,ii 0,ii 0,ii 0,ii 0,ii 0,.v
 (.slice none 0 0),.v (.slice none 0 0),.v (.slice none 0 0),ii 0,ii 1,ii 5,ii 4,.v (bs []),.v (.slice none 0 0),ii 0,ii 0,ii 0,ii 0,ii
 0,ii 0,ii 0,ii 0,ii 0,.v (.slice none 0 0),ii 0,ii 0,ii 0,.v (.slice none 0 0),ii 0,ii 0,ii 0,ii 0,.v (.slice none 0 0),ii 0,ii 3,
 ii 0,ii 0,ii 1,ii 3,ii 0,ii 0,ii 0,ii 0,.v (.slice none 0 0),.sl 1 3 [ii 0,ii 1,ii 6],.v (.slice none 0 0),ii 0,ii 1,ii 6,ii 4,.v
 (bs []),.v (.slice none 0 0),ii 0,ii 0,ii 0,ii 0,ii 0,ii 0,ii 0,ii 0,ii 0,.v (.slice none 0 0),ii 0,ii 0,ii 0,.v (.slice none 0 0),
 ii 0,ii 0,ii 0,ii 0,.v (.slice none 0 0),ii 0,ii 2,ii 0,ii 0,ii 1,ii 2,ii 0,ii 0,ii 0,ii 0,.v (.slice none 0 0),.v (.slice none 0
 0),.v (.slice none 0 0),ii 0,ii 1,ii 7,ii 4,.v (bs []),.v (.slice none 0 0),ii 0,ii 0,ii 0,ii 0,ii 0,ii 0,ii 0,ii 0,ii 0,.v (.slice
 none 0 0),ii 0,ii 0,ii 0,.v (.slice none 0 0),ii 0,ii 0,ii 0,ii 0,.v (.slice none 0 0),ii 0,ii 3,ii 0,ii 0,ii 1,ii 1,ii 0,ii 0,ii
 0,ii 0,.v (.slice none 0 0),.sl 1 3 [ii 0,ii 1,ii 8],.v (.slice none 0 0),ii 0,ii 1,ii 8,ii 4,.v (bs []),.v (.slice none 0 0),ii 0,ii
 0,ii 0,ii 0,ii 0,ii 0,ii 0,ii 0,ii 0,.v (.slice none 0 0),ii 0,ii 0,ii 0,.v (.slice none 0 0),ii 0,ii 0,ii 0,ii 0,.v (.slice none 0
 0),ii 0,ii 2,ii 0,ii 0,ii 1,ii 4,ii 0,ii 0,ii 0,ii 0,.v (.slice none 0 0),.v (.slice none 0 0),.v (.slice none 0 0)])]⟩
theorem o1412 : k1412.Ok Tryz.prog:=known [] (fun _ h=>by cases h) _ (by kernel_rfl)
def k1423 : Known:=⟨2000013000082000001000023,44,[.g [.w 2000005000025000004000032,.w 2000005000025000004000035]],[(2000005000025000004000035,
 .w 52 31 2 [ii 0,ii 1,ii 1,ii 2,ii 0,ii 1,ii 0,.v (bs [102]),.sl 1 11 [ii 0,ii 1,ii 2,.v (bs [97]),ii 0,ii 0,ii 0,ii 0,.v (.slice
 none 0 0),ii 0,ii 0],ii 0,ii 0,ii 0,ii 0,.v (.slice none 0 0),ii 0,ii 1,ii 5,ii 3,ii 0,ii 0,ii 1,ii 3,ii 0,ii 0,ii 0,ii 0,.v
 (.slice none 0 0),.sl 1 15 [ii 0,ii 1,ii 6,ii 2,ii 0,ii 0,ii 1,ii 2,ii 0,ii 0,ii 0,ii 0,.v (.slice none 0 0),.v (.slice none 0 0),.v
 (.slice none 0 0)],.v (.slice none 0 0),ii 0,.v (.slice none 0 0),ii 0,ii 1,ii 3,ii 2,ii 0,ii 1,ii 0,.v (bs [103]),.sl 1 11 [ii 0,ii 1,
 ii 4,.v (bs [97]),ii 0,ii 0,ii 0,ii 0,.v (.slice none 0 0),ii 0,ii 0],ii 0,ii 0,ii 0,ii 0,.v (.slice none 0 0),ii 0,ii 1,ii 7,ii 3,
 ii 0,ii 0,ii 1,ii 1,ii 0,ii 0,ii 0,ii 0,.v (.slice none 0 0),.sl 1 15 [ii 0,ii 1,ii 8,ii 2,ii 0,ii 0,ii 1,ii 4,ii 0,ii 0,ii 0,ii
 0,.v (.slice none 0 0),.v (.slice none 0 0),.v (.slice none 0 0)],.v (.slice none 0 0),ii 0,.v (.slice none 0 0)]),
 (2000005000025000004000032,.w 60 6 1 [ii 0,ii 1,ii 0,.v (bs [109]),.v (.slice none 0 0),.sl 2 3 [ii 0,ii 1,ii 1,ii 0,ii 1,ii 3]])],.c
 (.l 6),[(2000005000025000004000032,.w 60 6 1 [ii 0,ii 1,ii 0,.v (bs [109]),.v (.slice none 0 0),.sl 2 3 [ii 0,ii 1,ii 1,ii 0,ii 1,ii
 3]]),(2000005000025000004000035,.w 52 31 2 [ii 0,ii 1,ii 1,ii 2,ii 0,ii 1,ii 0,.v (bs [102]),.sl 1 11 [ii 0,ii 1,ii 2,.v (bs [97]),ii
 0,ii 0,ii 0,ii 0,.v (.slice none 0 0),ii 0,ii 0],ii 0,ii 0,ii 0,ii 0,.v (.slice none 0 0),ii 0,ii 1,ii 5,ii 3,ii 0,ii 0,ii 1,ii
 3,ii 0,ii 0,ii 0,ii 0,.v (.slice none 0 0),.sl 1 15 [ii 0,ii 1,ii 6,ii 2,ii 0,ii 0,ii 1,ii 2,ii 0,ii 0,ii 0,ii 0,.v (.slice none 0
 0),.v (.slice none 0 0),.v (.slice none 0 0)],.v (.slice none 0 0),ii 0,.v (.slice none 0 0),ii 0,ii 1,ii 3,ii 2,ii 0,ii 1,ii 0,.v (bs
 [103]),.sl 1 11 [ii 0,ii 1,ii 4,.v (bs [97]),ii 0,ii 0,ii 0,ii 0,.v (.slice none 0 0),ii 0,ii 0],ii 0,ii 0,ii 0,ii 0,.v (.slice none
 0 0),ii 0,ii 1,ii 7,ii 3,ii 0,ii 0,ii 1,ii 1,ii 0,ii 0,ii 0,ii 0,.v (.slice none 0 0),.sl 1 15 [ii 0,ii 1,ii 8,ii 2,ii 0,ii 0,ii
 1,ii 4,ii 0,ii 0,ii 0,ii 0,.v (.slice none 0 0),.v (.slice none 0 0),.v (.slice none 0 0)],.v (.slice none 0 0),ii 0,.v (.slice none 0
 0)])]⟩
theorem o1423 : k1423.Ok Tryz.prog:=known [k1412,k1055] (List.forall_mem_cons.2 ⟨o1412,List.forall_mem_cons.2 ⟨o1055,fun _ h=>by cases h⟩⟩) _ (by kernel_rfl)
def k1594 : Known:=⟨2000013000082000069000139,51,[.c (.p 2000013000082000003000030 0)],[(2000005000025000004000035,.w 52 31 2 [ii 0,ii 1,ii 1,
 ii 2,ii 0,ii 1,ii 0,.v (bs [102]),.sl 1 11 [ii 0,ii 1,ii 2,.v (bs [97]),ii 0,ii 0,ii 0,ii 0,.v (.slice none 0 0),ii 0,ii 0],ii 0,ii
 0,ii 0,ii 0,.v (.slice none 0 0),ii 0,ii 1,ii 5,ii 3,ii 0,ii 0,ii 1,ii 3,ii 0,ii 0,ii 0,ii 0,.v (.slice none 0 0),.sl 1 15 [ii 0,
 ii 1,ii 6,ii 2,ii 0,ii 0,ii 1,ii 2,ii 0,ii 0,ii 0,ii 0,.v (.slice none 0 0),.v (.slice none 0 0),.v (.slice none 0 0)],.v (.slice none
 0 0),ii 0,.v (.slice none 0 0),ii 0,ii 1,ii 3,ii 2,ii 0,ii 1,ii 0,.v (bs [103]),.sl 1 11 [ii 0,ii 1,ii 4,.v (bs [97]),ii 0,ii 0,ii
 0,ii 0,.v (.slice none 0 0),ii 0,ii 0],ii 0,ii 0,ii 0,ii 0,.v (.slice none 0 0),ii 0,ii 1,ii 7,ii 3,ii 0,ii 0,ii 1,ii 1,ii 0,ii
 0,ii 0,ii 0,.v (.slice none 0 0),.sl 1 15 [ii 0,ii 1,ii 8,ii 2,ii 0,ii 0,ii 1,ii 4,ii 0,ii 0,ii 0,ii 0,.v (.slice none 0 0),.v
 (.slice none 0 0),.v (.slice none 0 0)],.v (.slice none 0 0),ii 0,.v (.slice none 0 0)]),(2000005000025000004000032,.w 60 6 1 [ii 0,ii 1,ii
 0,.v (bs [109]),.v (.slice none 0 0),.sl 2 3 [ii 0,ii 1,ii 1,ii 0,ii 1,ii 3]]),(2000013000082000003000030,.b 107 [.w
 2000005000025000004000032,.w 2000005000025000004000035,.l 6])],.t [],[(2000013000082000069000140000079000135000001000018,.w 57 6 2 [ii 13,ii
 0,ii 1,ii 1,ii 14,.v (.slice none 0 0),ii 13,ii 0,ii 1,ii 3,ii 14,.v (.slice none 0 0)]),(2000013000082000003000030,.b 107 [.w
 2000005000025000004000032,.w 2000005000025000004000035,.w 2000013000082000069000140000079000135000001000018]),(2000005000025000004000032,.w 60 6
 1 [ii 0,ii 1,ii 0,.v (bs [109]),.v (.slice none 0 0),.sl 2 3 [ii 0,ii 1,ii 1,ii 0,ii 1,ii 3]]),(2000005000025000004000035,.w 52 31 2 [ii
 0,ii 1,ii 1,ii 2,ii 0,ii 1,ii 0,.v (bs [102]),.sl 1 11 [ii 0,ii 1,ii 2,.v (bs [97]),ii 0,ii 0,ii 0,ii 0,.v (.slice none 0 0),ii 0,
 ii 0],ii 0,ii 0,ii 0,ii 0,.v (.slice none 0 0),ii 0,ii 1,ii 5,ii 3,ii 0,ii 0,ii 1,ii 3,ii 0,ii 0,ii 0,ii 0,.v (.slice none 0 0),
 .sl 1 15 [ii 0,ii 1,ii 6,ii 2,ii 0,ii 0,ii 1,ii 2,ii 0,ii 0,ii 0,ii 0,.v (.slice none 0 0),.v (.slice none 0 0),.v (.slice none 0 0)],
 .v (.slice none 0 0),ii 0,.v (.slice none 0 0),ii 0,ii 1,ii 3,ii 2,ii 0,ii 1,ii 0,.v (bs [103]),.sl 1 11 [ii 0,ii 1,ii 4,.v (bs [97]),
 ii 0,ii 0,ii 0,ii 0,.v (.slice none 0 0),ii 0,ii 0],ii 0,ii 0,ii 0,ii 0,.v (.slice none 0 0),ii 0,ii 1,ii 7,ii 3,ii 0,ii 0,ii 1,
 ii 1,ii 0,ii 0,ii 0,ii 0,.v (.slice none 0 0),.sl 1 15 [ii 0,ii 1,ii 8,ii 2,ii 0,ii 0,ii 1,ii 4,ii 0,ii 0,ii 0,ii 0,.v (.slice
 none 0 0),.v (.slice none 0 0),.v (.slice none 0 0)],.v (.slice none 0 0),ii 0,.v (.slice none 0 0)])]⟩
theorem o1594 : k1594.Ok Tryz.prog:=known [] (fun _ h=>by cases h) _ (by kernel_rfl)
def k1621 : Known:=⟨2000013000081,12,[.g [.w 2000005000025000004000032,.w 2000005000025000004000035]],[(2000005000025000004000035,.w 52 31 2
 [ii 0,ii 1,ii 1,ii 2,ii 0,ii 1,ii 0,.v (bs [102]),.sl 1 11 [ii 0,ii 1,ii 2,.v (bs [97]),ii 0,ii 0,ii 0,ii 0,.v (.slice none 0 0),ii
 0,ii 0],ii 0,ii 0,ii 0,ii 0,.v (.slice none 0 0),ii 0,ii 1,ii 5,ii 3,ii 0,ii 0,ii 1,ii 3,ii 0,ii 0,ii 0,ii 0,.v (.slice none 0
 0),.sl 1 15 [ii 0,ii 1,ii 6,ii 2,ii 0,ii 0,ii 1,ii 2,ii 0,ii 0,ii 0,ii 0,.v (.slice none 0 0),.v (.slice none 0 0),.v (.slice none 0
 0)],.v (.slice none 0 0),ii 0,.v (.slice none 0 0),ii 0,ii 1,ii 3,ii 2,ii 0,ii 1,ii 0,.v (bs [103]),.sl 1 11 [ii 0,ii 1,ii 4,.v (bs
 [97]),ii 0,ii 0,ii 0,ii 0,.v (.slice none 0 0),ii 0,ii 0],ii 0,ii 0,ii 0,ii 0,.v (.slice none 0 0),ii 0,ii 1,ii 7,ii 3,ii 0,ii 0,
 ii 1,ii 1,ii 0,ii 0,ii 0,ii 0,.v (.slice none 0 0),.sl 1 15 [ii 0,ii 1,ii 8,ii 2,ii 0,ii 0,ii 1,ii 4,ii 0,ii 0,ii 0,ii 0,.v
 (.slice none 0 0),.v (.slice none 0 0),.v (.slice none 0 0)],.v (.slice none 0 0),ii 0,.v (.slice none 0 0)]),(2000005000025000004000032,.w
 60 6 1 [ii 0,ii 1,ii 0,.v (bs [109]),.v (.slice none 0 0),.sl 2 3 [ii 0,ii 1,ii 1,ii 0,ii 1,ii 3]])],.c (.w
 2000013000082000069000140000079000135000001000018),[(2000005000025000004000032,.w 60 6 1 [ii 0,ii 1,ii 0,.v (bs [109]),.v (.slice none 0 0),
 .sl 2 3 [ii 0,ii 1,ii 1,ii 0,ii 1,ii 3]]),(2000005000025000004000035,.w 52 31 2 [ii 0,ii 1,ii 1,ii 2,ii 0,ii 1,ii 0,.v (bs [102]),.sl
 1 11 [ii 0,ii 1,ii 2,.v (bs [97]),ii 0,ii 0,ii 0,ii 0,.v (.slice none 0 0),ii 0,ii 0],ii 0,ii 0,ii 0,ii 0,.v (.slice none 0 0),ii 0,
 ii 1,ii 5,ii 3,ii 0,ii 0,ii 1,ii 3,ii 0,ii 0,ii 0,ii 0,.v (.slice none 0 0),.sl 1 15 [ii 0,ii 1,ii 6,ii 2,ii 0,ii 0,ii 1,ii 2,ii
 0,ii 0,ii 0,ii 0,.v (.slice none 0 0),.v (.slice none 0 0),.v (.slice none 0 0)],.v (.slice none 0 0),ii 0,.v (.slice none 0 0),ii 0,ii
 1,ii 3,ii 2,ii 0,ii 1,ii 0,.v (bs [103]),.sl 1 11 [ii 0,ii 1,ii 4,.v (bs [97]),ii 0,ii 0,ii 0,ii 0,.v (.slice none 0 0),ii 0,ii 0],
 ii 0,ii 0,ii 0,ii 0,.v (.slice none 0 0),ii 0,ii 1,ii 7,ii 3,ii 0,ii 0,ii 1,ii 1,ii 0,ii 0,ii 0,ii 0,.v (.slice none 0 0),.sl 1 15
 [ii 0,ii 1,ii 8,ii 2,ii 0,ii 0,ii 1,ii 4,ii 0,ii 0,ii 0,ii 0,.v (.slice none 0 0),.v (.slice none 0 0),.v (.slice none 0 0)],.v
 (.slice none 0 0),ii 0,.v (.slice none 0 0)]),(2000013000082000069000140000079000135000001000018,.w 57 6 2 [ii 13,ii 0,ii 1,ii 1,ii 14,.v
 (.slice none 0 0),ii 13,ii 0,ii 1,ii 3,ii 14,.v (.slice none 0 0)])]⟩
theorem o1621 : k1621.Ok Tryz.prog:=known [k1594,k1423] (List.forall_mem_cons.2 ⟨o1594,List.forall_mem_cons.2 ⟨o1423,fun _ h=>by cases h⟩⟩) _ (by kernel_rfl)
def k1769 : Known:=⟨2000013000088000001000024000001000010,25,[.g [.w 2000008000042000004000032,.w 2000008000042000004000035]],
 [(2000008000042000004000035,.w 52 31 2 [ii 0,ii 1,ii 1,ii 2,ii 0,ii 1,ii 0,.v (bs [102]),.sl 1 11 [ii 0,ii 1,ii 2,.v (bs [97]),ii 0,ii
 0,ii 0,ii 0,.v (.slice none 0 0),ii 0,ii 0],ii 0,ii 0,ii 0,ii 0,.v (.slice none 0 0),ii 0,ii 1,ii 5,ii 3,ii 0,ii 0,ii 1,ii 3,ii
 0,ii 0,ii 0,ii 0,.v (.slice none 0 0),.sl 1 15 [ii 0,ii 1,ii 6,ii 2,ii 0,ii 0,ii 1,ii 2,ii 0,ii 0,ii 0,ii 0,.v (.slice none 0 0),
 .v (.slice none 0 0),.v (.slice none 0 0)],.v (.slice none 0 0),ii 0,.v (.slice none 0 0),ii 0,ii 1,ii 3,ii 2,ii 0,ii 1,ii 0,.v (bs
 [103]),.sl 1 11 [ii 0,ii 1,ii 4,.v (bs [97]),ii 0,ii 0,ii 0,ii 0,.v (.slice none 0 0),ii 0,ii 0],ii 0,ii 0,ii 0,ii 0,.v (.slice none
 0 0),ii 0,ii 1,ii 7,ii 2,ii 1,ii 0,ii 1,ii 4,ii 0,ii 0,ii 0,ii 0,.v (.slice none 0 0),.v (.slice none 0 0),.v (.slice none 0 0),ii
 0,.v (.slice none 0 0)]),(2000008000042000004000032,.w 60 6 1 [ii 0,ii 1,ii 0,.v (bs [109]),.v (.slice none 0 0),.sl 2 3 [ii 0,ii 1,ii 1,
 ii 0,ii 1,ii 3]])],.c (.y 2000013000088000001000024000001000011000038000105000024000025000004000022 0 38 0 8),[(2000008000042000004000032,.w 60
 6 1 [ii 0,ii 1,ii 0,.v (bs [109]),.v (.slice none 0 0),.sl 2 3 [ii 0,ii 1,ii 1,ii 0,ii 1,ii 3]]),(2000008000042000004000035,.w 52 31 2
 [ii 0,ii 1,ii 1,ii 2,ii 0,ii 1,ii 0,.v (bs [102]),.sl 1 11 [ii 0,ii 1,ii 2,.v (bs [97]),ii 0,ii 0,ii 0,ii 0,.v (.slice none 0 0),ii
 0,ii 0],ii 0,ii 0,ii 0,ii 0,.v (.slice none 0 0),ii 0,ii 1,ii 5,ii 3,ii 0,ii 0,ii 1,ii 3,ii 0,ii 0,ii 0,ii 0,.v (.slice none 0
 0),.sl 1 15 [ii 0,ii 1,ii 6,ii 2,ii 0,ii 0,ii 1,ii 2,ii 0,ii 0,ii 0,ii 0,.v (.slice none 0 0),.v (.slice none 0 0),.v (.slice none 0
 0)],.v (.slice none 0 0),ii 0,.v (.slice none 0 0),ii 0,ii 1,ii 3,ii 2,ii 0,ii 1,ii 0,.v (bs [103]),.sl 1 11 [ii 0,ii 1,ii 4,.v (bs
 [97]),ii 0,ii 0,ii 0,ii 0,.v (.slice none 0 0),ii 0,ii 0],ii 0,ii 0,ii 0,ii 0,.v (.slice none 0 0),ii 0,ii 1,ii 7,ii 2,ii 1,ii 0,
 ii 1,ii 4,ii 0,ii 0,ii 0,ii 0,.v (.slice none 0 0),.v (.slice none 0 0),.v (.slice none 0 0),ii 0,.v (.slice none 0 0)]),
 (2000013000088000001000024000001000011000038000105000024000025000004000022,.w 70 38 8 [ii 0,ii 1,ii 0,ii 0,.v (bs [109]),.v (.slice none 0 0),
 ii 0,ii 0,ii 0,ii 0,ii 0,ii 0,ii 0,ii 0,ii 0,.v (.slice none 0 0),ii 0,ii 0,ii 0,.v (.slice none 0 0),ii 0,ii 0,ii 0,ii 0,.v
 (.slice none 0 0),ii 0,ii 0,ii 0,ii 0,ii 0,ii 0,ii 0,ii 0,ii 0,ii 0,.v (.slice none 0 0),.v (.slice none 0 0),.v (.slice none 0 0),ii
 0,ii 1,ii 1,ii 2,.v (bs [102]),.v (.slice none 0 0),ii 2,ii 0,ii 1,ii 0,ii 0,ii 0,ii 0,ii 0,ii 0,.v (.slice none 0 0),ii 0,ii 1,ii
 5,.v (.slice none 0 0),ii 0,ii 0,ii 0,ii 0,.v (.slice none 0 0),ii 0,ii 0,ii 0,ii 0,ii 0,ii 0,ii 0,ii 0,ii 0,ii 0,.v (.slice none 0
 0),.v (.slice none 0 0),.v (.slice none 0 0),ii 0,ii 1,ii 2,ii 3,.v (bs [97]),.v (.slice none 0 0),ii 0,ii 0,ii 1,ii 1,ii 0,ii 0,ii
 0,ii 0,ii 0,.v (.slice none 0 0),ii 0,ii 0,ii 0,.v (.slice none 0 0),ii 0,ii 0,ii 0,ii 0,.v (.slice none 0 0),ii 0,ii 0,ii 0,ii 0,
 ii 0,ii 0,ii 0,ii 0,ii 0,ii 0,.v (.slice none 0 0),.v (.slice none 0 0),.v (.slice none 0 0),ii 0,ii 1,ii 3,ii 2,.v (bs [103]),.v
 (.slice none 0 0),ii 2,ii 0,ii 1,ii 0,ii 0,ii 0,ii 0,ii 0,ii 0,.v (.slice none 0 0),ii 0,ii 1,ii 7,.v (.slice none 0 0),ii 0,ii 0,
 ii 0,ii 0,.v (.slice none 0 0),ii 0,ii 0,ii 0,ii 0,ii 0,ii 0,ii 0,ii 0,ii 0,ii 0,.v (.slice none 0 0),.v (.slice none 0 0),.v (.slice
 none 0 0),ii 0,ii 1,ii 4,ii 3,.v (bs [97]),.v (.slice none 0 0),ii 0,ii 0,ii 1,ii 3,ii 0,ii 0,ii 0,ii 0,ii 0,.v (.slice none 0 0),
 ii 0,ii 0,ii 0,.v (.slice none 0 0),ii 0,ii 0,ii 0,ii 0,.v (.slice none 0 0),ii 0,ii 0,ii 0,ii 0,ii 0,ii 0,ii 0,ii 0,ii 0,ii 0,.v
 (.slice none 0 0),.v (.slice none 0 0),.v (.slice none 0 0),ii 0,ii 1,ii 5,ii 4,.v (bs []),.v (.slice none 0 0),ii 0,ii 0,ii 0,ii 0,ii
 0,ii 0,ii 0,ii 0,ii 0,.v (.slice none 0 0),ii 0,ii 0,ii 0,.v (.slice none 0 0),ii 0,ii 0,ii 0,ii 0,.v (.slice none 0 0),ii 0,ii 3,
 ii 0,ii 0,ii 1,ii 3,ii 0,ii 0,ii 0,ii 0,.v (.slice none 0 0),.sl 1 3 [ii 0,ii 1,ii 6],.v (.slice none 0 0),ii 0,ii 1,ii 6,ii 4,.v
 (bs []),.v (.slice none 0 0),ii 0,ii 0,ii 0,ii 0,ii 0,ii 0,ii 0,ii 0,ii 0,.v (.slice none 0 0),ii 0,ii 0,ii 0,.v (.slice none 0 0),
 ii 0,ii 0,ii 0,ii 0,.v (.slice none 0 0),ii 0,ii 2,ii 0,ii 0,ii 1,ii 2,ii 0,ii 0,ii 0,ii 0,.v (.slice none 0 0),.v (.slice none 0
 0),.v (.slice none 0 0),ii 0,ii 1,ii 7,ii 4,.v (bs []),.v (.slice none 0 0),ii 0,ii 0,ii 0,ii 0,ii 0,ii 0,ii 0,ii 0,ii 0,.v (.slice
 none 0 0),ii 0,ii 0,ii 0,.v (.slice none 0 0),ii 0,ii 0,ii 0,ii 0,.v (.slice none 0 0),ii 0,ii 2,ii 1,ii 0,ii 1,ii 4,ii 0,ii 0,ii
 0,ii 0,.v (.slice none 0 0),.v (.slice none 0 0),.v (.slice none 0 0)])]⟩
theorem o1769 : k1769.Ok Tryz.prog:=known [] (fun _ h=>by cases h) _ (by kernel_rfl)
def k2074 : Known:=⟨2000013000088000001000024000007000024,140,[.c (.y 2000013000088000001000024000001000011000038000105000024000025000004000022 0
 38 0 8),.c (.y 2000013000088000001000024000007000024000038000105000024000025000004000022 0 38 0 8),.c (.f 141 [])],
 [(2000013000088000001000024000007000024000038000105000024000025000004000022,.w 70 38 8 [ii 0,ii 1,ii 0,ii 0,.v (bs [109]),.v (.slice none 0
 0),ii 0,ii 0,ii 0,ii 0,ii 0,ii 0,ii 0,ii 0,ii 0,.v (.slice none 0 0),ii 0,ii 0,ii 0,.v (.slice none 0 0),ii 0,ii 0,ii 0,ii 0,.v
 (.slice none 0 0),ii 0,ii 0,ii 0,ii 0,ii 0,ii 0,ii 0,ii 0,ii 0,ii 0,.v (.slice none 0 0),.v (.slice none 0 0),.v (.slice none 0 0),ii
 0,ii 1,ii 1,ii 2,.v (bs [102]),.v (.slice none 0 0),ii 2,ii 0,ii 1,ii 0,ii 0,ii 0,ii 0,ii 0,ii 0,.v (.slice none 0 0),ii 0,ii 1,ii
 5,.v (.slice none 0 0),ii 0,ii 0,ii 0,ii 0,.v (.slice none 0 0),ii 0,ii 0,ii 0,ii 0,ii 0,ii 0,ii 0,ii 0,ii 0,ii 0,.v (.slice none 0
 0),.v (.slice none 0 0),.v (.slice none 0 0),ii 0,ii 1,ii 2,ii 3,.v (bs [97]),.v (.slice none 0 0),ii 0,ii 0,ii 1,ii 1,ii 0,ii 0,ii
 0,ii 0,ii 0,.v (.slice none 0 0),ii 0,ii 0,ii 0,.v (.slice none 0 0),ii 0,ii 0,ii 0,ii 0,.v (.slice none 0 0),ii 0,ii 0,ii 0,ii 0,
 ii 0,ii 0,ii 0,ii 0,ii 0,ii 0,.v (.slice none 0 0),.v (.slice none 0 0),.v (.slice none 0 0),ii 0,ii 1,ii 3,ii 2,.v (bs [103]),.v
 (.slice none 0 0),ii 2,ii 0,ii 1,ii 0,ii 0,ii 0,ii 0,ii 0,ii 0,.v (.slice none 0 0),ii 0,ii 1,ii 7,.v (.slice none 0 0),ii 0,ii 0,
 ii 0,ii 0,.v (.slice none 0 0),ii 0,ii 0,ii 0,ii 0,ii 0,ii 0,ii 0,ii 0,ii 0,ii 0,.v (.slice none 0 0),.v (.slice none 0 0),.v (.slice
 none 0 0),ii 0,ii 1,ii 4,ii 3,.v (bs [97]),.v (.slice none 0 0),ii 0,ii 0,ii 1,ii 3,ii 0,ii 0,ii 0,ii 0,ii 0,.v (.slice none 0 0),
 ii 0,ii 0,ii 0,.v (.slice none 0 0),ii 0,ii 0,ii 0,ii 0,.v (.slice none 0 0),ii 0,ii 0,ii 0,ii 0,ii 0,ii 0,ii 0,ii 0,ii 0,ii 0,.v
 (.slice none 0 0),.v (.slice none 0 0),.v (.slice none 0 0),ii 0,ii 1,ii 5,ii 4,.v (bs []),.v (.slice none 0 0),ii 0,ii 0,ii 0,ii 0,ii
 0,ii 0,ii 0,ii 0,ii 0,.v (.slice none 0 0),ii 0,ii 0,ii 0,.v (.slice none 0 0),ii 0,ii 0,ii 0,ii 0,.v (.slice none 0 0),ii 0,ii 3,
 ii 0,ii 0,ii 1,ii 3,ii 0,ii 0,ii 0,ii 0,.v (.slice none 0 0),.sl 1 3 [ii 0,ii 1,ii 6],.v (.slice none 0 0),ii 0,ii 1,ii 6,ii 4,.v
 (bs []),.v (.slice none 0 0),ii 0,ii 0,ii 0,ii 0,ii 0,ii 0,ii 0,ii 0,ii 0,.v (.slice none 0 0),ii 0,ii 0,ii 0,.v (.slice none 0 0),
 ii 0,ii 0,ii 0,ii 0,.v (.slice none 0 0),ii 0,ii 2,ii 0,ii 0,ii 1,ii 2,ii 0,ii 0,ii 0,ii 0,.v (.slice none 0 0),.v (.slice none 0
 0),.v (.slice none 0 0),ii 0,ii 1,ii 7,ii 4,.v (bs []),.v (.slice none 0 0),ii 0,ii 0,ii 0,ii 0,ii 0,ii 0,ii 0,ii 0,ii 0,.v (.slice
 none 0 0),ii 0,ii 0,ii 0,.v (.slice none 0 0),ii 0,ii 0,ii 0,ii 0,.v (.slice none 0 0),ii 0,ii 2,ii 1,ii 0,ii 1,ii 4,ii 0,ii 0,ii
 0,ii 0,.v (.slice none 0 0),.v (.slice none 0 0),.v (.slice none 0 0)]),
 (2000013000088000001000024000001000011000038000105000024000025000004000022,.w 70 38 8 [ii 0,ii 1,ii 0,ii 0,.v (bs [109]),.v (.slice none 0 0),
 ii 0,ii 0,ii 0,ii 0,ii 0,ii 0,ii 0,ii 0,ii 0,.v (.slice none 0 0),ii 0,ii 0,ii 0,.v (.slice none 0 0),ii 0,ii 0,ii 0,ii 0,.v
 (.slice none 0 0),ii 0,ii 0,ii 0,ii 0,ii 0,ii 0,ii 0,ii 0,ii 0,ii 0,.v (.slice none 0 0),.v (.slice none 0 0),.v (.slice none 0 0),ii
 0,ii 1,ii 1,ii 2,.v (bs [102]),.v (.slice none 0 0),ii 2,ii 0,ii 1,ii 0,ii 0,ii 0,ii 0,ii 0,ii 0,.v (.slice none 0 0),ii 0,ii 1,ii
 5,.v (.slice none 0 0),ii 0,ii 0,ii 0,ii 0,.v (.slice none 0 0),ii 0,ii 0,ii 0,ii 0,ii 0,ii 0,ii 0,ii 0,ii 0,ii 0,.v (.slice none 0
 0),.v (.slice none 0 0),.v (.slice none 0 0),ii 0,ii 1,ii 2,ii 3,.v (bs [97]),.v (.slice none 0 0),ii 0,ii 0,ii 1,ii 1,ii 0,ii 0,ii
 0,ii 0,ii 0,.v (.slice none 0 0),ii 0,ii 0,ii 0,.v (.slice none 0 0),ii 0,ii 0,ii 0,ii 0,.v (.slice none 0 0),ii 0,ii 0,ii 0,ii 0,
 ii 0,ii 0,ii 0,ii 0,ii 0,ii 0,.v (.slice none 0 0),.v (.slice none 0 0),.v (.slice none 0 0),ii 0,ii 1,ii 3,ii 2,.v (bs [103]),.v
 (.slice none 0 0),ii 2,ii 0,ii 1,ii 0,ii 0,ii 0,ii 0,ii 0,ii 0,.v (.slice none 0 0),ii 0,ii 1,ii 7,.v (.slice none 0 0),ii 0,ii 0,
 ii 0,ii 0,.v (.slice none 0 0),ii 0,ii 0,ii 0,ii 0,ii 0,ii 0,ii 0,ii 0,ii 0,ii 0,.v (.slice none 0 0),.v (.slice none 0 0),.v (.slice
 none 0 0),ii 0,ii 1,ii 4,ii 3,.v (bs [97]),.v (.slice none 0 0),ii 0,ii 0,ii 1,ii 3,ii 0,ii 0,ii 0,ii 0,ii 0,.v (.slice none 0 0),
 ii 0,ii 0,ii 0,.v (.slice none 0 0),ii 0,ii 0,ii 0,ii 0,.v (.slice none 0 0),ii 0,ii 0,ii 0,ii 0,ii 0,ii 0,ii 0,ii 0,ii 0,ii 0,.v
 (.slice none 0 0),.v (.slice none 0 0),.v (.slice none 0 0),ii 0,ii 1,ii 5,ii 4,.v (bs []),.v (.slice none 0 0),ii 0,ii 0,ii 0,ii 0,ii
 0,ii 0,ii 0,ii 0,ii 0,.v (.slice none 0 0),ii 0,ii 0,ii 0,.v (.slice none 0 0),ii 0,ii 0,ii 0,ii 0,.v (.slice none 0 0),ii 0,ii 3,
 ii 0,ii 0,ii 1,ii 3,ii 0,ii 0,ii 0,ii 0,.v (.slice none 0 0),.sl 1 3 [ii 0,ii 1,ii 6],.v (.slice none 0 0),ii 0,ii 1,ii 6,ii 4,.v
 (bs []),.v (.slice none 0 0),ii 0,ii 0,ii 0,ii 0,ii 0,ii 0,ii 0,ii 0,ii 0,.v (.slice none 0 0),ii 0,ii 0,ii 0,.v (.slice none 0 0),
 ii 0,ii 0,ii 0,ii 0,.v (.slice none 0 0),ii 0,ii 2,ii 0,ii 0,ii 1,ii 2,ii 0,ii 0,ii 0,ii 0,.v (.slice none 0 0),.v (.slice none 0
 0),.v (.slice none 0 0),ii 0,ii 1,ii 7,ii 4,.v (bs []),.v (.slice none 0 0),ii 0,ii 0,ii 0,ii 0,ii 0,ii 0,ii 0,ii 0,ii 0,.v (.slice
 none 0 0),ii 0,ii 0,ii 0,.v (.slice none 0 0),ii 0,ii 0,ii 0,ii 0,.v (.slice none 0 0),ii 0,ii 2,ii 1,ii 0,ii 1,ii 4,ii 0,ii 0,ii
 0,ii 0,.v (.slice none 0 0),.v (.slice none 0 0),.v (.slice none 0 0)])],.c (.d (vB true)),
 [(2000013000088000001000024000001000011000038000105000024000025000004000022,.w 70 38 8 [ii 0,ii 1,ii 0,ii 0,.v (bs [109]),.v (.slice none 0
 0),ii 0,ii 0,ii 0,ii 0,ii 0,ii 0,ii 0,ii 0,ii 0,.v (.slice none 0 0),ii 0,ii 0,ii 0,.v (.slice none 0 0),ii 0,ii 0,ii 0,ii 0,.v
 (.slice none 0 0),ii 0,ii 0,ii 0,ii 0,ii 0,ii 0,ii 0,ii 0,ii 0,ii 0,.v (.slice none 0 0),.v (.slice none 0 0),.v (.slice none 0 0),ii
 0,ii 1,ii 1,ii 2,.v (bs [102]),.v (.slice none 0 0),ii 2,ii 0,ii 1,ii 0,ii 0,ii 0,ii 0,ii 0,ii 0,.v (.slice none 0 0),ii 0,ii 1,ii
 5,.v (.slice none 0 0),ii 0,ii 0,ii 0,ii 0,.v (.slice none 0 0),ii 0,ii 0,ii 0,ii 0,ii 0,ii 0,ii 0,ii 0,ii 0,ii 0,.v (.slice none 0
 0),.v (.slice none 0 0),.v (.slice none 0 0),ii 0,ii 1,ii 2,ii 3,.v (bs [97]),.v (.slice none 0 0),ii 0,ii 0,ii 1,ii 1,ii 0,ii 0,ii
 0,ii 0,ii 0,.v (.slice none 0 0),ii 0,ii 0,ii 0,.v (.slice none 0 0),ii 0,ii 0,ii 0,ii 0,.v (.slice none 0 0),ii 0,ii 0,ii 0,ii 0,
 ii 0,ii 0,ii 0,ii 0,ii 0,ii 0,.v (.slice none 0 0),.v (.slice none 0 0),.v (.slice none 0 0),ii 0,ii 1,ii 3,ii 2,.v (bs [103]),.v
 (.slice none 0 0),ii 2,ii 0,ii 1,ii 0,ii 0,ii 0,ii 0,ii 0,ii 0,.v (.slice none 0 0),ii 0,ii 1,ii 7,.v (.slice none 0 0),ii 0,ii 0,
 ii 0,ii 0,.v (.slice none 0 0),ii 0,ii 0,ii 0,ii 0,ii 0,ii 0,ii 0,ii 0,ii 0,ii 0,.v (.slice none 0 0),.v (.slice none 0 0),.v (.slice
 none 0 0),ii 0,ii 1,ii 4,ii 3,.v (bs [97]),.v (.slice none 0 0),ii 0,ii 0,ii 1,ii 3,ii 0,ii 0,ii 0,ii 0,ii 0,.v (.slice none 0 0),
 ii 0,ii 0,ii 0,.v (.slice none 0 0),ii 0,ii 0,ii 0,ii 0,.v (.slice none 0 0),ii 0,ii 0,ii 0,ii 0,ii 0,ii 0,ii 0,ii 0,ii 0,ii 0,.v
 (.slice none 0 0),.v (.slice none 0 0),.v (.slice none 0 0),ii 0,ii 1,ii 5,ii 4,.v (bs []),.v (.slice none 0 0),ii 0,ii 0,ii 0,ii 0,ii
 0,ii 0,ii 0,ii 0,ii 0,.v (.slice none 0 0),ii 0,ii 0,ii 0,.v (.slice none 0 0),ii 0,ii 0,ii 0,ii 0,.v (.slice none 0 0),ii 0,ii 3,
 ii 0,ii 0,ii 1,ii 3,ii 0,ii 0,ii 0,ii 0,.v (.slice none 0 0),.sl 1 3 [ii 0,ii 1,ii 6],.v (.slice none 0 0),ii 0,ii 1,ii 6,ii 4,.v
 (bs []),.v (.slice none 0 0),ii 0,ii 0,ii 0,ii 0,ii 0,ii 0,ii 0,ii 0,ii 0,.v (.slice none 0 0),ii 0,ii 0,ii 0,.v (.slice none 0 0),
 ii 0,ii 0,ii 0,ii 0,.v (.slice none 0 0),ii 0,ii 2,ii 0,ii 0,ii 1,ii 2,ii 0,ii 0,ii 0,ii 0,.v (.slice none 0 0),.v (.slice none 0
 0),.v (.slice none 0 0),ii 0,ii 1,ii 7,ii 4,.v (bs []),.v (.slice none 0 0),ii 0,ii 0,ii 0,ii 0,ii 0,ii 0,ii 0,ii 0,ii 0,.v (.slice
 none 0 0),ii 0,ii 0,ii 0,.v (.slice none 0 0),ii 0,ii 0,ii 0,ii 0,.v (.slice none 0 0),ii 0,ii 2,ii 1,ii 0,ii 1,ii 4,ii 0,ii 0,ii
 0,ii 0,.v (.slice none 0 0),.v (.slice none 0 0),.v (.slice none 0 0)]),
 (2000013000088000001000024000007000024000038000105000024000025000004000022,.w 70 38 8 [ii 0,ii 1,ii 0,ii 0,.v (bs [109]),.v (.slice none 0 0),
 ii 0,ii 0,ii 0,ii 0,ii 0,ii 0,ii 0,ii 0,ii 0,.v (.slice none 0 0),ii 0,ii 0,ii 0,.v (.slice none 0 0),ii 0,ii 0,ii 0,ii 0,.v
 (.slice none 0 0),ii 0,ii 0,ii 0,ii 0,ii 0,ii 0,ii 0,ii 0,ii 0,ii 0,.v (.slice none 0 0),.v (.slice none 0 0),.v (.slice none 0 0),ii
 0,ii 1,ii 1,ii 2,.v (bs [102]),.v (.slice none 0 0),ii 2,ii 0,ii 1,ii 0,ii 0,ii 0,ii 0,ii 0,ii 0,.v (.slice none 0 0),ii 0,ii 1,ii
 5,.v (.slice none 0 0),ii 0,ii 0,ii 0,ii 0,.v (.slice none 0 0),ii 0,ii 0,ii 0,ii 0,ii 0,ii 0,ii 0,ii 0,ii 0,ii 0,.v (.slice none 0
 0),.v (.slice none 0 0),.v (.slice none 0 0),ii 0,ii 1,ii 2,ii 3,.v (bs [97]),.v (.slice none 0 0),ii 0,ii 0,ii 1,ii 1,ii 0,ii 0,ii
 0,ii 0,ii 0,.v (.slice none 0 0),ii 0,ii 0,ii 0,.v (.slice none 0 0),ii 0,ii 0,ii 0,ii 0,.v (.slice none 0 0),ii 0,ii 0,ii 0,ii 0,
 ii 0,ii 0,ii 0,ii 0,ii 0,ii 0,.v (.slice none 0 0),.v (.slice none 0 0),.v (.slice none 0 0),ii 0,ii 1,ii 3,ii 2,.v (bs [103]),.v
 (.slice none 0 0),ii 2,ii 0,ii 1,ii 0,ii 0,ii 0,ii 0,ii 0,ii 0,.v (.slice none 0 0),ii 0,ii 1,ii 7,.v (.slice none 0 0),ii 0,ii 0,
 ii 0,ii 0,.v (.slice none 0 0),ii 0,ii 0,ii 0,ii 0,ii 0,ii 0,ii 0,ii 0,ii 0,ii 0,.v (.slice none 0 0),.v (.slice none 0 0),.v (.slice
 none 0 0),ii 0,ii 1,ii 4,ii 3,.v (bs [97]),.v (.slice none 0 0),ii 0,ii 0,ii 1,ii 3,ii 0,ii 0,ii 0,ii 0,ii 0,.v (.slice none 0 0),
 ii 0,ii 0,ii 0,.v (.slice none 0 0),ii 0,ii 0,ii 0,ii 0,.v (.slice none 0 0),ii 0,ii 0,ii 0,ii 0,ii 0,ii 0,ii 0,ii 0,ii 0,ii 0,.v
 (.slice none 0 0),.v (.slice none 0 0),.v (.slice none 0 0),ii 0,ii 1,ii 5,ii 4,.v (bs []),.v (.slice none 0 0),ii 0,ii 0,ii 0,ii 0,ii
 0,ii 0,ii 0,ii 0,ii 0,.v (.slice none 0 0),ii 0,ii 0,ii 0,.v (.slice none 0 0),ii 0,ii 0,ii 0,ii 0,.v (.slice none 0 0),ii 0,ii 3,
 ii 0,ii 0,ii 1,ii 3,ii 0,ii 0,ii 0,ii 0,.v (.slice none 0 0),.sl 1 3 [ii 0,ii 1,ii 6],.v (.slice none 0 0),ii 0,ii 1,ii 6,ii 4,.v
 (bs []),.v (.slice none 0 0),ii 0,ii 0,ii 0,ii 0,ii 0,ii 0,ii 0,ii 0,ii 0,.v (.slice none 0 0),ii 0,ii 0,ii 0,.v (.slice none 0 0),
 ii 0,ii 0,ii 0,ii 0,.v (.slice none 0 0),ii 0,ii 2,ii 0,ii 0,ii 1,ii 2,ii 0,ii 0,ii 0,ii 0,.v (.slice none 0 0),.v (.slice none 0
 0),.v (.slice none 0 0),ii 0,ii 1,ii 7,ii 4,.v (bs []),.v (.slice none 0 0),ii 0,ii 0,ii 0,ii 0,ii 0,ii 0,ii 0,ii 0,ii 0,.v (.slice
 none 0 0),ii 0,ii 0,ii 0,.v (.slice none 0 0),ii 0,ii 0,ii 0,ii 0,.v (.slice none 0 0),ii 0,ii 2,ii 1,ii 0,ii 1,ii 4,ii 0,ii 0,ii
 0,ii 0,.v (.slice none 0 0),.v (.slice none 0 0),.v (.slice none 0 0)])]⟩
theorem o2074 : k2074.Ok Tryz.prog:=known [] (fun _ h=>by cases h) _ (by kernel_rfl)
def k2085 : Known:=⟨2000013000088000001000023,44,[.g [.w 2000008000042000004000032,.w 2000008000042000004000035]],[(2000008000042000004000035,
 .w 52 31 2 [ii 0,ii 1,ii 1,ii 2,ii 0,ii 1,ii 0,.v (bs [102]),.sl 1 11 [ii 0,ii 1,ii 2,.v (bs [97]),ii 0,ii 0,ii 0,ii 0,.v (.slice
 none 0 0),ii 0,ii 0],ii 0,ii 0,ii 0,ii 0,.v (.slice none 0 0),ii 0,ii 1,ii 5,ii 3,ii 0,ii 0,ii 1,ii 3,ii 0,ii 0,ii 0,ii 0,.v
 (.slice none 0 0),.sl 1 15 [ii 0,ii 1,ii 6,ii 2,ii 0,ii 0,ii 1,ii 2,ii 0,ii 0,ii 0,ii 0,.v (.slice none 0 0),.v (.slice none 0 0),.v
 (.slice none 0 0)],.v (.slice none 0 0),ii 0,.v (.slice none 0 0),ii 0,ii 1,ii 3,ii 2,ii 0,ii 1,ii 0,.v (bs [103]),.sl 1 11 [ii 0,ii 1,
 ii 4,.v (bs [97]),ii 0,ii 0,ii 0,ii 0,.v (.slice none 0 0),ii 0,ii 0],ii 0,ii 0,ii 0,ii 0,.v (.slice none 0 0),ii 0,ii 1,ii 7,ii 2,
 ii 1,ii 0,ii 1,ii 4,ii 0,ii 0,ii 0,ii 0,.v (.slice none 0 0),.v (.slice none 0 0),.v (.slice none 0 0),ii 0,.v (.slice none 0 0)]),
 (2000008000042000004000032,.w 60 6 1 [ii 0,ii 1,ii 0,.v (bs [109]),.v (.slice none 0 0),.sl 2 3 [ii 0,ii 1,ii 1,ii 0,ii 1,ii 3]])],.c
 (.l 6),[(2000008000042000004000032,.w 60 6 1 [ii 0,ii 1,ii 0,.v (bs [109]),.v (.slice none 0 0),.sl 2 3 [ii 0,ii 1,ii 1,ii 0,ii 1,ii
 3]]),(2000008000042000004000035,.w 52 31 2 [ii 0,ii 1,ii 1,ii 2,ii 0,ii 1,ii 0,.v (bs [102]),.sl 1 11 [ii 0,ii 1,ii 2,.v (bs [97]),ii
 0,ii 0,ii 0,ii 0,.v (.slice none 0 0),ii 0,ii 0],ii 0,ii 0,ii 0,ii 0,.v (.slice none 0 0),ii 0,ii 1,ii 5,ii 3,ii 0,ii 0,ii 1,ii
 3,ii 0,ii 0,ii 0,ii 0,.v (.slice none 0 0),.sl 1 15 [ii 0,ii 1,ii 6,ii 2,ii 0,ii 0,ii 1,ii 2,ii 0,ii 0,ii 0,ii 0,.v (.slice none 0
 0),.v (.slice none 0 0),.v (.slice none 0 0)],.v (.slice none 0 0),ii 0,.v (.slice none 0 0),ii 0,ii 1,ii 3,ii 2,ii 0,ii 1,ii 0,.v (bs
 [103]),.sl 1 11 [ii 0,ii 1,ii 4,.v (bs [97]),ii 0,ii 0,ii 0,ii 0,.v (.slice none 0 0),ii 0,ii 0],ii 0,ii 0,ii 0,ii 0,.v (.slice none
 0 0),ii 0,ii 1,ii 7,ii 2,ii 1,ii 0,ii 1,ii 4,ii 0,ii 0,ii 0,ii 0,.v (.slice none 0 0),.v (.slice none 0 0),.v (.slice none 0 0),ii
 0,.v (.slice none 0 0)])]⟩
theorem o2085 : k2085.Ok Tryz.prog:=known [k2074,k1769] (List.forall_mem_cons.2 ⟨o2074,List.forall_mem_cons.2 ⟨o1769,fun _ h=>by cases h⟩⟩) _ (by kernel_rfl)
def k2240 : Known:=⟨2000013000087,12,[.g [.w 2000008000042000004000032,.w 2000008000042000004000035]],[(2000008000042000004000035,.w 52 31 2
 [ii 0,ii 1,ii 1,ii 2,ii 0,ii 1,ii 0,.v (bs [102]),.sl 1 11 [ii 0,ii 1,ii 2,.v (bs [97]),ii 0,ii 0,ii 0,ii 0,.v (.slice none 0 0),ii
 0,ii 0],ii 0,ii 0,ii 0,ii 0,.v (.slice none 0 0),ii 0,ii 1,ii 5,ii 3,ii 0,ii 0,ii 1,ii 3,ii 0,ii 0,ii 0,ii 0,.v (.slice none 0
 0),.sl 1 15 [ii 0,ii 1,ii 6,ii 2,ii 0,ii 0,ii 1,ii 2,ii 0,ii 0,ii 0,ii 0,.v (.slice none 0 0),.v (.slice none 0 0),.v (.slice none 0
 0)],.v (.slice none 0 0),ii 0,.v (.slice none 0 0),ii 0,ii 1,ii 3,ii 2,ii 0,ii 1,ii 0,.v (bs [103]),.sl 1 11 [ii 0,ii 1,ii 4,.v (bs
 [97]),ii 0,ii 0,ii 0,ii 0,.v (.slice none 0 0),ii 0,ii 0],ii 0,ii 0,ii 0,ii 0,.v (.slice none 0 0),ii 0,ii 1,ii 7,ii 2,ii 1,ii 0,
 ii 1,ii 4,ii 0,ii 0,ii 0,ii 0,.v (.slice none 0 0),.v (.slice none 0 0),.v (.slice none 0 0),ii 0,.v (.slice none 0 0)]),
 (2000008000042000004000032,.w 60 6 1 [ii 0,ii 1,ii 0,.v (bs [109]),.v (.slice none 0 0),.sl 2 3 [ii 0,ii 1,ii 1,ii 0,ii 1,ii 3]])],.c
 (.w 2000013000088000066000137000010000028000004000041000001000018),[(2000008000042000004000032,.w 60 6 1 [ii 0,ii 1,ii 0,.v (bs [109]),.v
 (.slice none 0 0),.sl 2 3 [ii 0,ii 1,ii 1,ii 0,ii 1,ii 3]]),(2000008000042000004000035,.w 52 31 2 [ii 0,ii 1,ii 1,ii 2,ii 0,ii 1,ii 0,
 .v (bs [102]),.sl 1 11 [ii 0,ii 1,ii 2,.v (bs [97]),ii 0,ii 0,ii 0,ii 0,.v (.slice none 0 0),ii 0,ii 0],ii 0,ii 0,ii 0,ii 0,.v
 (.slice none 0 0),ii 0,ii 1,ii 5,ii 3,ii 0,ii 0,ii 1,ii 3,ii 0,ii 0,ii 0,ii 0,.v (.slice none 0 0),.sl 1 15 [ii 0,ii 1,ii 6,ii 2,
 ii 0,ii 0,ii 1,ii 2,ii 0,ii 0,ii 0,ii 0,.v (.slice none 0 0),.v (.slice none 0 0),.v (.slice none 0 0)],.v (.slice none 0 0),ii 0,.v
 (.slice none 0 0),ii 0,ii 1,ii 3,ii 2,ii 0,ii 1,ii 0,.v (bs [103]),.sl 1 11 [ii 0,ii 1,ii 4,.v (bs [97]),ii 0,ii 0,ii 0,ii 0,.v
 (.slice none 0 0),ii 0,ii 0],ii 0,ii 0,ii 0,ii 0,.v (.slice none 0 0),ii 0,ii 1,ii 7,ii 2,ii 1,ii 0,ii 1,ii 4,ii 0,ii 0,ii 0,ii
 0,.v (.slice none 0 0),.v (.slice none 0 0),.v (.slice none 0 0),ii 0,.v (.slice none 0 0)]),
 (2000013000088000066000137000010000028000004000041000001000018,.w 57 6 1 [ii 14,ii 0,ii 1,ii 7,ii 12,.v (.slice none 0 0)])]⟩
theorem o2240 : k2240.Ok Tryz.prog:=known [k2085] (List.forall_mem_cons.2 ⟨o2085,fun _ h=>by cases h⟩) _ (by kernel_rfl)
def k2389 : Known:=⟨2000014000094000001000005000001000024000001000010,25,[.g [.w 2000001000014000004000032,.w 2000001000014000004000035]],
 [(2000001000014000004000035,.w 52 31 2 [ii 0,ii 1,ii 1,ii 2,ii 0,ii 1,ii 0,.v (bs [102]),.sl 1 11 [ii 0,ii 1,ii 2,.v (bs [97]),ii 0,ii
 0,ii 0,ii 0,.v (.slice none 0 0),ii 0,ii 0],ii 0,ii 0,ii 0,ii 0,.v (.slice none 0 0),ii 0,ii 1,ii 5,ii 3,ii 0,ii 0,ii 1,ii 3,ii
 0,ii 0,ii 0,ii 0,.v (.slice none 0 0),.sl 1 15 [ii 0,ii 1,ii 6,ii 2,ii 0,ii 0,ii 1,ii 2,ii 0,ii 0,ii 0,ii 0,.v (.slice none 0 0),
 .v (.slice none 0 0),.v (.slice none 0 0)],.v (.slice none 0 0),ii 0,.v (.slice none 0 0),ii 0,ii 1,ii 3,ii 2,ii 0,ii 1,ii 0,.v (bs
 [103]),.sl 1 11 [ii 0,ii 1,ii 4,.v (bs [97]),ii 0,ii 0,ii 0,ii 0,.v (.slice none 0 0),ii 0,ii 0],ii 0,ii 0,ii 0,ii 0,.v (.slice none
 0 0),ii 0,ii 1,ii 7,ii 2,ii 0,ii 0,ii 1,ii 4,ii 0,ii 0,ii 0,ii 0,.v (.slice none 0 0),.v (.slice none 0 0),.v (.slice none 0 0),ii
 0,.v (.slice none 0 0)]),(2000001000014000004000032,.w 60 6 1 [ii 0,ii 1,ii 0,.v (bs [109]),.v (.slice none 0 0),.sl 2 3 [ii 0,ii 1,ii 1,
 ii 0,ii 1,ii 3]])],.c (.y 2000014000094000001000005000001000024000001000011000038000105000024000025000004000022 0 38 0 8),
 [(2000001000014000004000032,.w 60 6 1 [ii 0,ii 1,ii 0,.v (bs [109]),.v (.slice none 0 0),.sl 2 3 [ii 0,ii 1,ii 1,ii 0,ii 1,ii 3]]),
 (2000001000014000004000035,.w 52 31 2 [ii 0,ii 1,ii 1,ii 2,ii 0,ii 1,ii 0,.v (bs [102]),.sl 1 11 [ii 0,ii 1,ii 2,.v (bs [97]),ii 0,ii
 0,ii 0,ii 0,.v (.slice none 0 0),ii 0,ii 0],ii 0,ii 0,ii 0,ii 0,.v (.slice none 0 0),ii 0,ii 1,ii 5,ii 3,ii 0,ii 0,ii 1,ii 3,ii
 0,ii 0,ii 0,ii 0,.v (.slice none 0 0),.sl 1 15 [ii 0,ii 1,ii 6,ii 2,ii 0,ii 0,ii 1,ii 2,ii 0,ii 0,ii 0,ii 0,.v (.slice none 0 0),
 .v (.slice none 0 0),.v (.slice none 0 0)],.v (.slice none 0 0),ii 0,.v (.slice none 0 0),ii 0,ii 1,ii 3,ii 2,ii 0,ii 1,ii 0,.v (bs
 [103]),.sl 1 11 [ii 0,ii 1,ii 4,.v (bs [97]),ii 0,ii 0,ii 0,ii 0,.v (.slice none 0 0),ii 0,ii 0],ii 0,ii 0,ii 0,ii 0,.v (.slice none
 0 0),ii 0,ii 1,ii 7,ii 2,ii 0,ii 0,ii 1,ii 4,ii 0,ii 0,ii 0,ii 0,.v (.slice none 0 0),.v (.slice none 0 0),.v (.slice none 0 0),ii
 0,.v (.slice none 0 0)]),(2000014000094000001000005000001000024000001000011000038000105000024000025000004000022,.w 70 38 8 [ii 0,ii 1,ii 0,ii
 0,.v (bs [109]),.v (.slice none 0 0),ii 0,ii 0,ii 0,ii 0,ii 0,ii 0,ii 0,ii 0,ii 0,.v (.slice none 0 0),ii 0,ii 0,ii 0,.v (.slice
 none 0 0),ii 0,ii 0,ii 0,ii 0,.v (.slice none 0 0),ii 0,ii 0,ii 0,ii 0,ii 0,ii 0,ii 0,ii 0,ii 0,ii 0,.v (.slice none 0 0),.v
 (.slice none 0 0),.v (.slice none 0 0),ii 0,ii 1,ii 1,ii 2,.v (bs [102]),.v (.slice none 0 0),ii 2,ii 0,ii 1,ii 0,ii 0,ii 0,ii 0,ii
 0,ii 0,.v (.slice none 0 0),ii 0,ii 1,ii 5,.v (.slice none 0 0),ii 0,ii 0,ii 0,ii 0,.v (.slice none 0 0),ii 0,ii 0,ii 0,ii 0,ii 0,
 ii 0,ii 0,ii 0,ii 0,ii 0,.v (.slice none 0 0),.v (.slice none 0 0),.v (.slice none 0 0),ii 0,ii 1,ii 2,ii 3,.v (bs [97]),.v (.slice
 none 0 0),ii 0,ii 0,ii 1,ii 1,ii 0,ii 0,ii 0,ii 0,ii 0,.v (.slice none 0 0),ii 0,ii 0,ii 0,.v (.slice none 0 0),ii 0,ii 0,ii 0,ii
 0,.v (.slice none 0 0),ii 0,ii 0,ii 0,ii 0,ii 0,ii 0,ii 0,ii 0,ii 0,ii 0,.v (.slice none 0 0),.v (.slice none 0 0),.v (.slice none 0
 0),ii 0,ii 1,ii 3,ii 2,.v (bs [103]),.v (.slice none 0 0),ii 2,ii 0,ii 1,ii 0,ii 0,ii 0,ii 0,ii 0,ii 0,.v (.slice none 0 0),ii 0,
 ii 1,ii 7,.v (.slice none 0 0),ii 0,ii 0,ii 0,ii 0,.v (.slice none 0 0),ii 0,ii 0,ii 0,ii 0,ii 0,ii 0,ii 0,ii 0,ii 0,ii 0,.v
 (.slice none 0 0),.v (.slice none 0 0),.v (.slice none 0 0),ii 0,ii 1,ii 4,ii 3,.v (bs [97]),.v (.slice none 0 0),ii 0,ii 0,ii 1,ii 3,
 ii 0,ii 0,ii 0,ii 0,ii 0,.v (.slice none 0 0),ii 0,ii 0,ii 0,.v (.slice none 0 0),ii 0,ii 0,ii 0,ii 0,.v (.slice none 0 0),ii 0,ii
 0,ii 0,ii 0,ii 0,ii 0,ii 0,ii 0,ii 0,ii 0,.v (.slice none 0 0),.v (.slice none 0 0),.v (.slice none 0 0),ii 0,ii 1,ii 5,ii 4,.v (bs
 []),.v (.slice none 0 0),ii 0,ii 0,ii 0,ii 0,ii 0,ii 0,ii 0,ii 0,ii 0,.v (.slice none 0 0),ii 0,ii 0,ii 0,.v (.slice none 0 0),ii 0,
 ii 0,ii 0,ii 0,.v (.slice none 0 0),ii 0,ii 3,ii 0,ii 0,ii 1,ii 3,ii 0,ii 0,ii 0,ii 0,.v (.slice none 0 0),.sl 1 3 [ii 0,ii 1,ii
 6],.v (.slice none 0 0),ii 0,ii 1,ii 6,ii 4,.v (bs []),.v (.slice none 0 0),ii 0,ii 0,ii 0,ii 0,ii 0,ii 0,ii 0,ii 0,ii 0,.v (.slice
 none 0 0),ii 0,ii 0,ii 0,.v (.slice none 0 0),ii 0,ii 0,ii 0,ii 0,.v (.slice none 0 0),ii 0,ii 2,ii 0,ii 0,ii 1,ii 2,ii 0,ii 0,ii
 0,ii 0,.v (.slice none 0 0),.v (.slice none 0 0),.v (.slice none 0 0),ii 0,ii 1,ii 7,ii 4,.v (bs []),.v (.slice none 0 0),ii 0,ii 0,ii
 0,ii 0,ii 0,ii 0,ii 0,ii 0,ii 0,.v (.slice none 0 0),ii 0,ii 0,ii 0,.v (.slice none 0 0),ii 0,ii 0,ii 0,ii 0,.v (.slice none 0 0),
 ii 0,ii 2,ii 0,ii 0,ii 1,ii 4,ii 0,ii 0,ii 0,ii 0,.v (.slice none 0 0),.v (.slice none 0 0),.v (.slice none 0 0)])]⟩
theorem o2389 : k2389.Ok Tryz.prog:=known [] (fun _ h=>by cases h) _ (by kernel_rfl)
def k2694 : Known:=⟨2000014000094000001000005000001000024000007000024,140,[.c (.y
 2000014000094000001000005000001000024000001000011000038000105000024000025000004000022 0 38 0 8),.c (.y
 2000014000094000001000005000001000024000007000024000038000105000024000025000004000022 0 38 0 8),.c (.f 141 [])],
 [(2000014000094000001000005000001000024000007000024000038000105000024000025000004000022,.w 70 38 8 [ii 0,ii 1,ii 0,ii 0,.v (bs [109]),.v
 (.slice none 0 0),ii 0,ii 0,ii 0,ii 0,ii 0,ii 0,ii 0,ii 0,ii 0,.v (.slice none 0 0),ii 0,ii 0,ii 0,.v (.slice none 0 0),ii 0,ii 0,
 ii 0,ii 0,.v (.slice none 0 0),ii 0,ii 0,ii 0,ii 0,ii 0,ii 0,ii 0,ii 0,ii 0,ii 0,.v (.slice none 0 0),.v (.slice none 0 0),.v (.slice
 none 0 0),ii 0,ii 1,ii 1,ii 2,.v (bs [102]),.v (.slice none 0 0),ii 2,ii 0,ii 1,ii 0,ii 0,ii 0,ii 0,ii 0,ii 0,.v (.slice none 0 0),
 ii 0,ii 1,ii 5,.v (.slice none 0 0),ii 0,ii 0,ii 0,ii 0,.v (.slice none 0 0),ii 0,ii 0,ii 0,ii 0,ii 0,ii 0,ii 0,ii 0,ii 0,ii 0,.v
 (.slice none 0 0),.v (.slice none 0 0),.v (.slice none 0 0),ii 0,ii 1,ii 2,ii 3,.v (bs [97]),.v (.slice none 0 0),ii 0,ii 0,ii 1,ii 1,
 ii 0,ii 0,ii 0,ii 0,ii 0,.v (.slice none 0 0),ii 0,ii 0,ii 0,.v (.slice none 0 0),ii 0,ii 0,ii 0,ii 0,.v (.slice none 0 0),ii 0,ii
 0,ii 0,ii 0,ii 0,ii 0,ii 0,ii 0,ii 0,ii 0,.v (.slice none 0 0),.v (.slice none 0 0),.v (.slice none 0 0),ii 0,ii 1,ii 3,ii 2,.v (bs
 [103]),.v (.slice none 0 0),ii 2,ii 0,ii 1,ii 0,ii 0,ii 0,ii 0,ii 0,ii 0,.v (.slice none 0 0),ii 0,ii 1,ii 7,.v (.slice none 0 0),ii
 0,ii 0,ii 0,ii 0,.v (.slice none 0 0),ii 0,ii 0,ii 0,ii 0,ii 0,ii 0,ii 0,ii 0,ii 0,ii 0,.v (.slice none 0 0),.v (.slice none 0 0),
 .v (.slice none 0 0),ii 0,ii 1,ii 4,ii 3,.v (bs [97]),.v (.slice none 0 0),ii 0,ii 0,ii 1,ii 3,ii 0,ii 0,ii 0,ii 0,ii 0,.v (.slice
 none 0 0),ii 0,ii 0,ii 0,.v (.slice none 0 0),ii 0,ii 0,ii 0,ii 0,.v (.slice none 0 0),ii 0,ii 0,ii 0,ii 0,ii 0,ii 0,ii 0,ii 0,ii
 0,ii 0,.v (.slice none 0 0),.v (.slice none 0 0),.v (.slice none 0 0),ii 0,ii 1,ii 5,ii 4,.v (bs []),.v (.slice none 0 0),ii 0,ii 0,ii
 0,ii 0,ii 0,ii 0,ii 0,ii 0,ii 0,.v (.slice none 0 0),ii 0,ii 0,ii 0,.v (.slice none 0 0),ii 0,ii 0,ii 0,ii 0,.v (.slice none 0 0),
 ii 0,ii 3,ii 0,ii 0,ii 1,ii 3,ii 0,ii 0,ii 0,ii 0,.v (.slice none 0 0),.sl 1 3 [ii 0,ii 1,ii 6],.v (.slice none 0 0),ii 0,ii 1,ii
 6,ii 4,.v (bs []),.v (.slice none 0 0),ii 0,ii 0,ii 0,ii 0,ii 0,ii 0,ii 0,ii 0,ii 0,.v (.slice none 0 0),ii 0,ii 0,ii 0,.v (.slice
 none 0 0),ii 0,ii 0,ii 0,ii 0,.v (.slice none 0 0),ii 0,ii 2,ii 0,ii 0,ii 1,ii 2,ii 0,ii 0,ii 0,ii 0,.v (.slice none 0 0),.v
 (.slice none 0 0),.v (.slice none 0 0),ii 0,ii 1,ii 7,ii 4,.v (bs []),.v (.slice none 0 0),ii 0,ii 0,ii 0,ii 0,ii 0,ii 0,ii 0,ii 0,
 ii 0,.v (.slice none 0 0),ii 0,ii 0,ii 0,.v (.slice none 0 0),ii 0,ii 0,ii 0,ii 0,.v (.slice none 0 0),ii 0,ii 2,ii 0,ii 0,ii 1,ii
 4,ii 0,ii 0,ii 0,ii 0,.v (.slice none 0 0),.v (.slice none 0 0),.v (.slice none 0 0)]),
 (2000014000094000001000005000001000024000001000011000038000105000024000025000004000022,.w 70 38 8 [ii 0,ii 1,ii 0,ii 0,.v (bs [109]),.v
 (.slice none 0 0),ii 0,ii 0,ii 0,ii 0,ii 0,ii 0,ii 0,ii 0,ii 0,.v (.slice none 0 0),ii 0,ii 0,ii 0,.v (.slice none 0 0),ii 0,ii 0,
 ii 0,ii 0,.v (.slice none 0 0),ii 0,ii 0,ii 0,ii 0,ii 0,ii 0,ii 0,ii 0,ii 0,ii 0,.v (.slice none 0 0),.v (.slice none 0 0),.v (.slice
 none 0 0),ii 0,ii 1,ii 1,ii 2,.v (bs [102]),.v (.slice none 0 0),ii 2,ii 0,ii 1,ii 0,ii 0,ii 0,ii 0,ii 0,ii 0,.v (.slice none 0 0),
 ii 0,ii 1,ii 5,.v (.slice none 0 0),ii 0,ii 0,ii 0,ii 0,.v (.slice none 0 0),ii 0,ii 0,ii 0,ii 0,ii 0,ii 0,ii 0,ii 0,ii 0,ii 0,.v
 (.slice none 0 0),.v (.slice none 0 0),.v (.slice none 0 0),ii 0,ii 1,ii 2,ii 3,.v (bs [97]),.v (.slice none 0 0),ii 0,ii 0,ii 1,ii 1,
 ii 0,ii 0,ii 0,ii 0,ii 0,.v (.slice none 0 0),ii 0,ii 0,ii 0,.v (.slice none 0 0),ii 0,ii 0,ii 0,ii 0,.v (.slice none 0 0),ii 0,ii
 0,ii 0,ii 0,ii 0,ii 0,ii 0,ii 0,ii 0,ii 0,.v (.slice none 0 0),.v (.slice none 0 0),.v (.slice none 0 0),ii 0,ii 1,ii 3,ii 2,.v (bs
 [103]),.v (.slice none 0 0),ii 2,ii 0,ii 1,ii 0,ii 0,ii 0,ii 0,ii 0,ii 0,.v (.slice none 0 0),ii 0,ii 1,ii 7,.v (.slice none 0 0),ii
 0,ii 0,ii 0,ii 0,.v (.slice none 0 0),ii 0,ii 0,ii 0,ii 0,ii 0,ii 0,ii 0,ii 0,ii 0,ii 0,.v (.slice none 0 0),.v (.slice none 0 0),
 .v (.slice none 0 0),ii 0,ii 1,ii 4,ii 3,.v (bs [97]),.v (.slice none 0 0),ii 0,ii 0,ii 1,ii 3,ii 0,ii 0,ii 0,ii 0,ii 0,.v (.slice
 none 0 0),ii 0,ii 0,ii 0,.v (.slice none 0 0),ii 0,ii 0,ii 0,ii 0,.v (.slice none 0 0),ii 0,ii 0,ii 0,ii 0,ii 0,ii 0,ii 0,ii 0,ii
 0,ii 0,.v (.slice none 0 0),.v (.slice none 0 0),.v (.slice none 0 0),ii 0,ii 1,ii 5,ii 4,.v (bs []),.v (.slice none 0 0),ii 0,ii 0,ii
 0,ii 0,ii 0,ii 0,ii 0,ii 0,ii 0,.v (.slice none 0 0),ii 0,ii 0,ii 0,.v (.slice none 0 0),ii 0,ii 0,ii 0,ii 0,.v (.slice none 0 0),
 ii 0,ii 3,ii 0,ii 0,ii 1,ii 3,ii 0,ii 0,ii 0,ii 0,.v (.slice none 0 0),.sl 1 3 [ii 0,ii 1,ii 6],.v (.slice none 0 0),ii 0,ii 1,ii
 6,ii 4,.v (bs []),.v (.slice none 0 0),ii 0,ii 0,ii 0,ii 0,ii 0,ii 0,ii 0,ii 0,ii 0,.v (.slice none 0 0),ii 0,ii 0,ii 0,.v (.slice
 none 0 0),ii 0,ii 0,ii 0,ii 0,.v (.slice none 0 0),ii 0,ii 2,ii 0,ii 0,ii 1,ii 2,ii 0,ii 0,ii 0,ii 0,.v (.slice none 0 0),.v
 (.slice none 0 0),.v (.slice none 0 0),ii 0,ii 1,ii 7,ii 4,.v (bs []),.v (.slice none 0 0),ii 0,ii 0,ii 0,ii 0,ii 0,ii 0,ii 0,ii 0,
 ii 0,.v (.slice none 0 0),ii 0,ii 0,ii 0,.v (.slice none 0 0),ii 0,ii 0,ii 0,ii 0,.v (.slice none 0 0),ii 0,ii 2,ii 0,ii 0,ii 1,ii
 4,ii 0,ii 0,ii 0,ii 0,.v (.slice none 0 0),.v (.slice none 0 0),.v (.slice none 0 0)])],.c (.d (vB true)),
 [(2000014000094000001000005000001000024000001000011000038000105000024000025000004000022,.w 70 38 8 [ii 0,ii 1,ii 0,ii 0,.v (bs [109]),.v
 (.slice none 0 0),ii 0,ii 0,ii 0,ii 0,ii 0,ii 0,ii 0,ii 0,ii 0,.v (.slice none 0 0),ii 0,ii 0,ii 0,.v (.slice none 0 0),ii 0,ii 0,
 ii 0,ii 0,.v (.slice none 0 0),ii 0,ii 0,ii 0,ii 0,ii 0,ii 0,ii 0,ii 0,ii 0,ii 0,.v (.slice none 0 0),.v (.slice none 0 0),.v (.slice
 none 0 0),ii 0,ii 1,ii 1,ii 2,.v (bs [102]),.v (.slice none 0 0),ii 2,ii 0,ii 1,ii 0,ii 0,ii 0,ii 0,ii 0,ii 0,.v (.slice none 0 0),
 ii 0,ii 1,ii 5,.v (.slice none 0 0),ii 0,ii 0,ii 0,ii 0,.v (.slice none 0 0),ii 0,ii 0,ii 0,ii 0,ii 0,ii 0,ii 0,ii 0,ii 0,ii 0,.v
 (.slice none 0 0),.v (.slice none 0 0),.v (.slice none 0 0),ii 0,ii 1,ii 2,ii 3,.v (bs [97]),.v (.slice none 0 0),ii 0,ii 0,ii 1,ii 1,
 ii 0,ii 0,ii 0,ii 0,ii 0,.v (.slice none 0 0),ii 0,ii 0,ii 0,.v (.slice none 0 0),ii 0,ii 0,ii 0,ii 0,.v (.slice none 0 0),ii 0,ii
 0,ii 0,ii 0,ii 0,ii 0,ii 0,ii 0,ii 0,ii 0,.v (.slice none 0 0),.v (.slice none 0 0),.v (.slice none 0 0),ii 0,ii 1,ii 3,ii 2,.v (bs
 [103]),.v (.slice none 0 0),ii 2,ii 0,ii 1,ii 0,ii 0,ii 0,ii 0,ii 0,ii 0,.v (.slice none 0 0),ii 0,ii 1,ii 7,.v (.slice none 0 0),ii
 0,ii 0,ii 0,ii 0,.v (.slice none 0 0),ii 0,ii 0,ii 0,ii 0,ii 0,ii 0,ii 0,ii 0,ii 0,ii 0,.v (.slice none 0 0),.v (.slice none 0 0),
 .v (.slice none 0 0),ii 0,ii 1,ii 4,ii 3,.v (bs [97]),.v (.slice none 0 0),ii 0,ii 0,ii 1,ii 3,ii 0,ii 0,ii 0,ii 0,ii 0,.v (.slice
 none 0 0),ii 0,ii 0,ii 0,.v (.slice none 0 0),ii 0,ii 0,ii 0,ii 0,.v (.slice none 0 0),ii 0,ii 0,ii 0,ii 0,ii 0,ii 0,ii 0,ii 0,ii
 0,ii 0,.v (.slice none 0 0),.v (.slice none 0 0),.v (.slice none 0 0),ii 0,ii 1,ii 5,ii 4,.v (bs []),.v (.slice none 0 0),ii 0,ii 0,ii
 0,ii 0,ii 0,ii 0,ii 0,ii 0,ii 0,.v (.slice none 0 0),ii 0,ii 0,ii 0,.v (.slice none 0 0),ii 0,ii 0,ii 0,ii 0,.v (.slice none 0 0),
 ii 0,ii 3,ii 0,ii 0,ii 1,ii 3,ii 0,ii 0,ii 0,ii 0,.v (.slice none 0 0),.sl 1 3 [ii 0,ii 1,ii 6],.v (.slice none 0 0),ii 0,ii 1,ii
 6,ii 4,.v (bs []),.v (.slice none 0 0),ii 0,ii 0,ii 0,ii 0,ii 0,ii 0,ii 0,ii 0,ii 0,.v (.slice none 0 0),ii 0,ii 0,ii 0,.v (.slice
 none 0 0),ii 0,ii 0,ii 0,ii 0,.v (.slice none 0 0),ii 0,ii 2,ii 0,ii 0,ii 1,ii 2,ii 0,ii 0,ii 0,ii 0,.v (.slice none 0 0),.v
 (.slice none 0 0),.v (.slice none 0 0),ii 0,ii 1,ii 7,ii 4,.v (bs []),.v (.slice none 0 0),ii 0,ii 0,ii 0,ii 0,ii 0,ii 0,ii 0,ii 0,
 ii 0,.v (.slice none 0 0),ii 0,ii 0,ii 0,.v (.slice none 0 0),ii 0,ii 0,ii 0,ii 0,.v (.slice none 0 0),ii 0,ii 2,ii 0,ii 0,ii 1,ii
 4,ii 0,ii 0,ii 0,ii 0,.v (.slice none 0 0),.v (.slice none 0 0),.v (.slice none 0 0)]),
 (2000014000094000001000005000001000024000007000024000038000105000024000025000004000022,.w 70 38 8 [ii 0,ii 1,ii 0,ii 0,.v (bs [109]),.v
 (.slice none 0 0),ii 0,ii 0,ii 0,ii 0,ii 0,ii 0,ii 0,ii 0,ii 0,.v (.slice none 0 0),ii 0,ii 0,ii 0,.v (.slice none 0 0),ii 0,ii 0,
 ii 0,ii 0,.v (.slice none 0 0),ii 0,ii 0,ii 0,ii 0,ii 0,ii 0,ii 0,ii 0,ii 0,ii 0,.v (.slice none 0 0),.v (.slice none 0 0),.v (.slice
 none 0 0),ii 0,ii 1,ii 1,ii 2,.v (bs [102]),.v (.slice none 0 0),ii 2,ii 0,ii 1,ii 0,ii 0,ii 0,ii 0,ii 0,ii 0,.v (.slice none 0 0),
 ii 0,ii 1,ii 5,.v (.slice none 0 0),ii 0,ii 0,ii 0,ii 0,.v (.slice none 0 0),ii 0,ii 0,ii 0,ii 0,ii 0,ii 0,ii 0,ii 0,ii 0,ii 0,.v
 (.slice none 0 0),.v (.slice none 0 0),.v (.slice none 0 0),ii 0,ii 1,ii 2,ii 3,.v (bs [97]),.v (.slice none 0 0),ii 0,ii 0,ii 1,ii 1,
 ii 0,ii 0,ii 0,ii 0,ii 0,.v (.slice none 0 0),ii 0,ii 0,ii 0,.v (.slice none 0 0),ii 0,ii 0,ii 0,ii 0,.v (.slice none 0 0),ii 0,ii
 0,ii 0,ii 0,ii 0,ii 0,ii 0,ii 0,ii 0,ii 0,.v (.slice none 0 0),.v (.slice none 0 0),.v (.slice none 0 0),ii 0,ii 1,ii 3,ii 2,.v (bs
 [103]),.v (.slice none 0 0),ii 2,ii 0,ii 1,ii 0,ii 0,ii 0,ii 0,ii 0,ii 0,.v (.slice none 0 0),ii 0,ii 1,ii 7,.v (.slice none 0 0),ii
 0,ii 0,ii 0,ii 0,.v (.slice none 0 0),ii 0,ii 0,ii 0,ii 0,ii 0,ii 0,ii 0,ii 0,ii 0,ii 0,.v (.slice none 0 0),.v (.slice none 0 0),
 .v (.slice none 0 0),ii 0,ii 1,ii 4,ii 3,.v (bs [97]),.v (.slice none 0 0),ii 0,ii 0,ii 1,ii 3,ii 0,ii 0,ii 0,ii 0,ii 0,.v (.slice
 none 0 0),ii 0,ii 0,ii 0,.v (.slice none 0 0),ii 0,ii 0,ii 0,ii 0,.v (.slice none 0 0),ii 0,ii 0,ii 0,ii 0,ii 0,ii 0,ii 0,ii 0,ii
 0,ii 0,.v (.slice none 0 0),.v (.slice none 0 0),.v (.slice none 0 0),ii 0,ii 1,ii 5,ii 4,.v (bs []),.v (.slice none 0 0),ii 0,ii 0,ii
 0,ii 0,ii 0,ii 0,ii 0,ii 0,ii 0,.v (.slice none 0 0),ii 0,ii 0,ii 0,.v (.slice none 0 0),ii 0,ii 0,ii 0,ii 0,.v (.slice none 0 0),
 ii 0,ii 3,ii 0,ii 0,ii 1,ii 3,ii 0,ii 0,ii 0,ii 0,.v (.slice none 0 0),.sl 1 3 [ii 0,ii 1,ii 6],.v (.slice none 0 0),ii 0,ii 1,ii
 6,ii 4,.v (bs []),.v (.slice none 0 0),ii 0,ii 0,ii 0,ii 0,ii 0,ii 0,ii 0,ii 0,ii 0,.v (.slice none 0 0),ii 0,ii 0,ii 0,.v (.slice
 none 0 0),ii 0,ii 0,ii 0,ii 0,.v (.slice none 0 0),ii 0,ii 2,ii 0,ii 0,ii 1,ii 2,ii 0,ii 0,ii 0,ii 0,.v (.slice none 0 0),.v
 (.slice none 0 0),.v (.slice none 0 0),ii 0,ii 1,ii 7,ii 4,.v (bs []),.v (.slice none 0 0),ii 0,ii 0,ii 0,ii 0,ii 0,ii 0,ii 0,ii 0,
 ii 0,.v (.slice none 0 0),ii 0,ii 0,ii 0,.v (.slice none 0 0),ii 0,ii 0,ii 0,ii 0,.v (.slice none 0 0),ii 0,ii 2,ii 0,ii 0,ii 1,ii
 4,ii 0,ii 0,ii 0,ii 0,.v (.slice none 0 0),.v (.slice none 0 0),.v (.slice none 0 0)])]⟩
theorem o2694 : k2694.Ok Tryz.prog:=known [] (fun _ h=>by cases h) _ (by kernel_rfl)
def k2705 : Known:=⟨2000014000094000001000005000001000023,44,[.g [.w 2000001000014000004000032,.w 2000001000014000004000035]],
 [(2000001000014000004000035,.w 52 31 2 [ii 0,ii 1,ii 1,ii 2,ii 0,ii 1,ii 0,.v (bs [102]),.sl 1 11 [ii 0,ii 1,ii 2,.v (bs [97]),ii 0,ii
 0,ii 0,ii 0,.v (.slice none 0 0),ii 0,ii 0],ii 0,ii 0,ii 0,ii 0,.v (.slice none 0 0),ii 0,ii 1,ii 5,ii 3,ii 0,ii 0,ii 1,ii 3,ii
 0,ii 0,ii 0,ii 0,.v (.slice none 0 0),.sl 1 15 [ii 0,ii 1,ii 6,ii 2,ii 0,ii 0,ii 1,ii 2,ii 0,ii 0,ii 0,ii 0,.v (.slice none 0 0),
 .v (.slice none 0 0),.v (.slice none 0 0)],.v (.slice none 0 0),ii 0,.v (.slice none 0 0),ii 0,ii 1,ii 3,ii 2,ii 0,ii 1,ii 0,.v (bs
 [103]),.sl 1 11 [ii 0,ii 1,ii 4,.v (bs [97]),ii 0,ii 0,ii 0,ii 0,.v (.slice none 0 0),ii 0,ii 0],ii 0,ii 0,ii 0,ii 0,.v (.slice none
 0 0),ii 0,ii 1,ii 7,ii 2,ii 0,ii 0,ii 1,ii 4,ii 0,ii 0,ii 0,ii 0,.v (.slice none 0 0),.v (.slice none 0 0),.v (.slice none 0 0),ii
 0,.v (.slice none 0 0)]),(2000001000014000004000032,.w 60 6 1 [ii 0,ii 1,ii 0,.v (bs [109]),.v (.slice none 0 0),.sl 2 3 [ii 0,ii 1,ii 1,
 ii 0,ii 1,ii 3]])],.c (.l 6),[(2000001000014000004000032,.w 60 6 1 [ii 0,ii 1,ii 0,.v (bs [109]),.v (.slice none 0 0),.sl 2 3 [ii 0,ii 1,
 ii 1,ii 0,ii 1,ii 3]]),(2000001000014000004000035,.w 52 31 2 [ii 0,ii 1,ii 1,ii 2,ii 0,ii 1,ii 0,.v (bs [102]),.sl 1 11 [ii 0,ii 1,ii
 2,.v (bs [97]),ii 0,ii 0,ii 0,ii 0,.v (.slice none 0 0),ii 0,ii 0],ii 0,ii 0,ii 0,ii 0,.v (.slice none 0 0),ii 0,ii 1,ii 5,ii 3,ii
 0,ii 0,ii 1,ii 3,ii 0,ii 0,ii 0,ii 0,.v (.slice none 0 0),.sl 1 15 [ii 0,ii 1,ii 6,ii 2,ii 0,ii 0,ii 1,ii 2,ii 0,ii 0,ii 0,ii 0,
 .v (.slice none 0 0),.v (.slice none 0 0),.v (.slice none 0 0)],.v (.slice none 0 0),ii 0,.v (.slice none 0 0),ii 0,ii 1,ii 3,ii 2,ii 0,
 ii 1,ii 0,.v (bs [103]),.sl 1 11 [ii 0,ii 1,ii 4,.v (bs [97]),ii 0,ii 0,ii 0,ii 0,.v (.slice none 0 0),ii 0,ii 0],ii 0,ii 0,ii 0,ii
 0,.v (.slice none 0 0),ii 0,ii 1,ii 7,ii 2,ii 0,ii 0,ii 1,ii 4,ii 0,ii 0,ii 0,ii 0,.v (.slice none 0 0),.v (.slice none 0 0),.v
 (.slice none 0 0),ii 0,.v (.slice none 0 0)])]⟩
theorem o2705 : k2705.Ok Tryz.prog:=known [k2694,k2389] (List.forall_mem_cons.2 ⟨o2694,List.forall_mem_cons.2 ⟨o2389,fun _ h=>by cases h⟩⟩) _ (by kernel_rfl)
def k2860 : Known:=⟨2000014000093,13,[.g [.w 2000001000014000004000032,.w 2000001000014000004000035]],[(2000001000014000004000035,.w 52 31 2
 [ii 0,ii 1,ii 1,ii 2,ii 0,ii 1,ii 0,.v (bs [102]),.sl 1 11 [ii 0,ii 1,ii 2,.v (bs [97]),ii 0,ii 0,ii 0,ii 0,.v (.slice none 0 0),ii
 0,ii 0],ii 0,ii 0,ii 0,ii 0,.v (.slice none 0 0),ii 0,ii 1,ii 5,ii 3,ii 0,ii 0,ii 1,ii 3,ii 0,ii 0,ii 0,ii 0,.v (.slice none 0
 0),.sl 1 15 [ii 0,ii 1,ii 6,ii 2,ii 0,ii 0,ii 1,ii 2,ii 0,ii 0,ii 0,ii 0,.v (.slice none 0 0),.v (.slice none 0 0),.v (.slice none 0
 0)],.v (.slice none 0 0),ii 0,.v (.slice none 0 0),ii 0,ii 1,ii 3,ii 2,ii 0,ii 1,ii 0,.v (bs [103]),.sl 1 11 [ii 0,ii 1,ii 4,.v (bs
 [97]),ii 0,ii 0,ii 0,ii 0,.v (.slice none 0 0),ii 0,ii 0],ii 0,ii 0,ii 0,ii 0,.v (.slice none 0 0),ii 0,ii 1,ii 7,ii 2,ii 0,ii 0,
 ii 1,ii 4,ii 0,ii 0,ii 0,ii 0,.v (.slice none 0 0),.v (.slice none 0 0),.v (.slice none 0 0),ii 0,.v (.slice none 0 0)]),
 (2000001000014000004000032,.w 60 6 1 [ii 0,ii 1,ii 0,.v (bs [109]),.v (.slice none 0 0),.sl 2 3 [ii 0,ii 1,ii 1,ii 0,ii 1,ii 3]])],.c
 (.d (vB true)),[(2000001000014000004000032,.w 60 6 1 [ii 0,ii 1,ii 0,.v (bs [109]),.v (.slice none 0 0),.sl 2 3 [ii 0,ii 1,ii 1,ii 0,ii
 1,ii 3]]),(2000001000014000004000035,.w 52 31 2 [ii 0,ii 1,ii 1,ii 2,ii 0,ii 1,ii 0,.v (bs [102]),.sl 1 11 [ii 0,ii 1,ii 2,.v (bs
 [97]),ii 0,ii 0,ii 0,ii 0,.v (.slice none 0 0),ii 0,ii 0],ii 0,ii 0,ii 0,ii 0,.v (.slice none 0 0),ii 0,ii 1,ii 5,ii 3,ii 0,ii 0,
 ii 1,ii 3,ii 0,ii 0,ii 0,ii 0,.v (.slice none 0 0),.sl 1 15 [ii 0,ii 1,ii 6,ii 2,ii 0,ii 0,ii 1,ii 2,ii 0,ii 0,ii 0,ii 0,.v
 (.slice none 0 0),.v (.slice none 0 0),.v (.slice none 0 0)],.v (.slice none 0 0),ii 0,.v (.slice none 0 0),ii 0,ii 1,ii 3,ii 2,ii 0,ii
 1,ii 0,.v (bs [103]),.sl 1 11 [ii 0,ii 1,ii 4,.v (bs [97]),ii 0,ii 0,ii 0,ii 0,.v (.slice none 0 0),ii 0,ii 0],ii 0,ii 0,ii 0,ii 0,
 .v (.slice none 0 0),ii 0,ii 1,ii 7,ii 2,ii 0,ii 0,ii 1,ii 4,ii 0,ii 0,ii 0,ii 0,.v (.slice none 0 0),.v (.slice none 0 0),.v (.slice
 none 0 0),ii 0,.v (.slice none 0 0)])]⟩
theorem o2860 : k2860.Ok Tryz.prog:=known [k2705] (List.forall_mem_cons.2 ⟨o2705,fun _ h=>by cases h⟩) _ (by kernel_rfl)
def k2888 : Known:=⟨1,14,[],[],.c (.d (vB true)),[]⟩
theorem o2888 : k2888.Ok Tryz.prog:=known [k2860,k2240,k1621,k877] (List.forall_mem_cons.2 ⟨o2860,List.forall_mem_cons.2 ⟨o2240,List.forall_mem_cons.2 ⟨o1621,List.forall_mem_cons.2 ⟨o877,fun _ h=>by cases h⟩⟩⟩⟩) _ (by kernel_rfl)
end Go.Proofs.YtmbboaapillefaaGreatDoor

namespace Pm
open Go Xe
theorem Fg {P : Program} {f : Nat} {b : Bool} (h : mV P f [] [] (.c (.d (.v (.bool b)))) []) : Is P ⟨f,⟨[],[]⟩,.c .bo,[],true⟩ [] [[.v (.bool b)]]:=by
 show Ct P ⟨f,⟨[],[]⟩,.c .bo,[],true⟩ ⟨fun _=>su,fun _=>none,0⟩ [[.v (.bool b)]]
 intro w0 Γ0 ρ M lst vs w hl hρ hR
 have hv : vs = []:=List.eq_nil_of_length_eq_zero hl
 subst hv
 refine (h w0 Γ0 ρ M lst [] w trivial ⟨fun t=>.inl rfl,fun b o h=>(by cases h),fun b v hb=>hR.rho b v hb,hR.keys,hR.nd,hR.st,hR.gr⟩).mono ?_
 rintro e w' ⟨u,ρ',M',lst',rfl,hM,_,hs,hR2⟩
 have hnone : ∀ i v,ρ' i ≠ some v:=fun i v hi=>by
  rcases hR2.rho i v hi with h1 | h1
  ·exact absurd h1 (Nat.not_lt_zero _)
  ·cases h1
 have hlst : lst' = []:=by
  cases lst' with
  | nil=>rfl
  | cons p l =>
   obtain ⟨v,hv⟩:=Option.isSome_iff_exists.1 (hR2.keys p (List.mem_cons_self ..))
   exact absurd hv (hnone _ _)
 subst hlst
 refine ⟨u,[u],fun _=>none,M',[],⟨fun k=>match Nat.beq k 0 with
  | true=>.c (.d (.v (.bool b)))
  | false=>su,fun _=>none,0⟩,rfl,rfl,hM,fun i v hi hm=>(by cases hm),fun i hi=>(by cases hi),fun p hp=>(by cases hp),rfl,⟨fun t=>?_,fun b o h=>(by cases h),fun b v hb=>(by cases hb),fun p hp=>(by cases hp),List.nodup_nil,hR2.st,hR2.gr⟩⟩
 dsimp only
 split
 ·rename_i ht
  obtain rfl:=Nat.eq_of_beq_eq_true ht
  exact .inr ⟨u,rfl,hs⟩
 ·exact .inl rfl
end Pm

namespace Go.Proofs.YtmbboaapillefaaGreatDoor
open Xe Pm
theorem Hx : IS s14 [] [[vB true]]:=Fg o2888
theorem tr : ∀ (ps : List PlanT) (i nx : Int),∀ d∈aF ps i nx,d.id.shop = 0
 | p::ps,i,nx,d,h=>by
  rw [aF] at h
  rcases List.mem_cons.1 h with rfl | h
  ·rfl
  ·exact tr ps _ _ d h
theorem EF (l : List Int) : ∀ d∈(fP l).defs,d.id.shop = 0:=fun d hd=>by
 obtain ⟨N,hN,hlk,hnm⟩:=nw l
 obtain ⟨e,he,hsh⟩:=hlk.mem hd
 rw [(cw hsh).1]
 exact tr _ _ _ e he
theorem tA (p : ProgT) : ∀ (n : Nat) (out left : List IdT),(dP p n out left).1.length+(dP p n out left).2.length<=out.length+left.length
 | 0,out,left=>Nat.le_refl _
 | n+1,out,left=>by
  rw [dP]
  cases hf : fH p out left with
  | none=>exact Nat.le_refl _
  | some k =>
   obtain ⟨hk,_⟩:=lz hf
   have:=tA p n (out++[left.getD k default]) (left.eraseIdx k)
   rw [List.length_append,List.length_singleton,List.length_eraseIdx,if_pos hk] at this
   dsimp only
   omega
theorem Ee {p : ProgT} (h : ∀ d∈p.defs,d.id.shop = 0) : de p ⟨7,0,0⟩ = []:=by
 unfold de
 refine if_neg ?_
 rintro ⟨d,hd,e⟩
 have:=h d hd
 rw [e] at this
 exact absurd this Q1
theorem el_Pg (xs : List ProgT) {k : Nat} (hk : k < xs.length) : el (xs.flatMap ProgT.enc) 2 k = xs[k].enc:=gP ProgT.aM xs hk
theorem Bo (l : List Int) : Small (fP l):=kH (l6 l).d fun d h=>by have:=(l6 l).w d h;omega
theorem ES {l : List Int} {at' how by' : Int} (hl : ∀ x∈l,InI x) (ha : InI at') (hh : InI how) (hb : InI by') : IS s4 [[aY l],[vI at'],[vI how],[vI by']] [[vB true]]:=by
 refine w4.is ?_
 unfold g4
 simp only [pmr]
 refine ai (prog_is hl) ?_
 simp only [pmr]
 obtain ⟨r1,⟨q1,s1,i1,rfl⟩,h1⟩:=vw (l6 l) ha hh hb
 obtain ⟨r2,⟨q2,s2,i2,rfl⟩,h2⟩:=vw (l6 l) hb (show InI 14 by unfold InI;decide) ha
 refine ai h1 ?_
 simp only [pmr]
 refine ai h2 ?_
 simp only [pmr]
 have hrow : (fP l).enc++[dMs q1.mods,dDs q1.defs,dMs q2.mods,dDs q2.defs,.sl 0 6 [],.sl 0 31 []] = [fP l,q1,q2,⟨[],[]⟩].flatMap ProgT.enc:=rfl
 rw [hrow]
 have hsm : ∀ q∈[fP l,q1,q2,(⟨[],[]⟩ : ProgT)],Small q/\∀ d∈q.defs,d.id.shop = 0:=by
  have h0:=EF l
  intro q hq
  simp only [List.mem_cons,List.not_mem_nil,or_false] at hq
  rcases hq with rfl | rfl | rfl | rfl
  ·exact ⟨Bo l,h0⟩
  ·exact ⟨s1,fun d hd=>by obtain ⟨d0,hd0,e⟩:=i1 d hd;rw [e];exact h0 d0 hd0⟩
  ·exact ⟨s2,fun d hd=>by obtain ⟨d0,hd0,e⟩:=i2 d hd;rw [e];exact h0 d0 hd0⟩
  ·exact ⟨kH (Nat.zero_le _) (fun d h=>by cases h),(fun d h=>by cases h)⟩
 have hR4 : [fP l,q1,q2,(⟨[],[]⟩ : ProgT)].length = 4:=rfl
 generalize [fP l,q1,q2,(⟨[],[]⟩ : ProgT)] = R at hsm hR4 ⊢
 refine bl 4 (fun i=>[[vI (i : Int)],[.sl 4 2 (R.flatMap ProgT.enc)]]) (fun _=>True) trivial rfl fun i next hi _ hn=>?_
 simp only [pmr]
 refine ⟨fun h=>?_,fun h=>?_⟩
 ·have hk : i < R.length:=Q0
  obtain ⟨hq,hsh⟩:=hsm _ (List.getElem_mem hk)
  have hkd:=hn Q0 trivial
  rw [el_Pg _ hk]
  have hqd:=hq.d
  have hqw:=hq.w
  have hol:=tA R[i] (lg R[i]).length [] (lg R[i])
  have hil:=tU R[i]
  rw [List.length_nil,Nat.zero_add] at hol
  refine ⟨Q0,ai (GH xl hq) ?_⟩
  simp only [pmr]
  refine ⟨Q0,ai (ET hq) ?_⟩
  simp only [pmr]
  refine ai (xy _ _ Q0 Q0) ?_
  simp only [pmr,decide_true,Bool.not_true]
  refine ai (xy _ _ Q0 Q0) ?_
  simp only [pmr,decide_true,Bool.not_true]
  refine ⟨Q0,ai (w6 xl hq ⟨7,0,0⟩) ?_⟩
  rw [Ee hsh]
  simp only [pmr]
  refine ⟨fun h=>absurd h Q1,fun _=>?_⟩
  refine bl R[i].defs.length (fun k=>[[vI (i : Int)],[vI (k : Int)],[.sl 4 2 (R.flatMap ProgT.enc)]]) (fun _=>True) trivial rfl fun k vV hk2 _ hn2=>?_
  simp only [pmr]
  rw [el_Pg _ hk]
  have hc : cell (R[i]).enc 1 = dDs R[i].defs:=rfl
  simp only [pmr,hc]
  refine ⟨Q0,fun h2=>?_,fun h2=>?_⟩
  ·have hk3 : k < R[i].defs.length:=Q0
   rw [fR _ hk3]
   simp only [pms]
   have hul:=pJ R[i] R[i].defs[k].id
   have huw:=hqw R[i].defs[k].id
   refine ⟨Q0,Q0,Q0,ai (w6 xl hq _) ?_⟩
   simp only [pmr]
   refine ⟨Q0,ai (yF _ _ Q0 hqw) ?_⟩
   simp only [pmr]
   refine ai (xy _ _ Q0 Q0) ?_
   simp only [pmr,decide_true,Bool.not_true]
   exact ⟨Q4,hn2 hk3 trivial⟩
  ·exact ⟨Q4,hkd⟩
 ·refine ai Hx ?_
  simp only [pmr]
end Go.Proofs.YtmbboaapillefaaGreatDoor
