/- A rack beside a list when the number is no place. -/
import Derived.Test.YtpnfmbeccjehiabGreatDoorK53
import Derived.Test.YtpnfmbeccjehiabGreatDoorK62
namespace Go.Proofs.YtpnfmbeccjehiabGreatDoor
open Go.RowKit Go.Proofs.YtpnfmbeccjehiabGreatDoorW.PrintWords Go.Proofs.YtpnfmbeccjehiabGreatDoorW.PrintLast Go.Proofs.YtpnfmbeccjehiabGreatDoorW.PrintMore
attribute [local go_sem ↓] Go.wp_at_zero Go.wp_at_succ
end Go.Proofs.YtpnfmbeccjehiabGreatDoor
