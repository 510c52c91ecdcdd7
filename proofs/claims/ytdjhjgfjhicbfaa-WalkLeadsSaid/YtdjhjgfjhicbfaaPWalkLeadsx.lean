-- PRINTED BY print.sh 35421559b90ae4d0a3588c463048766b98c2df88dd9212a6774a882060cdf62d: not written by this session
import Derived.Test.YtdjhjgfjhicbfaaPWalkLeadsx0
import Derived.Test.YtdjhjgfjhicbfaaPWalkLeadsx1
import Derived.Test.YtdjhjgfjhicbfaaPWalkLeadsx2
import Derived.Test.YtdjhjgfjhicbfaaPWalkLeadsx3
import Derived.Test.YtdjhjgfjhicbfaaPWalkLeadsx4
import Derived.Test.YtdjhjgfjhicbfaaPWalkLeadsx5
import Derived.Test.YtdjhjgfjhicbfaaPWalkLeadsx6
import Derived.Test.YtdjhjgfjhicbfaaPWalkLeadsx7
namespace Go.Proofs.Ytdjhjgfjhicbfaa.PWalkLeads
open Go.RowKit Go.Proofs.YtdjhjgfjhicbfaaW.PrintWords Go.Proofs.YtdjhjgfjhicbfaaW.PrintLast Go.Proofs.YtdjhjgfjhicbfaaW.PrintMore
attribute [local go_sem] max2_int min2_int max_two min_two max_three min_three max_four min_four   -- for this text's walks alone
set_option linter.unusedVariables false
set_option linter.unusedSimpArgs false

end Go.Proofs.Ytdjhjgfjhicbfaa.PWalkLeads
