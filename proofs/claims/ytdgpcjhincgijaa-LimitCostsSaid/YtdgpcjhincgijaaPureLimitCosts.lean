import Derived.Test.YtdgpcjhincgijaaLp1
namespace Go.Proofs.Ytdgpcjhincgijaa.Pure
theorem LimitCosts : Go.Proofs.Ytdgpcjhincgijaa.Pg.valiselaw05_LimitCosts.Pure := Go.Proofs.Ytdgpcjhincgijaa.Pg.limitCosts_pure
end Go.Proofs.Ytdgpcjhincgijaa.Pure
