/- The printed function awake of the first layer's statements answers true. -/
import Derived.Test.YtpllddgbfhnghaaPx11
import Derived.Test.YtpllddgbfhnghaaAddrP
import Derived.Test.YtpllddgbfhnghaaDiv
namespace Go.Proofs.Ytpllddgbfhnghaa
open Go.RowKit Go.Proofs.Ytpllddgbfhnghaa.P Go.Proofs.YtpllddgbfhnghaaW.PrintWords Go.Proofs.YtpllddgbfhnghaaW.PrintLast Go.Proofs.YtpllddgbfhnghaaW.PrintMore
theorem awake1_v (k : Nat) (hk : 80 ≤ k) : tenancylaw01_awake.f k = some true := by
  unfold tenancylaw01_awake.f
  have e1 : addr_Add.f 0 18446744073709551615 0 1 = some (1, 0, false) := by decide +kernel
  have e2 : addr_Mod.f k 1 0 0 7 = some (0, 2, true) := mod_v k 18446744073709551616 7 hk (by decide) (by decide)
  have e3 : addr_Clip.f k 0 3232235781 120 = some (0, 3232235776, 120, true) := clip_v k 3232235781 120 (by omega) (by decide) (by decide) (by decide)
  have e4 : addr_Sound.f k 0 3232235776 120 = some true := sound_v k 3232235776 120 (by omega) (by decide) (by decide) (by decide)
  have e5 : addr_Has.f k 0 3232235776 120 0 3232236031 = some true := has_v k 3232235776 3232236031 120 (by omega) (by decide) (by decide) (by decide)
  have e6 : addr_Up.f 0 1 64 = some (1, 0) := up_v 1 64 (by decide) (by decide) (by decide)
  have e7 : addr_Down.f 1 0 1 = some (0, 9223372036854775808) := down_v 18446744073709551616 1 (by decide) (by decide) (by decide)
  have e8 : addr_Cmp.f k 1 0 0 2 = some 1 := cmp_v k 18446744073709551616 2 (by omega)
  rw [e1, e2, e3]
  simp only [bindS]
  rw [e4, e5, e6, e7, e8]
  simp
end Go.Proofs.Ytpllddgbfhnghaa
