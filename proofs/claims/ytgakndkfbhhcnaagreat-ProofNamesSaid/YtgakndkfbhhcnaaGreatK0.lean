/- Each function of this part is the code of the machine that stands for it. -/
import Derived.Test.YtgakndkfbhhcnaaGreatAv6
import Derived.Test.YtgakndkfbhhcnaaGreatF0
import Derived.Test.YtgakndkfbhhcnaaGreatF1
import Derived.Test.YtgakndkfbhhcnaaGreatF2
import Derived.Test.YtgakndkfbhhcnaaGreatProg
import Derived.KernelRfl
namespace Go.Px
open Go Go.Avm Go.Proofs
set_option maxRecDepth 1000000
theorem c6 : chkFn Tryz.prog Tryz.f6 a6 = true := by kernel_rfl
theorem c16 : chkFn Tryz.prog Tryz.f16 a16 = true := by kernel_rfl
theorem c22 : chkFn Tryz.prog Tryz.f22 a22 = true := by kernel_rfl
theorem c33 : chkFn Tryz.prog Tryz.f33 a33 = true := by kernel_rfl
theorem c41 : chkFn Tryz.prog Tryz.f41 a41 = true := by kernel_rfl
theorem c48 : chkFn Tryz.prog Tryz.f48 a48 = true := by kernel_rfl
theorem c52 : chkFn Tryz.prog Tryz.f52 a52 = true := by kernel_rfl
theorem c67 : chkFn Tryz.prog Tryz.f67 a67 = true := by kernel_rfl
theorem c74 : chkFn Tryz.prog Tryz.f74 a74 = true := by kernel_rfl
theorem c79 : chkFn Tryz.prog Tryz.f79 a79 = true := by kernel_rfl
theorem c97 : chkFn Tryz.prog Tryz.f97 a97 = true := by kernel_rfl
theorem c112 : chkFn Tryz.prog Tryz.f112 a112 = true := by kernel_rfl
theorem c116 : chkFn Tryz.prog Tryz.f116 a116 = true := by kernel_rfl
theorem c120 : chkFn Tryz.prog Tryz.f120 a120 = true := by kernel_rfl
theorem c124 : chkFn Tryz.prog Tryz.f124 a124 = true := by kernel_rfl
theorem c128 : chkFn Tryz.prog Tryz.f128 a128 = true := by kernel_rfl
theorem c132 : chkFn Tryz.prog Tryz.f132 a132 = true := by kernel_rfl
theorem c140 : chkFn Tryz.prog Tryz.f140 a140 = true := by kernel_rfl
theorem c146 : chkFn Tryz.prog Tryz.f146 a146 = true := by kernel_rfl
theorem c150 : chkFn Tryz.prog Tryz.f150 a150 = true := by kernel_rfl
theorem c154 : chkFn Tryz.prog Tryz.f154 a154 = true := by kernel_rfl
theorem c158 : chkFn Tryz.prog Tryz.f158 a158 = true := by kernel_rfl
theorem c162 : chkFn Tryz.prog Tryz.f162 a162 = true := by kernel_rfl
theorem c176 : chkFn Tryz.prog Tryz.f176 a176 = true := by kernel_rfl
theorem c180 : chkFn Tryz.prog Tryz.f180 a180 = true := by kernel_rfl
theorem c184 : chkFn Tryz.prog Tryz.f184 a184 = true := by kernel_rfl
theorem c188 : chkFn Tryz.prog Tryz.f188 a188 = true := by kernel_rfl
theorem c192 : chkFn Tryz.prog Tryz.f192 a192 = true := by kernel_rfl
theorem c196 : chkFn Tryz.prog Tryz.f196 a196 = true := by kernel_rfl
theorem c200 : chkFn Tryz.prog Tryz.f200 a200 = true := by kernel_rfl
theorem c204 : chkFn Tryz.prog Tryz.f204 a204 = true := by kernel_rfl
theorem c208 : chkFn Tryz.prog Tryz.f208 a208 = true := by kernel_rfl
theorem c212 : chkFn Tryz.prog Tryz.f212 a212 = true := by kernel_rfl
theorem c216 : chkFn Tryz.prog Tryz.f216 a216 = true := by kernel_rfl
theorem c220 : chkFn Tryz.prog Tryz.f220 a220 = true := by kernel_rfl
theorem c229 : chkFn Tryz.prog Tryz.f229 a229 = true := by kernel_rfl
theorem c233 : chkFn Tryz.prog Tryz.f233 a233 = true := by kernel_rfl
theorem c237 : chkFn Tryz.prog Tryz.f237 a237 = true := by kernel_rfl
theorem c241 : chkFn Tryz.prog Tryz.f241 a241 = true := by kernel_rfl
theorem c245 : chkFn Tryz.prog Tryz.f245 a245 = true := by kernel_rfl
theorem c249 : chkFn Tryz.prog Tryz.f249 a249 = true := by kernel_rfl
theorem c253 : chkFn Tryz.prog Tryz.f253 a253 = true := by kernel_rfl
theorem c257 : chkFn Tryz.prog Tryz.f257 a257 = true := by kernel_rfl
theorem c261 : chkFn Tryz.prog Tryz.f261 a261 = true := by kernel_rfl
theorem c265 : chkFn Tryz.prog Tryz.f265 a265 = true := by kernel_rfl
theorem c269 : chkFn Tryz.prog Tryz.f269 a269 = true := by kernel_rfl
theorem c273 : chkFn Tryz.prog Tryz.f273 a273 = true := by kernel_rfl
theorem c279 : chkFn Tryz.prog Tryz.f279 a279 = true := by kernel_rfl
theorem c283 : chkFn Tryz.prog Tryz.f283 a283 = true := by kernel_rfl
theorem c287 : chkFn Tryz.prog Tryz.f287 a287 = true := by kernel_rfl
theorem c291 : chkFn Tryz.prog Tryz.f291 a291 = true := by kernel_rfl
theorem c295 : chkFn Tryz.prog Tryz.f295 a295 = true := by kernel_rfl
theorem c299 : chkFn Tryz.prog Tryz.f299 a299 = true := by kernel_rfl
theorem c303 : chkFn Tryz.prog Tryz.f303 a303 = true := by kernel_rfl
theorem c307 : chkFn Tryz.prog Tryz.f307 a307 = true := by kernel_rfl
theorem c311 : chkFn Tryz.prog Tryz.f311 a311 = true := by kernel_rfl
theorem c315 : chkFn Tryz.prog Tryz.f315 a315 = true := by kernel_rfl
theorem c319 : chkFn Tryz.prog Tryz.f319 a319 = true := by kernel_rfl
theorem c323 : chkFn Tryz.prog Tryz.f323 a323 = true := by kernel_rfl
theorem c327 : chkFn Tryz.prog Tryz.f327 a327 = true := by kernel_rfl
theorem c331 : chkFn Tryz.prog Tryz.f331 a331 = true := by kernel_rfl
theorem c335 : chkFn Tryz.prog Tryz.f335 a335 = true := by kernel_rfl
end Go.Px
