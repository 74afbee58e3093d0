/- Each function of this part is the code of the machine that stands for it. -/
import Derived.Test.YtgakndkfbhhcnaaGreatAv6
import Derived.Test.YtgakndkfbhhcnaaGreatF0
import Derived.Test.YtgakndkfbhhcnaaGreatF1
import Derived.Test.YtgakndkfbhhcnaaGreatF2
import Derived.Test.YtgakndkfbhhcnaaGreatProg
import Derived.KernelRfl
namespace Go.Px
open Go Go.Avm Go.Proofs
set_option maxRecDepth 1000000
theorem c15 : chkFn Tryz.prog Tryz.f15 a15 = true := by kernel_rfl
theorem c21 : chkFn Tryz.prog Tryz.f21 a21 = true := by kernel_rfl
theorem c25 : chkFn Tryz.prog Tryz.f25 a25 = true := by kernel_rfl
theorem c36 : chkFn Tryz.prog Tryz.f36 a36 = true := by kernel_rfl
theorem c46 : chkFn Tryz.prog Tryz.f46 a46 = true := by kernel_rfl
theorem c51 : chkFn Tryz.prog Tryz.f51 a51 = true := by kernel_rfl
theorem c63 : chkFn Tryz.prog Tryz.f63 a63 = true := by kernel_rfl
theorem c73 : chkFn Tryz.prog Tryz.f73 a73 = true := by kernel_rfl
theorem c78 : chkFn Tryz.prog Tryz.f78 a78 = true := by kernel_rfl
theorem c82 : chkFn Tryz.prog Tryz.f82 a82 = true := by kernel_rfl
theorem c111 : chkFn Tryz.prog Tryz.f111 a111 = true := by kernel_rfl
theorem c115 : chkFn Tryz.prog Tryz.f115 a115 = true := by kernel_rfl
theorem c119 : chkFn Tryz.prog Tryz.f119 a119 = true := by kernel_rfl
theorem c123 : chkFn Tryz.prog Tryz.f123 a123 = true := by kernel_rfl
theorem c127 : chkFn Tryz.prog Tryz.f127 a127 = true := by kernel_rfl
theorem c131 : chkFn Tryz.prog Tryz.f131 a131 = true := by kernel_rfl
theorem c138 : chkFn Tryz.prog Tryz.f138 a138 = true := by kernel_rfl
theorem c145 : chkFn Tryz.prog Tryz.f145 a145 = true := by kernel_rfl
theorem c149 : chkFn Tryz.prog Tryz.f149 a149 = true := by kernel_rfl
theorem c153 : chkFn Tryz.prog Tryz.f153 a153 = true := by kernel_rfl
theorem c157 : chkFn Tryz.prog Tryz.f157 a157 = true := by kernel_rfl
theorem c161 : chkFn Tryz.prog Tryz.f161 a161 = true := by kernel_rfl
theorem c175 : chkFn Tryz.prog Tryz.f175 a175 = true := by kernel_rfl
theorem c179 : chkFn Tryz.prog Tryz.f179 a179 = true := by kernel_rfl
theorem c183 : chkFn Tryz.prog Tryz.f183 a183 = true := by kernel_rfl
theorem c187 : chkFn Tryz.prog Tryz.f187 a187 = true := by kernel_rfl
theorem c191 : chkFn Tryz.prog Tryz.f191 a191 = true := by kernel_rfl
theorem c195 : chkFn Tryz.prog Tryz.f195 a195 = true := by kernel_rfl
theorem c199 : chkFn Tryz.prog Tryz.f199 a199 = true := by kernel_rfl
theorem c203 : chkFn Tryz.prog Tryz.f203 a203 = true := by kernel_rfl
theorem c207 : chkFn Tryz.prog Tryz.f207 a207 = true := by kernel_rfl
theorem c211 : chkFn Tryz.prog Tryz.f211 a211 = true := by kernel_rfl
theorem c215 : chkFn Tryz.prog Tryz.f215 a215 = true := by kernel_rfl
theorem c219 : chkFn Tryz.prog Tryz.f219 a219 = true := by kernel_rfl
theorem c228 : chkFn Tryz.prog Tryz.f228 a228 = true := by kernel_rfl
theorem c232 : chkFn Tryz.prog Tryz.f232 a232 = true := by kernel_rfl
theorem c236 : chkFn Tryz.prog Tryz.f236 a236 = true := by kernel_rfl
theorem c240 : chkFn Tryz.prog Tryz.f240 a240 = true := by kernel_rfl
theorem c244 : chkFn Tryz.prog Tryz.f244 a244 = true := by kernel_rfl
theorem c248 : chkFn Tryz.prog Tryz.f248 a248 = true := by kernel_rfl
theorem c252 : chkFn Tryz.prog Tryz.f252 a252 = true := by kernel_rfl
theorem c256 : chkFn Tryz.prog Tryz.f256 a256 = true := by kernel_rfl
theorem c260 : chkFn Tryz.prog Tryz.f260 a260 = true := by kernel_rfl
theorem c264 : chkFn Tryz.prog Tryz.f264 a264 = true := by kernel_rfl
theorem c268 : chkFn Tryz.prog Tryz.f268 a268 = true := by kernel_rfl
theorem c272 : chkFn Tryz.prog Tryz.f272 a272 = true := by kernel_rfl
theorem c278 : chkFn Tryz.prog Tryz.f278 a278 = true := by kernel_rfl
theorem c282 : chkFn Tryz.prog Tryz.f282 a282 = true := by kernel_rfl
theorem c286 : chkFn Tryz.prog Tryz.f286 a286 = true := by kernel_rfl
theorem c290 : chkFn Tryz.prog Tryz.f290 a290 = true := by kernel_rfl
theorem c294 : chkFn Tryz.prog Tryz.f294 a294 = true := by kernel_rfl
theorem c298 : chkFn Tryz.prog Tryz.f298 a298 = true := by kernel_rfl
theorem c302 : chkFn Tryz.prog Tryz.f302 a302 = true := by kernel_rfl
theorem c306 : chkFn Tryz.prog Tryz.f306 a306 = true := by kernel_rfl
theorem c310 : chkFn Tryz.prog Tryz.f310 a310 = true := by kernel_rfl
theorem c314 : chkFn Tryz.prog Tryz.f314 a314 = true := by kernel_rfl
theorem c318 : chkFn Tryz.prog Tryz.f318 a318 = true := by kernel_rfl
theorem c322 : chkFn Tryz.prog Tryz.f322 a322 = true := by kernel_rfl
theorem c326 : chkFn Tryz.prog Tryz.f326 a326 = true := by kernel_rfl
theorem c330 : chkFn Tryz.prog Tryz.f330 a330 = true := by kernel_rfl
theorem c334 : chkFn Tryz.prog Tryz.f334 a334 = true := by kernel_rfl
end Go.Px
