/- Each function of this part is the code of the machine that stands for it. -/
import Derived.Test.YtgakndkfbhhcnaaGreatAv6
import Derived.Test.YtgakndkfbhhcnaaGreatF0
import Derived.Test.YtgakndkfbhhcnaaGreatF1
import Derived.Test.YtgakndkfbhhcnaaGreatF2
import Derived.Test.YtgakndkfbhhcnaaGreatProg
import Derived.KernelRfl
namespace Go.Px
open Go Go.Avm Go.Proofs
set_option maxRecDepth 1000000
theorem c11 : chkFn Tryz.prog Tryz.f11 a11 = true := by kernel_rfl
theorem c20 : chkFn Tryz.prog Tryz.f20 a20 = true := by kernel_rfl
theorem c24 : chkFn Tryz.prog Tryz.f24 a24 = true := by kernel_rfl
theorem c35 : chkFn Tryz.prog Tryz.f35 a35 = true := by kernel_rfl
theorem c43 : chkFn Tryz.prog Tryz.f43 a43 = true := by kernel_rfl
theorem c50 : chkFn Tryz.prog Tryz.f50 a50 = true := by kernel_rfl
theorem c62 : chkFn Tryz.prog Tryz.f62 a62 = true := by kernel_rfl
theorem c72 : chkFn Tryz.prog Tryz.f72 a72 = true := by kernel_rfl
theorem c77 : chkFn Tryz.prog Tryz.f77 a77 = true := by kernel_rfl
theorem c81 : chkFn Tryz.prog Tryz.f81 a81 = true := by kernel_rfl
theorem c101 : chkFn Tryz.prog Tryz.f101 a101 = true := by kernel_rfl
theorem c114 : chkFn Tryz.prog Tryz.f114 a114 = true := by kernel_rfl
theorem c118 : chkFn Tryz.prog Tryz.f118 a118 = true := by kernel_rfl
theorem c122 : chkFn Tryz.prog Tryz.f122 a122 = true := by kernel_rfl
theorem c126 : chkFn Tryz.prog Tryz.f126 a126 = true := by kernel_rfl
theorem c130 : chkFn Tryz.prog Tryz.f130 a130 = true := by kernel_rfl
theorem c134 : chkFn Tryz.prog Tryz.f134 a134 = true := by kernel_rfl
theorem c144 : chkFn Tryz.prog Tryz.f144 a144 = true := by kernel_rfl
theorem c148 : chkFn Tryz.prog Tryz.f148 a148 = true := by kernel_rfl
theorem c152 : chkFn Tryz.prog Tryz.f152 a152 = true := by kernel_rfl
theorem c156 : chkFn Tryz.prog Tryz.f156 a156 = true := by kernel_rfl
theorem c160 : chkFn Tryz.prog Tryz.f160 a160 = true := by kernel_rfl
theorem c164 : chkFn Tryz.prog Tryz.f164 a164 = true := by kernel_rfl
theorem c178 : chkFn Tryz.prog Tryz.f178 a178 = true := by kernel_rfl
theorem c182 : chkFn Tryz.prog Tryz.f182 a182 = true := by kernel_rfl
theorem c186 : chkFn Tryz.prog Tryz.f186 a186 = true := by kernel_rfl
theorem c190 : chkFn Tryz.prog Tryz.f190 a190 = true := by kernel_rfl
theorem c194 : chkFn Tryz.prog Tryz.f194 a194 = true := by kernel_rfl
theorem c198 : chkFn Tryz.prog Tryz.f198 a198 = true := by kernel_rfl
theorem c202 : chkFn Tryz.prog Tryz.f202 a202 = true := by kernel_rfl
theorem c206 : chkFn Tryz.prog Tryz.f206 a206 = true := by kernel_rfl
theorem c210 : chkFn Tryz.prog Tryz.f210 a210 = true := by kernel_rfl
theorem c214 : chkFn Tryz.prog Tryz.f214 a214 = true := by kernel_rfl
theorem c218 : chkFn Tryz.prog Tryz.f218 a218 = true := by kernel_rfl
theorem c227 : chkFn Tryz.prog Tryz.f227 a227 = true := by kernel_rfl
theorem c231 : chkFn Tryz.prog Tryz.f231 a231 = true := by kernel_rfl
theorem c235 : chkFn Tryz.prog Tryz.f235 a235 = true := by kernel_rfl
theorem c239 : chkFn Tryz.prog Tryz.f239 a239 = true := by kernel_rfl
theorem c243 : chkFn Tryz.prog Tryz.f243 a243 = true := by kernel_rfl
theorem c247 : chkFn Tryz.prog Tryz.f247 a247 = true := by kernel_rfl
theorem c251 : chkFn Tryz.prog Tryz.f251 a251 = true := by kernel_rfl
theorem c255 : chkFn Tryz.prog Tryz.f255 a255 = true := by kernel_rfl
theorem c259 : chkFn Tryz.prog Tryz.f259 a259 = true := by kernel_rfl
theorem c263 : chkFn Tryz.prog Tryz.f263 a263 = true := by kernel_rfl
theorem c267 : chkFn Tryz.prog Tryz.f267 a267 = true := by kernel_rfl
theorem c271 : chkFn Tryz.prog Tryz.f271 a271 = true := by kernel_rfl
theorem c277 : chkFn Tryz.prog Tryz.f277 a277 = true := by kernel_rfl
theorem c281 : chkFn Tryz.prog Tryz.f281 a281 = true := by kernel_rfl
theorem c285 : chkFn Tryz.prog Tryz.f285 a285 = true := by kernel_rfl
theorem c289 : chkFn Tryz.prog Tryz.f289 a289 = true := by kernel_rfl
theorem c293 : chkFn Tryz.prog Tryz.f293 a293 = true := by kernel_rfl
theorem c297 : chkFn Tryz.prog Tryz.f297 a297 = true := by kernel_rfl
theorem c301 : chkFn Tryz.prog Tryz.f301 a301 = true := by kernel_rfl
theorem c305 : chkFn Tryz.prog Tryz.f305 a305 = true := by kernel_rfl
theorem c309 : chkFn Tryz.prog Tryz.f309 a309 = true := by kernel_rfl
theorem c313 : chkFn Tryz.prog Tryz.f313 a313 = true := by kernel_rfl
theorem c317 : chkFn Tryz.prog Tryz.f317 a317 = true := by kernel_rfl
theorem c321 : chkFn Tryz.prog Tryz.f321 a321 = true := by kernel_rfl
theorem c325 : chkFn Tryz.prog Tryz.f325 a325 = true := by kernel_rfl
theorem c329 : chkFn Tryz.prog Tryz.f329 a329 = true := by kernel_rfl
theorem c333 : chkFn Tryz.prog Tryz.f333 a333 = true := by kernel_rfl
end Go.Px
