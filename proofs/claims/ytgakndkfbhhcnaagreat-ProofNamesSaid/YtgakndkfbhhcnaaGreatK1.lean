/- Each function of this part is the code of the machine that stands for it. -/
import Derived.Test.YtgakndkfbhhcnaaGreatAv6
import Derived.Test.YtgakndkfbhhcnaaGreatF0
import Derived.Test.YtgakndkfbhhcnaaGreatF1
import Derived.Test.YtgakndkfbhhcnaaGreatF2
import Derived.Test.YtgakndkfbhhcnaaGreatProg
import Derived.KernelRfl
namespace Go.Px
open Go Go.Avm Go.Proofs
set_option maxRecDepth 1000000
theorem c9 : chkFn Tryz.prog Tryz.f9 a9 = true := by kernel_rfl
theorem c19 : chkFn Tryz.prog Tryz.f19 a19 = true := by kernel_rfl
theorem c23 : chkFn Tryz.prog Tryz.f23 a23 = true := by kernel_rfl
theorem c34 : chkFn Tryz.prog Tryz.f34 a34 = true := by kernel_rfl
theorem c42 : chkFn Tryz.prog Tryz.f42 a42 = true := by kernel_rfl
theorem c49 : chkFn Tryz.prog Tryz.f49 a49 = true := by kernel_rfl
theorem c53 : chkFn Tryz.prog Tryz.f53 a53 = true := by kernel_rfl
theorem c68 : chkFn Tryz.prog Tryz.f68 a68 = true := by kernel_rfl
theorem c75 : chkFn Tryz.prog Tryz.f75 a75 = true := by kernel_rfl
theorem c80 : chkFn Tryz.prog Tryz.f80 a80 = true := by kernel_rfl
theorem c100 : chkFn Tryz.prog Tryz.f100 a100 = true := by kernel_rfl
theorem c113 : chkFn Tryz.prog Tryz.f113 a113 = true := by kernel_rfl
theorem c117 : chkFn Tryz.prog Tryz.f117 a117 = true := by kernel_rfl
theorem c121 : chkFn Tryz.prog Tryz.f121 a121 = true := by kernel_rfl
theorem c125 : chkFn Tryz.prog Tryz.f125 a125 = true := by kernel_rfl
theorem c129 : chkFn Tryz.prog Tryz.f129 a129 = true := by kernel_rfl
theorem c133 : chkFn Tryz.prog Tryz.f133 a133 = true := by kernel_rfl
theorem c141 : chkFn Tryz.prog Tryz.f141 a141 = true := by kernel_rfl
theorem c147 : chkFn Tryz.prog Tryz.f147 a147 = true := by kernel_rfl
theorem c151 : chkFn Tryz.prog Tryz.f151 a151 = true := by kernel_rfl
theorem c155 : chkFn Tryz.prog Tryz.f155 a155 = true := by kernel_rfl
theorem c159 : chkFn Tryz.prog Tryz.f159 a159 = true := by kernel_rfl
theorem c163 : chkFn Tryz.prog Tryz.f163 a163 = true := by kernel_rfl
theorem c177 : chkFn Tryz.prog Tryz.f177 a177 = true := by kernel_rfl
theorem c181 : chkFn Tryz.prog Tryz.f181 a181 = true := by kernel_rfl
theorem c185 : chkFn Tryz.prog Tryz.f185 a185 = true := by kernel_rfl
theorem c189 : chkFn Tryz.prog Tryz.f189 a189 = true := by kernel_rfl
theorem c193 : chkFn Tryz.prog Tryz.f193 a193 = true := by kernel_rfl
theorem c197 : chkFn Tryz.prog Tryz.f197 a197 = true := by kernel_rfl
theorem c201 : chkFn Tryz.prog Tryz.f201 a201 = true := by kernel_rfl
theorem c205 : chkFn Tryz.prog Tryz.f205 a205 = true := by kernel_rfl
theorem c209 : chkFn Tryz.prog Tryz.f209 a209 = true := by kernel_rfl
theorem c213 : chkFn Tryz.prog Tryz.f213 a213 = true := by kernel_rfl
theorem c217 : chkFn Tryz.prog Tryz.f217 a217 = true := by kernel_rfl
theorem c221 : chkFn Tryz.prog Tryz.f221 a221 = true := by kernel_rfl
theorem c230 : chkFn Tryz.prog Tryz.f230 a230 = true := by kernel_rfl
theorem c234 : chkFn Tryz.prog Tryz.f234 a234 = true := by kernel_rfl
theorem c238 : chkFn Tryz.prog Tryz.f238 a238 = true := by kernel_rfl
theorem c242 : chkFn Tryz.prog Tryz.f242 a242 = true := by kernel_rfl
theorem c246 : chkFn Tryz.prog Tryz.f246 a246 = true := by kernel_rfl
theorem c250 : chkFn Tryz.prog Tryz.f250 a250 = true := by kernel_rfl
theorem c254 : chkFn Tryz.prog Tryz.f254 a254 = true := by kernel_rfl
theorem c258 : chkFn Tryz.prog Tryz.f258 a258 = true := by kernel_rfl
theorem c262 : chkFn Tryz.prog Tryz.f262 a262 = true := by kernel_rfl
theorem c266 : chkFn Tryz.prog Tryz.f266 a266 = true := by kernel_rfl
theorem c270 : chkFn Tryz.prog Tryz.f270 a270 = true := by kernel_rfl
theorem c276 : chkFn Tryz.prog Tryz.f276 a276 = true := by kernel_rfl
theorem c280 : chkFn Tryz.prog Tryz.f280 a280 = true := by kernel_rfl
theorem c284 : chkFn Tryz.prog Tryz.f284 a284 = true := by kernel_rfl
theorem c288 : chkFn Tryz.prog Tryz.f288 a288 = true := by kernel_rfl
theorem c292 : chkFn Tryz.prog Tryz.f292 a292 = true := by kernel_rfl
theorem c296 : chkFn Tryz.prog Tryz.f296 a296 = true := by kernel_rfl
theorem c300 : chkFn Tryz.prog Tryz.f300 a300 = true := by kernel_rfl
theorem c304 : chkFn Tryz.prog Tryz.f304 a304 = true := by kernel_rfl
theorem c308 : chkFn Tryz.prog Tryz.f308 a308 = true := by kernel_rfl
theorem c312 : chkFn Tryz.prog Tryz.f312 a312 = true := by kernel_rfl
theorem c316 : chkFn Tryz.prog Tryz.f316 a316 = true := by kernel_rfl
theorem c320 : chkFn Tryz.prog Tryz.f320 a320 = true := by kernel_rfl
theorem c324 : chkFn Tryz.prog Tryz.f324 a324 = true := by kernel_rfl
theorem c328 : chkFn Tryz.prog Tryz.f328 a328 = true := by kernel_rfl
theorem c332 : chkFn Tryz.prog Tryz.f332 a332 = true := by kernel_rfl
theorem c336 : chkFn Tryz.prog Tryz.f336 a336 = true := by kernel_rfl
end Go.Px
