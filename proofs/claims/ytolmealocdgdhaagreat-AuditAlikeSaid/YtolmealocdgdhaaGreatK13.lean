/- Texts of one claim, put together. -/
import Derived.Test.YtolmealocdgdhaaGreatK12
import Derived.KernelRfl
section
namespace Go.Proofs.YtolmealocdgdhaaGreat.U
open Go Go.Abs Go.Proofs.YtolmealocdgdhaaGreat
set_option maxRecDepth 20000
set_option maxHeartbeats 4000000
noncomputable def dfi : Dfi := (mkD 62 Tryz.f62 hint62 [false, true, true, true]).get (by kernel_rfl)
noncomputable def td : TrD Tryz.prog dfi := ⟨_, fun O => by conv => rhs; reduce⟩
noncomputable abbrev B : FuncId → Option (List ResultVar × Nat × AC) := bodyAt dfi.f (dfMark, dfi.fn.ntmps, dfi.rest) (bodyOf Tryz.prog hints)
noncomputable def tab : BT (En Tryz.prog B) :=
 (.node 251 (t251.enA rfl Tryz.func251 rfl rfl) (.node 126 (t126.enA rfl Tryz.func126 rfl rfl) (.node 63 (t63.enA rfl Tryz.func63 rfl rfl) (.node 32 (t32.enA rfl Tryz.func32 rfl rfl) (.node 16 (t16.enA rfl Tryz.func16 rfl rfl) (.node 8 (t8.enA rfl Tryz.func8 rfl rfl) (.node 4 (t4.enA rfl Tryz.func4 rfl rfl)
 (.node 2 (t2.enA rfl Tryz.func2 rfl rfl)
 .leaf (.node 3 (t3.enA rfl Tryz.func3 rfl rfl)
 .leaf .leaf)) (.node 6 (t6.enA rfl Tryz.func6 rfl rfl)
 (.node 5 (t5.enA rfl Tryz.func5 rfl rfl)
 .leaf .leaf) (.node 7 (t7.enA rfl Tryz.func7 rfl rfl)
 .leaf .leaf))) (.node 12 (t12.enA rfl Tryz.func12 rfl rfl)
 (.node 10 (t10.enA rfl Tryz.func10 rfl rfl)
 (.node 9 (t9.enA rfl Tryz.func9 rfl rfl)
 .leaf .leaf) (.node 11 (t11.enA rfl Tryz.func11 rfl rfl)
 .leaf .leaf)) (.node 14 (t14.enA rfl Tryz.func14 rfl rfl)
 (.node 13 (t13.enA rfl Tryz.func13 rfl rfl)
 .leaf .leaf) (.node 15 (t15.enA rfl Tryz.func15 rfl rfl)
 .leaf .leaf)))) (.node 24 (t24.enA rfl Tryz.func24 rfl rfl) (.node 20 (t20.enA rfl Tryz.func20 rfl rfl)
 (.node 18 (t18.enA rfl Tryz.func18 rfl rfl)
 (.node 17 (t17.enA rfl Tryz.func17 rfl rfl)
 .leaf .leaf) (.node 19 (t19.enA rfl Tryz.func19 rfl rfl)
 .leaf .leaf)) (.node 22 (t22.enA rfl Tryz.func22 rfl rfl)
 (.node 21 (t21.enA rfl Tryz.func21 rfl rfl)
 .leaf .leaf) (.node 23 (t23.enA rfl Tryz.func23 rfl rfl)
 .leaf .leaf))) (.node 28 (t28.enA rfl Tryz.func28 rfl rfl)
 (.node 26 (t26.enA rfl Tryz.func26 rfl rfl)
 (.node 25 (t25.enA rfl Tryz.func25 rfl rfl)
 .leaf .leaf) (.node 27 (t27.enA rfl Tryz.func27 rfl rfl)
 .leaf .leaf)) (.node 30 (t30.enA rfl Tryz.func30 rfl rfl)
 (.node 29 (t29.enA rfl Tryz.func29 rfl rfl)
 .leaf .leaf) (.node 31 (t31.enA rfl Tryz.func31 rfl rfl)
 .leaf .leaf))))) (.node 47 (t47.enA rfl Tryz.func47 rfl rfl) (.node 39 (t39.enA rfl Tryz.func39 rfl rfl) (.node 35 (t35.enA rfl Tryz.func35 rfl rfl)
 (.node 33 (t33.enA rfl Tryz.func33 rfl rfl)
 .leaf (.node 34 (t34.enA rfl Tryz.func34 rfl rfl)
 .leaf .leaf)) (.node 37 (t37.enA rfl Tryz.func37 rfl rfl)
 (.node 36 (t36.enA rfl Tryz.func36 rfl rfl)
 .leaf .leaf) (.node 38 (t38.enA rfl Tryz.func38 rfl rfl)
 .leaf .leaf))) (.node 43 (t43.enA rfl Tryz.func43 rfl rfl)
 (.node 41 (t41.enA rfl Tryz.func41 rfl rfl)
 (.node 40 (t40.enA rfl Tryz.func40 rfl rfl)
 .leaf .leaf) (.node 42 (t42.enA rfl Tryz.func42 rfl rfl)
 .leaf .leaf)) (.node 45 (t45.enA rfl Tryz.func45 rfl rfl)
 (.node 44 (t44.enA rfl Tryz.func44 rfl rfl)
 .leaf .leaf) (.node 46 (t46.enA rfl Tryz.func46 rfl rfl)
 .leaf .leaf)))) (.node 55 (t55.enA rfl Tryz.func55 rfl rfl) (.node 51 (t51.enA rfl Tryz.func51 rfl rfl)
 (.node 49 (t49.enA rfl Tryz.func49 rfl rfl)
 (.node 48 (t48.enA rfl Tryz.func48 rfl rfl)
 .leaf .leaf) (.node 50 (t50.enA rfl Tryz.func50 rfl rfl)
 .leaf .leaf)) (.node 53 (t53.enA rfl Tryz.func53 rfl rfl)
 (.node 52 (t52.enA rfl Tryz.func52 rfl rfl)
 .leaf .leaf) (.node 54 (t54.enA rfl Tryz.func54 rfl rfl)
 .leaf .leaf))) (.node 59 (t59.enA rfl Tryz.func59 rfl rfl)
 (.node 57 (t57.enA rfl Tryz.func57 rfl rfl)
 (.node 56 (t56.enA rfl Tryz.func56 rfl rfl)
 .leaf .leaf) (.node 58 (t58.enA rfl Tryz.func58 rfl rfl)
 .leaf .leaf)) (.node 61 (t61.enA rfl Tryz.func61 rfl rfl)
 (.node 60 (t60.enA rfl Tryz.func60 rfl rfl)
 .leaf .leaf) (.node 62 (td.en (bodyOf Tryz.prog hints))
 .leaf .leaf)))))) (.node 94 (t94.enA rfl Tryz.func94 rfl rfl) (.node 78 (t78.enA rfl Tryz.func78 rfl rfl) (.node 70 (t70.enA rfl Tryz.func70 rfl rfl) (.node 66 (t66.enA rfl Tryz.func66 rfl rfl)
 (.node 64 (t64.enA rfl Tryz.func64 rfl rfl)
 .leaf (.node 65 (t65.enA rfl Tryz.func65 rfl rfl)
 .leaf .leaf)) (.node 68 (t68.enA rfl Tryz.func68 rfl rfl)
 (.node 67 (t67.enA rfl Tryz.func67 rfl rfl)
 .leaf .leaf) (.node 69 (t69.enA rfl Tryz.func69 rfl rfl)
 .leaf .leaf))) (.node 74 (t74.enA rfl Tryz.func74 rfl rfl)
 (.node 72 (t72.enA rfl Tryz.func72 rfl rfl)
 (.node 71 (t71.enA rfl Tryz.func71 rfl rfl)
 .leaf .leaf) (.node 73 (t73.enA rfl Tryz.func73 rfl rfl)
 .leaf .leaf)) (.node 76 (t76.enA rfl Tryz.func76 rfl rfl)
 (.node 75 (t75.enA rfl Tryz.func75 rfl rfl)
 .leaf .leaf) (.node 77 (t77.enA rfl Tryz.func77 rfl rfl)
 .leaf .leaf)))) (.node 86 (t86.enA rfl Tryz.func86 rfl rfl) (.node 82 (t82.enA rfl Tryz.func82 rfl rfl)
 (.node 80 (t80.enA rfl Tryz.func80 rfl rfl)
 (.node 79 (t79.enA rfl Tryz.func79 rfl rfl)
 .leaf .leaf) (.node 81 (t81.enA rfl Tryz.func81 rfl rfl)
 .leaf .leaf)) (.node 84 (t84.enA rfl Tryz.func84 rfl rfl)
 (.node 83 (t83.enA rfl Tryz.func83 rfl rfl)
 .leaf .leaf) (.node 85 (t85.enA rfl Tryz.func85 rfl rfl)
 .leaf .leaf))) (.node 90 (t90.enA rfl Tryz.func90 rfl rfl)
 (.node 88 (t88.enA rfl Tryz.func88 rfl rfl)
 (.node 87 (t87.enA rfl Tryz.func87 rfl rfl)
 .leaf .leaf) (.node 89 (t89.enA rfl Tryz.func89 rfl rfl)
 .leaf .leaf)) (.node 92 (t92.enA rfl Tryz.func92 rfl rfl)
 (.node 91 (t91.enA rfl Tryz.func91 rfl rfl)
 .leaf .leaf) (.node 93 (t93.enA rfl Tryz.func93 rfl rfl)
 .leaf .leaf))))) (.node 110 (t110.enA rfl Tryz.func110 rfl rfl) (.node 102 (t102.enA rfl Tryz.func102 rfl rfl) (.node 98 (t98.enA rfl Tryz.func98 rfl rfl)
 (.node 96 (t96.enA rfl Tryz.func96 rfl rfl)
 (.node 95 (t95.enA rfl Tryz.func95 rfl rfl)
 .leaf .leaf) (.node 97 (t97.enA rfl Tryz.func97 rfl rfl)
 .leaf .leaf)) (.node 100 (t100.enA rfl Tryz.func100 rfl rfl)
 (.node 99 (t99.enA rfl Tryz.func99 rfl rfl)
 .leaf .leaf) (.node 101 (t101.enA rfl Tryz.func101 rfl rfl)
 .leaf .leaf))) (.node 106 (t106.enA rfl Tryz.func106 rfl rfl)
 (.node 104 (t104.enA rfl Tryz.func104 rfl rfl)
 (.node 103 (t103.enA rfl Tryz.func103 rfl rfl)
 .leaf .leaf) (.node 105 (t105.enA rfl Tryz.func105 rfl rfl)
 .leaf .leaf)) (.node 108 (t108.enA rfl Tryz.func108 rfl rfl)
 (.node 107 (t107.enA rfl Tryz.func107 rfl rfl)
 .leaf .leaf) (.node 109 (t109.enA rfl Tryz.func109 rfl rfl)
 .leaf .leaf)))) (.node 118 (t118.enA rfl Tryz.func118 rfl rfl) (.node 114 (t114.enA rfl Tryz.func114 rfl rfl)
 (.node 112 (t112.enA rfl Tryz.func112 rfl rfl)
 (.node 111 (t111.enA rfl Tryz.func111 rfl rfl)
 .leaf .leaf) (.node 113 (t113.enA rfl Tryz.func113 rfl rfl)
 .leaf .leaf)) (.node 116 (t116.enA rfl Tryz.func116 rfl rfl)
 (.node 115 (t115.enA rfl Tryz.func115 rfl rfl)
 .leaf .leaf) (.node 117 (t117.enA rfl Tryz.func117 rfl rfl)
 .leaf .leaf))) (.node 122 (t122.enA rfl Tryz.func122 rfl rfl)
 (.node 120 (t120.enA rfl Tryz.func120 rfl rfl)
 (.node 119 (t119.enA rfl Tryz.func119 rfl rfl)
 .leaf .leaf) (.node 121 (t121.enA rfl Tryz.func121 rfl rfl)
 .leaf .leaf)) (.node 124 (t124.enA rfl Tryz.func124 rfl rfl)
 (.node 123 (t123.enA rfl Tryz.func123 rfl rfl)
 .leaf .leaf) (.node 125 (t125.enA rfl Tryz.func125 rfl rfl)
 .leaf .leaf))))))) (.node 188 (t188.enA rfl Tryz.func188 rfl rfl) (.node 157 (t157.enA rfl Tryz.func157 rfl rfl) (.node 141 (t141.enA rfl Tryz.func141 rfl rfl) (.node 133 (t133.enA rfl Tryz.func133 rfl rfl) (.node 129 (t129.enA rfl Tryz.func129 rfl rfl)
 (.node 127 (t127.enA rfl Tryz.func127 rfl rfl)
 .leaf (.node 128 (t128.enA rfl Tryz.func128 rfl rfl)
 .leaf .leaf)) (.node 131 (t131.enA rfl Tryz.func131 rfl rfl)
 (.node 130 (t130.enA rfl Tryz.func130 rfl rfl)
 .leaf .leaf) (.node 132 (t132.enA rfl Tryz.func132 rfl rfl)
 .leaf .leaf))) (.node 137 (t137.enA rfl Tryz.func137 rfl rfl)
 (.node 135 (t135.enA rfl Tryz.func135 rfl rfl)
 (.node 134 (t134.enA rfl Tryz.func134 rfl rfl)
 .leaf .leaf) (.node 136 (t136.enA rfl Tryz.func136 rfl rfl)
 .leaf .leaf)) (.node 139 (t139.enA rfl Tryz.func139 rfl rfl)
 (.node 138 (t138.enA rfl Tryz.func138 rfl rfl)
 .leaf .leaf) (.node 140 (t140.enA rfl Tryz.func140 rfl rfl)
 .leaf .leaf)))) (.node 149 (t149.enA rfl Tryz.func149 rfl rfl) (.node 145 (t145.enA rfl Tryz.func145 rfl rfl)
 (.node 143 (t143.enA rfl Tryz.func143 rfl rfl)
 (.node 142 (t142.enA rfl Tryz.func142 rfl rfl)
 .leaf .leaf) (.node 144 (t144.enA rfl Tryz.func144 rfl rfl)
 .leaf .leaf)) (.node 147 (t147.enA rfl Tryz.func147 rfl rfl)
 (.node 146 (t146.enA rfl Tryz.func146 rfl rfl)
 .leaf .leaf) (.node 148 (t148.enA rfl Tryz.func148 rfl rfl)
 .leaf .leaf))) (.node 153 (t153.enA rfl Tryz.func153 rfl rfl)
 (.node 151 (t151.enA rfl Tryz.func151 rfl rfl)
 (.node 150 (t150.enA rfl Tryz.func150 rfl rfl)
 .leaf .leaf) (.node 152 (t152.enA rfl Tryz.func152 rfl rfl)
 .leaf .leaf)) (.node 155 (t155.enA rfl Tryz.func155 rfl rfl)
 (.node 154 (t154.enA rfl Tryz.func154 rfl rfl)
 .leaf .leaf) (.node 156 (t156.enA rfl Tryz.func156 rfl rfl)
 .leaf .leaf))))) (.node 172 (t172.enA rfl Tryz.func172 rfl rfl) (.node 164 (t164.enA rfl Tryz.func164 rfl rfl) (.node 160 (t160.enA rfl Tryz.func160 rfl rfl)
 (.node 158 (t158.enA rfl Tryz.func158 rfl rfl)
 .leaf (.node 159 (t159.enA rfl Tryz.func159 rfl rfl)
 .leaf .leaf)) (.node 162 (t162.enA rfl Tryz.func162 rfl rfl)
 (.node 161 (t161.enA rfl Tryz.func161 rfl rfl)
 .leaf .leaf) (.node 163 (t163.enA rfl Tryz.func163 rfl rfl)
 .leaf .leaf))) (.node 168 (t168.enA rfl Tryz.func168 rfl rfl)
 (.node 166 (t166.enA rfl Tryz.func166 rfl rfl)
 (.node 165 (t165.enA rfl Tryz.func165 rfl rfl)
 .leaf .leaf) (.node 167 (t167.enA rfl Tryz.func167 rfl rfl)
 .leaf .leaf)) (.node 170 (t170.enA rfl Tryz.func170 rfl rfl)
 (.node 169 (t169.enA rfl Tryz.func169 rfl rfl)
 .leaf .leaf) (.node 171 (t171.enA rfl Tryz.func171 rfl rfl)
 .leaf .leaf)))) (.node 180 (t180.enA rfl Tryz.func180 rfl rfl) (.node 176 (t176.enA rfl Tryz.func176 rfl rfl)
 (.node 174 (t174.enA rfl Tryz.func174 rfl rfl)
 (.node 173 (t173.enA rfl Tryz.func173 rfl rfl)
 .leaf .leaf) (.node 175 (t175.enA rfl Tryz.func175 rfl rfl)
 .leaf .leaf)) (.node 178 (t178.enA rfl Tryz.func178 rfl rfl)
 (.node 177 (t177.enA rfl Tryz.func177 rfl rfl)
 .leaf .leaf) (.node 179 (t179.enA rfl Tryz.func179 rfl rfl)
 .leaf .leaf))) (.node 184 (t184.enA rfl Tryz.func184 rfl rfl)
 (.node 182 (t182.enA rfl Tryz.func182 rfl rfl)
 (.node 181 (t181.enA rfl Tryz.func181 rfl rfl)
 .leaf .leaf) (.node 183 (t183.enA rfl Tryz.func183 rfl rfl)
 .leaf .leaf)) (.node 186 (t186.enA rfl Tryz.func186 rfl rfl)
 (.node 185 (t185.enA rfl Tryz.func185 rfl rfl)
 .leaf .leaf) (.node 187 (t187.enA rfl Tryz.func187 rfl rfl)
 .leaf .leaf)))))) (.node 219 (t219.enA rfl Tryz.func219 rfl rfl) (.node 203 (t203.enA rfl Tryz.func203 rfl rfl) (.node 195 (t195.enA rfl Tryz.func195 rfl rfl) (.node 191 (t191.enA rfl Tryz.func191 rfl rfl)
 (.node 189 (t189.enA rfl Tryz.func189 rfl rfl)
 .leaf (.node 190 (t190.enA rfl Tryz.func190 rfl rfl)
 .leaf .leaf)) (.node 193 (t193.enA rfl Tryz.func193 rfl rfl)
 (.node 192 (t192.enA rfl Tryz.func192 rfl rfl)
 .leaf .leaf) (.node 194 (t194.enA rfl Tryz.func194 rfl rfl)
 .leaf .leaf))) (.node 199 (t199.enA rfl Tryz.func199 rfl rfl)
 (.node 197 (t197.enA rfl Tryz.func197 rfl rfl)
 (.node 196 (t196.enA rfl Tryz.func196 rfl rfl)
 .leaf .leaf) (.node 198 (t198.enA rfl Tryz.func198 rfl rfl)
 .leaf .leaf)) (.node 201 (t201.enA rfl Tryz.func201 rfl rfl)
 (.node 200 (t200.enA rfl Tryz.func200 rfl rfl)
 .leaf .leaf) (.node 202 (t202.enA rfl Tryz.func202 rfl rfl)
 .leaf .leaf)))) (.node 211 (t211.enA rfl Tryz.func211 rfl rfl) (.node 207 (t207.enA rfl Tryz.func207 rfl rfl)
 (.node 205 (t205.enA rfl Tryz.func205 rfl rfl)
 (.node 204 (t204.enA rfl Tryz.func204 rfl rfl)
 .leaf .leaf) (.node 206 (t206.enA rfl Tryz.func206 rfl rfl)
 .leaf .leaf)) (.node 209 (t209.enA rfl Tryz.func209 rfl rfl)
 (.node 208 (t208.enA rfl Tryz.func208 rfl rfl)
 .leaf .leaf) (.node 210 (t210.enA rfl Tryz.func210 rfl rfl)
 .leaf .leaf))) (.node 215 (t215.enA rfl Tryz.func215 rfl rfl)
 (.node 213 (t213.enA rfl Tryz.func213 rfl rfl)
 (.node 212 (t212.enA rfl Tryz.func212 rfl rfl)
 .leaf .leaf) (.node 214 (t214.enA rfl Tryz.func214 rfl rfl)
 .leaf .leaf)) (.node 217 (t217.enA rfl Tryz.func217 rfl rfl)
 (.node 216 (t216.enA rfl Tryz.func216 rfl rfl)
 .leaf .leaf) (.node 218 (t218.enA rfl Tryz.func218 rfl rfl)
 .leaf .leaf))))) (.node 235 (t235.enA rfl Tryz.func235 rfl rfl) (.node 227 (t227.enA rfl Tryz.func227 rfl rfl) (.node 223 (t223.enA rfl Tryz.func223 rfl rfl)
 (.node 221 (t221.enA rfl Tryz.func221 rfl rfl)
 (.node 220 (t220.enA rfl Tryz.func220 rfl rfl)
 .leaf .leaf) (.node 222 (t222.enA rfl Tryz.func222 rfl rfl)
 .leaf .leaf)) (.node 225 (t225.enA rfl Tryz.func225 rfl rfl)
 (.node 224 (t224.enA rfl Tryz.func224 rfl rfl)
 .leaf .leaf) (.node 226 (t226.enA rfl Tryz.func226 rfl rfl)
 .leaf .leaf))) (.node 231 (t231.enA rfl Tryz.func231 rfl rfl)
 (.node 229 (t229.enA rfl Tryz.func229 rfl rfl)
 (.node 228 (t228.enA rfl Tryz.func228 rfl rfl)
 .leaf .leaf) (.node 230 (t230.enA rfl Tryz.func230 rfl rfl)
 .leaf .leaf)) (.node 233 (t233.enA rfl Tryz.func233 rfl rfl)
 (.node 232 (t232.enA rfl Tryz.func232 rfl rfl)
 .leaf .leaf) (.node 234 (t234.enA rfl Tryz.func234 rfl rfl)
 .leaf .leaf)))) (.node 243 (t243.enA rfl Tryz.func243 rfl rfl) (.node 239 (t239.enA rfl Tryz.func239 rfl rfl)
 (.node 237 (t237.enA rfl Tryz.func237 rfl rfl)
 (.node 236 (t236.enA rfl Tryz.func236 rfl rfl)
 .leaf .leaf) (.node 238 (t238.enA rfl Tryz.func238 rfl rfl)
 .leaf .leaf)) (.node 241 (t241.enA rfl Tryz.func241 rfl rfl)
 (.node 240 (t240.enA rfl Tryz.func240 rfl rfl)
 .leaf .leaf) (.node 242 (t242.enA rfl Tryz.func242 rfl rfl)
 .leaf .leaf))) (.node 247 (t247.enA rfl Tryz.func247 rfl rfl)
 (.node 245 (t245.enA rfl Tryz.func245 rfl rfl)
 (.node 244 (t244.enA rfl Tryz.func244 rfl rfl)
 .leaf .leaf) (.node 246 (t246.enA rfl Tryz.func246 rfl rfl)
 .leaf .leaf)) (.node 249 (t249.enA rfl Tryz.func249 rfl rfl)
 (.node 248 (t248.enA rfl Tryz.func248 rfl rfl)
 .leaf .leaf) (.node 250 (t250.enA rfl Tryz.func250 rfl rfl)
 .leaf .leaf)))))))) (.node 379 (t379.enA rfl Tryz.func379 rfl rfl) (.node 314 (t314.enA rfl Tryz.func314 rfl rfl) (.node 282 (t282.enA rfl Tryz.func282 rfl rfl) (.node 266 (t266.enA rfl Tryz.func266 rfl rfl) (.node 258 (t258.enA rfl Tryz.func258 rfl rfl) (.node 254 (t254.enA rfl Tryz.func254 rfl rfl)
 (.node 252 (t252.enA rfl Tryz.func252 rfl rfl)
 .leaf (.node 253 (t253.enA rfl Tryz.func253 rfl rfl)
 .leaf .leaf)) (.node 256 (t256.enA rfl Tryz.func256 rfl rfl)
 (.node 255 (t255.enA rfl Tryz.func255 rfl rfl)
 .leaf .leaf) (.node 257 (t257.enA rfl Tryz.func257 rfl rfl)
 .leaf .leaf))) (.node 262 (t262.enA rfl Tryz.func262 rfl rfl)
 (.node 260 (t260.enA rfl Tryz.func260 rfl rfl)
 (.node 259 (t259.enA rfl Tryz.func259 rfl rfl)
 .leaf .leaf) (.node 261 (t261.enA rfl Tryz.func261 rfl rfl)
 .leaf .leaf)) (.node 264 (t264.enA rfl Tryz.func264 rfl rfl)
 (.node 263 (t263.enA rfl Tryz.func263 rfl rfl)
 .leaf .leaf) (.node 265 (t265.enA rfl Tryz.func265 rfl rfl)
 .leaf .leaf)))) (.node 274 (t274.enA rfl Tryz.func274 rfl rfl) (.node 270 (t270.enA rfl Tryz.func270 rfl rfl)
 (.node 268 (t268.enA rfl Tryz.func268 rfl rfl)
 (.node 267 (t267.enA rfl Tryz.func267 rfl rfl)
 .leaf .leaf) (.node 269 (t269.enA rfl Tryz.func269 rfl rfl)
 .leaf .leaf)) (.node 272 (t272.enA rfl Tryz.func272 rfl rfl)
 (.node 271 (t271.enA rfl Tryz.func271 rfl rfl)
 .leaf .leaf) (.node 273 (t273.enA rfl Tryz.func273 rfl rfl)
 .leaf .leaf))) (.node 278 (t278.enA rfl Tryz.func278 rfl rfl)
 (.node 276 (t276.enA rfl Tryz.func276 rfl rfl)
 (.node 275 (t275.enA rfl Tryz.func275 rfl rfl)
 .leaf .leaf) (.node 277 (t277.enA rfl Tryz.func277 rfl rfl)
 .leaf .leaf)) (.node 280 (t280.enA rfl Tryz.func280 rfl rfl)
 (.node 279 (t279.enA rfl Tryz.func279 rfl rfl)
 .leaf .leaf) (.node 281 (t281.enA rfl Tryz.func281 rfl rfl)
 .leaf .leaf))))) (.node 297 (t297.enA rfl Tryz.func297 rfl rfl) (.node 289 (t289.enA rfl Tryz.func289 rfl rfl) (.node 285 (t285.enA rfl Tryz.func285 rfl rfl)
 (.node 283 (t283.enA rfl Tryz.func283 rfl rfl)
 .leaf (.node 284 (t284.enA rfl Tryz.func284 rfl rfl)
 .leaf .leaf)) (.node 287 (t287.enA rfl Tryz.func287 rfl rfl)
 (.node 286 (t286.enA rfl Tryz.func286 rfl rfl)
 .leaf .leaf) (.node 288 (t288.enA rfl Tryz.func288 rfl rfl)
 .leaf .leaf))) (.node 293 (t293.enA rfl Tryz.func293 rfl rfl)
 (.node 291 (t291.enA rfl Tryz.func291 rfl rfl)
 (.node 290 (t290.enA rfl Tryz.func290 rfl rfl)
 .leaf .leaf) (.node 292 (t292.enA rfl Tryz.func292 rfl rfl)
 .leaf .leaf)) (.node 295 (t295.enA rfl Tryz.func295 rfl rfl)
 (.node 294 (t294.enA rfl Tryz.func294 rfl rfl)
 .leaf .leaf) (.node 296 (t296.enA rfl Tryz.func296 rfl rfl)
 .leaf .leaf)))) (.node 305 (t305.enA rfl Tryz.func305 rfl rfl) (.node 301 (t301.enA rfl Tryz.func301 rfl rfl)
 (.node 299 (t299.enA rfl Tryz.func299 rfl rfl)
 (.node 298 (t298.enA rfl Tryz.func298 rfl rfl)
 .leaf .leaf) (.node 300 (t300.enA rfl Tryz.func300 rfl rfl)
 .leaf .leaf)) (.node 303 (t303.enA rfl Tryz.func303 rfl rfl)
 (.node 302 (t302.enA rfl Tryz.func302 rfl rfl)
 .leaf .leaf) (.node 304 (t304.enA rfl Tryz.func304 rfl rfl)
 .leaf .leaf))) (.node 309 (t309.enA rfl Tryz.func309 rfl rfl)
 (.node 307 (t307.enA rfl Tryz.func307 rfl rfl)
 (.node 306 (t306.enA rfl Tryz.func306 rfl rfl)
 .leaf .leaf) (.node 308 (t308.enA rfl Tryz.func308 rfl rfl)
 .leaf .leaf)) (.node 311 (t311.enA rfl Tryz.func311 rfl rfl)
 (.node 310 (t310.enA rfl Tryz.func310 rfl rfl)
 .leaf .leaf) (.node 313 (t313.enA rfl Tryz.func313 rfl rfl)
 .leaf .leaf)))))) (.node 345 (t345.enA rfl Tryz.func345 rfl rfl) (.node 329 (t329.enA rfl Tryz.func329 rfl rfl) (.node 321 (t321.enA rfl Tryz.func321 rfl rfl) (.node 317 (t317.enA rfl Tryz.func317 rfl rfl)
 (.node 315 (t315.enA rfl Tryz.func315 rfl rfl)
 .leaf (.node 316 (t316.enA rfl Tryz.func316 rfl rfl)
 .leaf .leaf)) (.node 319 (t319.enA rfl Tryz.func319 rfl rfl)
 (.node 318 (t318.enA rfl Tryz.func318 rfl rfl)
 .leaf .leaf) (.node 320 (t320.enA rfl Tryz.func320 rfl rfl)
 .leaf .leaf))) (.node 325 (t325.enA rfl Tryz.func325 rfl rfl)
 (.node 323 (t323.enA rfl Tryz.func323 rfl rfl)
 (.node 322 (t322.enA rfl Tryz.func322 rfl rfl)
 .leaf .leaf) (.node 324 (t324.enA rfl Tryz.func324 rfl rfl)
 .leaf .leaf)) (.node 327 (t327.enA rfl Tryz.func327 rfl rfl)
 (.node 326 (t326.enA rfl Tryz.func326 rfl rfl)
 .leaf .leaf) (.node 328 (t328.enA rfl Tryz.func328 rfl rfl)
 .leaf .leaf)))) (.node 337 (t337.enA rfl Tryz.func337 rfl rfl) (.node 333 (t333.enA rfl Tryz.func333 rfl rfl)
 (.node 331 (t331.enA rfl Tryz.func331 rfl rfl)
 (.node 330 (t330.enA rfl Tryz.func330 rfl rfl)
 .leaf .leaf) (.node 332 (t332.enA rfl Tryz.func332 rfl rfl)
 .leaf .leaf)) (.node 335 (t335.enA rfl Tryz.func335 rfl rfl)
 (.node 334 (t334.enA rfl Tryz.func334 rfl rfl)
 .leaf .leaf) (.node 336 (t336.enA rfl Tryz.func336 rfl rfl)
 .leaf .leaf))) (.node 341 (t341.enA rfl Tryz.func341 rfl rfl)
 (.node 339 (t339.enA rfl Tryz.func339 rfl rfl)
 (.node 338 (t338.enA rfl Tryz.func338 rfl rfl)
 .leaf .leaf) (.node 340 (t340.enA rfl Tryz.func340 rfl rfl)
 .leaf .leaf)) (.node 343 (t343.enA rfl Tryz.func343 rfl rfl)
 (.node 342 (t342.enA rfl Tryz.func342 rfl rfl)
 .leaf .leaf) (.node 344 (t344.enA rfl Tryz.func344 rfl rfl)
 .leaf .leaf))))) (.node 363 (t363.enA rfl Tryz.func363 rfl rfl) (.node 355 (t355.enA rfl Tryz.func355 rfl rfl) (.node 351 (t351.enA rfl Tryz.func351 rfl rfl)
 (.node 349 (t349.enA rfl Tryz.func349 rfl rfl)
 (.node 347 (t347.enA rfl Tryz.func347 rfl rfl)
 .leaf .leaf) (.node 350 (t350.enA rfl Tryz.func350 rfl rfl)
 .leaf .leaf)) (.node 353 (t353.enA rfl Tryz.func353 rfl rfl)
 (.node 352 (t352.enA rfl Tryz.func352 rfl rfl)
 .leaf .leaf) (.node 354 (t354.enA rfl Tryz.func354 rfl rfl)
 .leaf .leaf))) (.node 359 (t359.enA rfl Tryz.func359 rfl rfl)
 (.node 357 (t357.enA rfl Tryz.func357 rfl rfl)
 (.node 356 (t356.enA rfl Tryz.func356 rfl rfl)
 .leaf .leaf) (.node 358 (t358.enA rfl Tryz.func358 rfl rfl)
 .leaf .leaf)) (.node 361 (t361.enA rfl Tryz.func361 rfl rfl)
 (.node 360 (t360.enA rfl Tryz.func360 rfl rfl)
 .leaf .leaf) (.node 362 (t362.enA rfl Tryz.func362 rfl rfl)
 .leaf .leaf)))) (.node 371 (t371.enA rfl Tryz.func371 rfl rfl) (.node 367 (t367.enA rfl Tryz.func367 rfl rfl)
 (.node 365 (t365.enA rfl Tryz.func365 rfl rfl)
 (.node 364 (t364.enA rfl Tryz.func364 rfl rfl)
 .leaf .leaf) (.node 366 (t366.enA rfl Tryz.func366 rfl rfl)
 .leaf .leaf)) (.node 369 (t369.enA rfl Tryz.func369 rfl rfl)
 (.node 368 (t368.enA rfl Tryz.func368 rfl rfl)
 .leaf .leaf) (.node 370 (t370.enA rfl Tryz.func370 rfl rfl)
 .leaf .leaf))) (.node 375 (t375.enA rfl Tryz.func375 rfl rfl)
 (.node 373 (t373.enA rfl Tryz.func373 rfl rfl)
 (.node 372 (t372.enA rfl Tryz.func372 rfl rfl)
 .leaf .leaf) (.node 374 (t374.enA rfl Tryz.func374 rfl rfl)
 .leaf .leaf)) (.node 377 (t377.enA rfl Tryz.func377 rfl rfl)
 (.node 376 (t376.enA rfl Tryz.func376 rfl rfl)
 .leaf .leaf) (.node 378 (t378.enA rfl Tryz.func378 rfl rfl)
 .leaf .leaf))))))) (.node 446 (t446.enA rfl Tryz.func446 rfl rfl) (.node 410 (t410.enA rfl Tryz.func410 rfl rfl) (.node 394 (t394.enA rfl Tryz.func394 rfl rfl) (.node 386 (t386.enA rfl Tryz.func386 rfl rfl) (.node 382 (t382.enA rfl Tryz.func382 rfl rfl)
 (.node 380 (t380.enA rfl Tryz.func380 rfl rfl)
 .leaf (.node 381 (t381.enA rfl Tryz.func381 rfl rfl)
 .leaf .leaf)) (.node 384 (t384.enA rfl Tryz.func384 rfl rfl)
 (.node 383 (t383.enA rfl Tryz.func383 rfl rfl)
 .leaf .leaf) (.node 385 (t385.enA rfl Tryz.func385 rfl rfl)
 .leaf .leaf))) (.node 390 (t390.enA rfl Tryz.func390 rfl rfl)
 (.node 388 (t388.enA rfl Tryz.func388 rfl rfl)
 (.node 387 (t387.enA rfl Tryz.func387 rfl rfl)
 .leaf .leaf) (.node 389 (t389.enA rfl Tryz.func389 rfl rfl)
 .leaf .leaf)) (.node 392 (t392.enA rfl Tryz.func392 rfl rfl)
 (.node 391 (t391.enA rfl Tryz.func391 rfl rfl)
 .leaf .leaf) (.node 393 (t393.enA rfl Tryz.func393 rfl rfl)
 .leaf .leaf)))) (.node 402 (t402.enA rfl Tryz.func402 rfl rfl) (.node 398 (t398.enA rfl Tryz.func398 rfl rfl)
 (.node 396 (t396.enA rfl Tryz.func396 rfl rfl)
 (.node 395 (t395.enA rfl Tryz.func395 rfl rfl)
 .leaf .leaf) (.node 397 (t397.enA rfl Tryz.func397 rfl rfl)
 .leaf .leaf)) (.node 400 (t400.enA rfl Tryz.func400 rfl rfl)
 (.node 399 (t399.enA rfl Tryz.func399 rfl rfl)
 .leaf .leaf) (.node 401 (t401.enA rfl Tryz.func401 rfl rfl)
 .leaf .leaf))) (.node 406 (t406.enA rfl Tryz.func406 rfl rfl)
 (.node 404 (t404.enA rfl Tryz.func404 rfl rfl)
 (.node 403 (t403.enA rfl Tryz.func403 rfl rfl)
 .leaf .leaf) (.node 405 (t405.enA rfl Tryz.func405 rfl rfl)
 .leaf .leaf)) (.node 408 (t408.enA rfl Tryz.func408 rfl rfl)
 (.node 407 (t407.enA rfl Tryz.func407 rfl rfl)
 .leaf .leaf) (.node 409 (t409.enA rfl Tryz.func409 rfl rfl)
 .leaf .leaf))))) (.node 425 (t425.enA rfl Tryz.func425 rfl rfl) (.node 417 (t417.enA rfl Tryz.func417 rfl rfl) (.node 413 (t413.enA rfl Tryz.func413 rfl rfl)
 (.node 411 (t411.enA rfl Tryz.func411 rfl rfl)
 .leaf (.node 412 (t412.enA rfl Tryz.func412 rfl rfl)
 .leaf .leaf)) (.node 415 (t415.enA rfl Tryz.func415 rfl rfl)
 (.node 414 (t414.enA rfl Tryz.func414 rfl rfl)
 .leaf .leaf) (.node 416 (t416.enA rfl Tryz.func416 rfl rfl)
 .leaf .leaf))) (.node 421 (t421.enA rfl Tryz.func421 rfl rfl)
 (.node 419 (t419.enA rfl Tryz.func419 rfl rfl)
 (.node 418 (t418.enA rfl Tryz.func418 rfl rfl)
 .leaf .leaf) (.node 420 (t420.enA rfl Tryz.func420 rfl rfl)
 .leaf .leaf)) (.node 423 (t423.enA rfl Tryz.func423 rfl rfl)
 (.node 422 (t422.enA rfl Tryz.func422 rfl rfl)
 .leaf .leaf) (.node 424 (t424.enA rfl Tryz.func424 rfl rfl)
 .leaf .leaf)))) (.node 433 (t433.enA rfl Tryz.func433 rfl rfl) (.node 429 (t429.enA rfl Tryz.func429 rfl rfl)
 (.node 427 (t427.enA rfl Tryz.func427 rfl rfl)
 (.node 426 (t426.enA rfl Tryz.func426 rfl rfl)
 .leaf .leaf) (.node 428 (t428.enA rfl Tryz.func428 rfl rfl)
 .leaf .leaf)) (.node 431 (t431.enA rfl Tryz.func431 rfl rfl)
 (.node 430 (t430.enA rfl Tryz.func430 rfl rfl)
 .leaf .leaf) (.node 432 (t432.enA rfl Tryz.func432 rfl rfl)
 .leaf .leaf))) (.node 440 (t440.enA rfl Tryz.func440 rfl rfl)
 (.node 436 (t436.enA rfl Tryz.func436 rfl rfl)
 (.node 434 (t434.enA rfl Tryz.func434 rfl rfl)
 .leaf .leaf) (.node 438 (t438.enA rfl Tryz.func438 rfl rfl)
 .leaf .leaf)) (.node 444 (t444.enA rfl Tryz.func444 rfl rfl)
 (.node 442 (t442.enA rfl Tryz.func442 rfl rfl)
 .leaf .leaf) (.node 445 (t445.enA rfl Tryz.func445 rfl rfl)
 .leaf .leaf)))))) (.node 477 (t477.enA rfl Tryz.func477 rfl rfl) (.node 461 (t461.enA rfl Tryz.func461 rfl rfl) (.node 453 (t453.enA rfl Tryz.func453 rfl rfl) (.node 449 (t449.enA rfl Tryz.func449 rfl rfl)
 (.node 447 (t447.enA rfl Tryz.func447 rfl rfl)
 .leaf (.node 448 (t448.enA rfl Tryz.func448 rfl rfl)
 .leaf .leaf)) (.node 451 (t451.enA rfl Tryz.func451 rfl rfl)
 (.node 450 (t450.enA rfl Tryz.func450 rfl rfl)
 .leaf .leaf) (.node 452 (t452.enA rfl Tryz.func452 rfl rfl)
 .leaf .leaf))) (.node 457 (t457.enA rfl Tryz.func457 rfl rfl)
 (.node 455 (t455.enA rfl Tryz.func455 rfl rfl)
 (.node 454 (t454.enA rfl Tryz.func454 rfl rfl)
 .leaf .leaf) (.node 456 (t456.enA rfl Tryz.func456 rfl rfl)
 .leaf .leaf)) (.node 459 (t459.enA rfl Tryz.func459 rfl rfl)
 (.node 458 (t458.enA rfl Tryz.func458 rfl rfl)
 .leaf .leaf) (.node 460 (t460.enA rfl Tryz.func460 rfl rfl)
 .leaf .leaf)))) (.node 469 (t469.enA rfl Tryz.func469 rfl rfl) (.node 465 (t465.enA rfl Tryz.func465 rfl rfl)
 (.node 463 (t463.enA rfl Tryz.func463 rfl rfl)
 (.node 462 (t462.enA rfl Tryz.func462 rfl rfl)
 .leaf .leaf) (.node 464 (t464.enA rfl Tryz.func464 rfl rfl)
 .leaf .leaf)) (.node 467 (t467.enA rfl Tryz.func467 rfl rfl)
 (.node 466 (t466.enA rfl Tryz.func466 rfl rfl)
 .leaf .leaf) (.node 468 (t468.enA rfl Tryz.func468 rfl rfl)
 .leaf .leaf))) (.node 473 (t473.enA rfl Tryz.func473 rfl rfl)
 (.node 471 (t471.enA rfl Tryz.func471 rfl rfl)
 (.node 470 (t470.enA rfl Tryz.func470 rfl rfl)
 .leaf .leaf) (.node 472 (t472.enA rfl Tryz.func472 rfl rfl)
 .leaf .leaf)) (.node 475 (t475.enA rfl Tryz.func475 rfl rfl)
 (.node 474 (t474.enA rfl Tryz.func474 rfl rfl)
 .leaf .leaf) (.node 476 (t476.enA rfl Tryz.func476 rfl rfl)
 .leaf .leaf))))) (.node 494 (t494.enA rfl Tryz.func494 rfl rfl) (.node 485 (t485.enA rfl Tryz.func485 rfl rfl) (.node 481 (t481.enA rfl Tryz.func481 rfl rfl)
 (.node 479 (t479.enA rfl Tryz.func479 rfl rfl)
 (.node 478 (t478.enA rfl Tryz.func478 rfl rfl)
 .leaf .leaf) (.node 480 (t480.enA rfl Tryz.func480 rfl rfl)
 .leaf .leaf)) (.node 483 (t483.enA rfl Tryz.func483 rfl rfl)
 (.node 482 (t482.enA rfl Tryz.func482 rfl rfl)
 .leaf .leaf) (.node 484 (t484.enA rfl Tryz.func484 rfl rfl)
 .leaf .leaf))) (.node 490 (t490.enA rfl Tryz.func490 rfl rfl)
 (.node 488 (t488.enA rfl Tryz.func488 rfl rfl)
 (.node 487 (t487.enA rfl Tryz.func487 rfl rfl)
 .leaf .leaf) (.node 489 (t489.enA rfl Tryz.func489 rfl rfl)
 .leaf .leaf)) (.node 492 (t492.enA rfl Tryz.func492 rfl rfl)
 (.node 491 (t491.enA rfl Tryz.func491 rfl rfl)
 .leaf .leaf) (.node 493 (t493.enA rfl Tryz.func493 rfl rfl)
 .leaf .leaf)))) (.node 502 (t502.enA rfl Tryz.func502 rfl rfl) (.node 498 (t498.enA rfl Tryz.func498 rfl rfl)
 (.node 496 (t496.enA rfl Tryz.func496 rfl rfl)
 (.node 495 (t495.enA rfl Tryz.func495 rfl rfl)
 .leaf .leaf) (.node 497 (t497.enA rfl Tryz.func497 rfl rfl)
 .leaf .leaf)) (.node 500 (t500.enA rfl Tryz.func500 rfl rfl)
 (.node 499 (t499.enA rfl Tryz.func499 rfl rfl)
 .leaf .leaf) (.node 501 (t501.enA rfl Tryz.func501 rfl rfl)
 .leaf .leaf))) (.node 506 (t506.enA rfl Tryz.func506 rfl rfl)
 (.node 504 (t504.enA rfl Tryz.func504 rfl rfl)
 (.node 503 (t503.enA rfl Tryz.func503 rfl rfl)
 .leaf .leaf) (.node 505 (t505.enA rfl Tryz.func505 rfl rfl)
 .leaf .leaf)) (.node 508 (t508.enA rfl Tryz.func508 rfl rfl)
 (.node 507 (t507.enA rfl Tryz.func507 rfl rfl)
 .leaf .leaf) (.node 509 (t509.enA rfl Tryz.func509 rfl rfl)
 .leaf .leaf)))))))))
theorem chk : tab.all chkEn = true := by kernel_rfl
end Go.Proofs.YtolmealocdgdhaaGreat.U
end
section
namespace Go.Proofs.YtolmealocdgdhaaGreat
open Go Go.Abs
set_option maxRecDepth 20000

noncomputable abbrev HA : FuncId → Option (List AV → Mem → R) := hookAt U.dfi.f (fun _ _ => none) H
noncomputable abbrev EA : Env := EX Tryz.prog U.B HA
theorem EA_ok : EnvOk EA := E_ok.bodyAt U.dfi.f (dfMark, U.dfi.fn.ntmps, U.dfi.rest) (fun _ _ _ _ h => by cases h)
abbrev hooksN : List Nat := [62, 312, 346, 348, 435, 437, 439, 441, 443, 486, 260, 261, 383, 384, 385, 386, 387]
noncomputable abbrev TA : Tb := (tbOf U.tab).less hooksN
theorem HA_free (f : Nat) (hf : f ∉ hooksN) : HA f = none := by
  have hd : f ≠ U.dfi.f := fun e => hf (by rw [e]; exact .head _)
  refine (hookAt_other hd _ _).trans ?_
  show H f = none
  unfold H
  split <;> first | rfl | exact absurd (by decide) hf
theorem less_free {T : Tb} {l : List Nat} {f : Nat} (h : (T.less l).fn f ≠ none) : f ∉ l := fun hm => h (by
  show (match l.contains f with | true => none | false => T.fn f) = none
  rw [show l.contains f = true from List.contains_iff_mem.2 hm])
theorem TA_ok : TA.Ok EA (Mq EA) (Nq EA) := tbOf_ok U.chk hooksN fun f hf => HA_free f (less_free hf)
abbrev localN : List FuncId := [327, 201, 210]
noncomputable abbrev HB : FuncId → Option (List AV → Mem → R) := hooksL EA TA 400 localN
noncomputable abbrev EB : Env := { EA with H := HB }
theorem EB_ok : EnvOk EB := hooksL_ok EA_ok TA_ok 400 localN
theorem HB_free (f : Nat) (hf : f ∉ hooksN ++ localN) : HB f = none := by
  show hooksL EA TA 400 localN f = none
  unfold hooksL
  rw [if_neg (fun h => hf (List.mem_append_right _ (List.contains_iff_mem.1 h)))]
  exact HA_free f fun h => hf (List.mem_append_left _ h)
noncomputable abbrev TB : Tb := (tbOf U.tab).less (hooksN ++ localN)
theorem TB_ok : TB.Ok EB (Mq EB) (Nq EB) := tbOf_ok U.chk (hooksN ++ localN) fun f hf => HB_free f (less_free hf)
theorem dfi_ok : U.dfi.Ok EB := ⟨Tryz.func62, by kernel_rfl, by decide +kernel, by kernel_rfl, by kernel_rfl, by kernel_rfl, by kernel_rfl, by kernel_rfl, by kernel_rfl, by kernel_rfl⟩
noncomputable abbrev HV : FuncId → Option (List AV → Mem → R) := hookAt U.dfi.f (dfH Tryz.prog U.dfi (dfX EB TB 4000 U.dfi.f U.dfi.fn.ntmps [false, true, true, true]) (dfY EB TB 4000)) HB
noncomputable abbrev EV : Env := { EB with H := HV }
theorem EV_ok : EnvOk EV := EB_ok.hookAt U.dfi.f (by
  have h : (HB U.dfi.f).isSome = true := by kernel_rfl
  intro e
  rw [show EB.H U.dfi.f = HB U.dfi.f from rfl] at e
  rw [e] at h
  cases h) fun args m r m' h => dfH_ok EB_ok dfi_ok (dfX_ok TB_ok 4000 (bodyAt_same _ _ _)) (dfY_ok TB_ok 4000) h
theorem HV_free (f : Nat) (hf : f ∉ hooksN ++ localN) : HV f = none := by
  have hd : f ≠ U.dfi.f := fun e => hf (by rw [e]; exact .head _)
  show hookAt _ _ _ f = none
  refine (hookAt_other hd _ _).trans ?_
  exact HB_free f hf
theorem V_ok : TB.Ok EV (Mq EV) (Nq EV) := tbOf_ok U.chk (hooksN ++ localN) fun f hf => HV_free f (less_free hf)
end Go.Proofs.YtolmealocdgdhaaGreat
end
section
namespace Go.Abs
open Go

theorem Fr.lay {m m1 : Mem} {S : List Nat} (h : Fr m m1 S) (v : Blk) : Fr m (m1.lay v) S :=
  ⟨Nat.le_trans h.1 (Nat.le_succ _), fun c hc hn => by rw [Mem.get_lay, if_neg (by have := h.1; omega)]; exact h.2 c hc hn⟩
theorem Fr.put' {m m1 : Mem} {S : List Nat} (h : Fr m m1 S) {b : Nat} {v : Option Blk} (hb : b ∈ S ∨ m.next ≤ b) : Fr m (m1.put b v) S :=
  ⟨h.1, fun c hc hn => by
    rw [Mem.get_put, if_neg]
    · exact h.2 c hc hn
    · rintro ⟨rfl, _⟩
      rcases hb with h | h
      · exact hn h
      · omega⟩
theorem Fr.step {m m1 m2 : Mem} {S T : List Nat} (h : Fr m m1 S) (h' : Fr m1 m2 T) (hT : ∀ c, c ∈ T → c ∈ S ∨ m.next ≤ c) : Fr m m2 S :=
  ⟨Nat.le_trans h.1 h'.1, fun c hc hn => by
    rw [h'.2 c (Nat.lt_of_lt_of_le hc h.1), h.2 c hc hn]
    intro hm
    rcases hT c hm with h | h
    · exact hn h
    · omega⟩
theorem Fr.step0 {m m1 m2 : Mem} {S : List Nat} (h : Fr m m1 S) (h' : Fr m1 m2 []) : Fr m m2 S := h.step h' (by simp)
theorem Fr.any {m m1 : Mem} (S : List Nat) (h : Fr m m1 []) : Fr m m1 S := h.mono (by simp)
theorem Fr.next {m m1 : Mem} {S : List Nat} (h : Fr m m1 S) : m.next ≤ m1.next := h.1
theorem Fr.refl' (m : Mem) (S : List Nat) : Fr m m S := (Fr.refl m).any S

section flat
variable {n : Nat}
theorem flat_len : ∀ {l : List (List AV)}, (∀ x ∈ l, x.length = n) → l.flatten.length = l.length * n
  | [], _ => by simp
  | x :: l, h => by
    rw [List.flatten_cons, List.length_append, flat_len (fun y hy => h y (List.mem_cons_of_mem _ hy)), h x List.mem_cons_self, List.length_cons, Nat.succ_mul]; omega
theorem flat_drop : ∀ {l : List (List AV)} (i : Nat), (∀ x ∈ l, x.length = n) → l.flatten.drop (i * n) = (l.drop i).flatten
  | l, 0, _ => by simp
  | [], i + 1, _ => by simp
  | x :: l, i + 1, h => by
    rw [List.flatten_cons, List.drop_append, List.drop_eq_nil_of_le (by rw [h x List.mem_cons_self, Nat.succ_mul]; omega), List.nil_append, h x List.mem_cons_self, Nat.succ_mul, Nat.add_sub_cancel]
    exact flat_drop i (fun y hy => h y (List.mem_cons_of_mem _ hy))
theorem flat_take : ∀ {l : List (List AV)} (i : Nat), (∀ x ∈ l, x.length = n) → l.flatten.take (i * n) = (l.take i).flatten
  | l, 0, _ => by simp
  | [], i + 1, _ => by simp
  | x :: l, i + 1, h => by
    rw [List.flatten_cons, List.take_append, List.take_of_length_le (by rw [h x List.mem_cons_self, Nat.succ_mul]; omega), h x List.mem_cons_self, Nat.succ_mul, Nat.add_sub_cancel]
    rw [flat_take i (fun y hy => h y (List.mem_cons_of_mem _ hy)), List.take_succ_cons, List.flatten_cons]
theorem flat_nth {l : List (List AV)} (h : ∀ x ∈ l, x.length = n) {i : Nat} (hi : i < l.length) : (l.flatten.drop (i * n)).take n = l[i] := by
  rw [flat_drop i h, List.drop_eq_getElem_cons hi, List.flatten_cons, List.take_append, List.take_of_length_le (by rw [h _ (List.getElem_mem hi)]; exact Nat.le_refl _), h _ (List.getElem_mem hi), Nat.sub_self, List.take_zero, List.append_nil]
theorem flat_set {l : List (List AV)} (h : ∀ x ∈ l, x.length = n) {i : Nat} (hi : i < l.length) (v : List AV) : l.flatten.take (i * n) ++ v ++ l.flatten.drop (i * n + n) = (l.set i v).flatten := by
  rw [show i * n + n = (i + 1) * n by rw [Nat.succ_mul], flat_take i h, flat_drop (i + 1) h, List.set_eq_take_append_cons_drop, if_pos hi, List.flatten_append, List.flatten_cons, List.append_assoc]
theorem flat_ones {l : List (List AV)} (h : ∀ x ∈ l, x.all AV.one = true) : l.flatten.all AV.one = true := by
  rw [List.all_eq_true]
  intro v hv
  obtain ⟨x, hx, hv⟩ := List.mem_flatten.1 hv
  exact List.all_eq_true.1 (h x hx) v hv
theorem flat_single : ∀ {l : List AV}, (l.map fun x => [x]).flatten = l
  | [] => rfl
  | x :: l => by rw [List.map_cons, List.flatten_cons, flat_single]; rfl
end flat

def TRow (n : Nat) (m : Mem) (s : AV) (l : List (List AV)) (rb : Option Nat) : Prop :=
  (∀ x ∈ l, x.length = n ∧ x.all AV.one = true) ∧
  (((l = [] ∧ rb = none ∧ ∃ sz ex, s = .sl none sz 0 0 ex) ∨ ∃ b, l = [] ∧ rb = some b ∧ s = .sl (some ⟨b, 0⟩) n 0 0 true ∧ m.get b = some (.cells [] false)) ∨
   ∃ b, rb = some b ∧ s = .sl (some ⟨b, 0⟩) n l.length l.length false ∧ m.get b = some (.cells l.flatten false))

theorem TRow.nil (n : Nat) (m : Mem) (sz : Nat) (ex : Bool) : TRow n m (.sl none sz 0 0 ex) [] none := ⟨by simp, .inl (.inl ⟨rfl, rfl, _, _, rfl⟩)⟩
theorem TRow.lit (n : Nat) {m : Mem} {b : Nat} (h : m.get b = some (.cells [] false)) : TRow n m (.sl (some ⟨b, 0⟩) n 0 0 true) [] (some b) := ⟨by simp, .inl (.inr ⟨b, rfl, rfl, rfl, h⟩)⟩
theorem TRow.lens {n : Nat} {m : Mem} {s : AV} {l : List (List AV)} {rb : Option Nat} (h : TRow n m s l rb) : ∀ x ∈ l, x.length = n := fun x hx => (h.1 x hx).1
theorem TRow.frame {n : Nat} {m m' : Mem} {s : AV} {l : List (List AV)} {rb : Option Nat} {S : List Nat} (h : TRow n m s l rb) (hf : Fr m m' S) (hd : ∀ b, rb = some b → b ∉ S) : TRow n m' s l rb := by
  rcases h with ⟨h0, (h | ⟨b, e, h1, h2, h3⟩) | ⟨b, h1, h2, h3⟩⟩
  · exact ⟨h0, .inl (.inl h)⟩
  · exact ⟨h0, .inl (.inr ⟨b, e, h1, h2, hf.get h3 (hd b h1)⟩)⟩
  · exact ⟨h0, .inr ⟨b, h1, h2, hf.get h3 (hd b h1)⟩⟩
theorem TRow.lt {n : Nat} {m : Mem} {s : AV} {l : List (List AV)} {b : Nat} (h : TRow n m s l (some b)) : b < m.next := by
  rcases h with ⟨_, (⟨_, h, _⟩ | ⟨b', _, h1, _, h3⟩) | ⟨b', h1, h2, h3⟩⟩
  · cases h
  · cases h1; exact Mem.get_lt h3
  · cases h1; exact Mem.get_lt h3
theorem TRow.len {n : Nat} {m : Mem} {s : AV} {l : List (List AV)} {rb : Option Nat} (h : TRow n m s l rb) : ∃ a sz cap ex, s = .sl a sz l.length cap ex := by
  rcases h with ⟨_, (⟨rfl, _, sz, ex, rfl⟩ | ⟨b, rfl, _, rfl, _⟩) | ⟨b, _, rfl, _⟩⟩
  · exact ⟨_, _, _, _, rfl⟩
  · exact ⟨_, _, _, _, rfl⟩
  · exact ⟨_, _, _, _, rfl⟩
theorem TRow.one {n : Nat} {m : Mem} {s : AV} {l : List (List AV)} {rb : Option Nat} (h : TRow n m s l rb) : s.one = true := by
  obtain ⟨a, sz, cap, ex, rfl⟩ := h.len; rfl
theorem TRow.at {n : Nat} {m : Mem} {s : AV} {l : List (List AV)} {rb : Option Nat} (h : TRow n m s l rb) {i : Nat} (hi : i < l.length) :
    ∃ b, rb = some b ∧ s = .sl (some ⟨b, 0⟩) n l.length l.length false ∧ m.get b = some (.cells l.flatten false) ∧ ixA n l.length ⟨b, 0⟩ (i : Int) = some (.ptr (some ⟨b, i * n⟩)) ∧ ldCells m ⟨b, i * n⟩ n = some l[i] := by
  have hl := h.lens
  rcases h with ⟨h0, (⟨rfl, _⟩ | ⟨_, rfl, _⟩) | ⟨b, h1, h2, h3⟩⟩
  · simp at hi
  · simp at hi
  · refine ⟨b, h1, h2, h3, by simp [ixA, hi], ?_⟩
    have : (i + 1) * n ≤ l.length * n := Nat.mul_le_mul_right n hi
    rw [Nat.succ_mul] at this
    simp only [ldCells, h3]
    rw [if_pos (by rw [flat_len hl]; exact this), flat_nth hl hi]
theorem TRow.st {n : Nat} {m : Mem} {s : AV} {l : List (List AV)} {rb : Option Nat} (h : TRow n m s l rb) {i : Nat} (hi : i < l.length) {v : List AV} (hv : v.length = n) (ho : v.all AV.one = true) :
    ∃ b, rb = some b ∧ stCells m ⟨b, i * n⟩ v = some (m.put b (some (.cells (l.set i v).flatten false))) ∧ TRow n (m.put b (some (.cells (l.set i v).flatten false))) s (l.set i v) rb := by
  have hl := h.lens
  obtain ⟨b, h1, h2, h3, _, _⟩ := h.at hi
  refine ⟨b, h1, ?_, fun x hx => ?_, .inr ⟨b, h1, by simpa using h2, by rw [Mem.get_put, if_pos ⟨rfl, Mem.get_lt h3⟩]⟩⟩
  · have : (i + 1) * n ≤ l.length * n := Nat.mul_le_mul_right n hi
    rw [Nat.succ_mul] at this
    simp only [stCells, h3]
    rw [if_pos (by rw [flat_len hl, hv]; exact this), hv, flat_set hl hi]
  · rcases List.mem_or_eq_of_mem_set hx with hx | rfl
    · exact h.1 x hx
    · exact ⟨hv, ho⟩

theorem insH_row {P : Program} {st e : TypeId} {n w : Nat} {zs : List AV} (hst : P.underlying st = some (.slice e)) (hsz : szT P e = some n) (hw : bytesT P e = some w) (hz : zeroA P e = some zs) (hzl : zs.length = n) (hn : 0 < n) (hw0 : 0 < w)
    {m : Mem} {s : AV} {l : List (List AV)} {rb : Option Nat} (h : TRow n m s l rb) {xb : Nat} {new : List AV} (hx : m.get xb = some (.cells new false)) (hl : new.length = n) (ho : new.all AV.one = true) (hne : rb ≠ some xb)
    {i : Nat} (hi : i ≤ l.length) (hb : (l.length + 1) * w ≤ maxBytes) :
    ∃ s' m', insH P st [s, .int .i64 i, .sl (some ⟨xb, 0⟩) n 1 1 true] m = some (s', m') ∧ TRow n m' s' (l.take i ++ new :: l.drop i) (some m.next) ∧ m'.next = m.next + 1 ∧ Fr m m' rb.toList := by
  have hsrc : srcA n (.sl (some ⟨xb, 0⟩) n 1 1 true) m = some (1, new) := by
    simp only [srcA, true_or, if_true, ldCells, hx, Nat.one_mul, Nat.zero_add, hl, Nat.le_refl, List.drop_zero, Option.map_some]
    rw [List.take_of_length_le (by omega)]
  have hall : ∀ x ∈ l.take i ++ new :: l.drop i, x.length = n ∧ x.all AV.one = true := by
    intro x hx'
    simp only [List.mem_append, List.mem_cons] at hx'
    rcases hx' with h1 | rfl | h1
    · exact h.1 x (List.mem_of_mem_take h1)
    · exact ⟨hl, ho⟩
    · exact h.1 x (List.mem_of_mem_drop h1)
  have hlens := h.lens
  have hlen : (l.take i ++ new :: l.drop i).length = l.length + 1 := by simp; omega
  have hones : l.flatten.all AV.one = true := flat_ones fun x hx => (h.1 x hx).2
  have hfl := flat_len hlens
  unfold insH
  simp only [hst, hsz, hw, hz, Option.bind_some, hsrc]
  rw [if_pos ⟨Nat.one_pos, by omega, ho⟩]
  rcases h.2 with (⟨rfl, rfl, sz, ex, rfl⟩ | ⟨b, rfl, rfl, rfl, h3⟩) | ⟨b, rfl, rfl, h3⟩
  · have : i = 0 := by simpa using hi
    subst this
    simp only [Int.natCast_zero, if_true]
    unfold appendA
    rw [hsrc]
    simp only [ho, not_true_eq_false, if_false, Nat.one_ne_zero]
    rw [if_pos (by simpa using hb)]
    exact ⟨_, _, rfl, ⟨hall, .inr ⟨m.next, rfl, by simp, by simp [Mem.get_lay]⟩⟩, rfl, Fr.alloc _ _⟩
  · have : i = 0 := by simpa using hi
    subst this
    simp only [Int.natCast_zero, if_true, true_or]
    unfold appendA
    rw [hsrc]
    simp only [ho, not_true_eq_false, if_false, true_or, if_true]
    have hld : ldCells m ⟨b, 0⟩ (0 * n) = some [] := by simp [ldCells, h3]
    rw [if_neg (by omega), if_pos (by simpa using hb), hld]
    simp only
    refine ⟨_, _, rfl, ⟨hall, .inr ⟨m.next, rfl, by simp, by simp [Mem.get_lay]⟩⟩, rfl, (Fr.alloc _ _).mono (by simp)⟩
  · have hxb : xb ≠ b := fun e => hne (by rw [e])
    simp only
    by_cases he : i = l.length
    · subst he
      rw [if_pos rfl, if_pos (.inl trivial)]
      unfold appendA
      rw [hsrc]
      simp only [ho, not_true_eq_false, if_false, true_or, if_true]
      have hld : ldCells m ⟨b, 0⟩ (l.length * n) = some l.flatten := by
        simp only [ldCells, h3]
        rw [if_pos (by omega), List.drop_zero, List.take_of_length_le (by omega)]
      rw [if_neg (by omega), if_pos hb, hld]
      simp only [Bool.false_eq_true, if_false, h3]
      refine ⟨_, _, rfl, ⟨hall, .inr ⟨m.next, rfl, by rw [hlen], ?_⟩⟩, rfl, ((Fr.put m b none).trans (Fr.alloc _ _) (by simp) (by simp))⟩
      simp [Mem.get_lay, List.flatten_append]
    · rw [if_neg (by omega), if_pos ⟨by omega, trivial, trivial, hxb, hn, hw0, hzl, hb, Nat.le_refl _⟩]
      have hld : ldCells m ⟨b, 0⟩ (l.length * n) = some l.flatten := by
        simp only [ldCells, h3]
        rw [if_pos (by omega), List.drop_zero, List.take_of_length_le (by omega)]
      simp only [hx, h3, hld, Option.bind_some, hones, if_true]
      refine ⟨_, _, rfl, ⟨hall, .inr ⟨m.next, rfl, by rw [hlen], ?_⟩⟩, rfl, ((Fr.put m b none).trans (Fr.alloc _ _) (by simp) (by simp))⟩
      rw [Int.toNat_natCast, flat_take i hlens, flat_drop i hlens]
      simp [Mem.get_lay, List.flatten_append]

section lb
variable {κ : Type} {lt : κ → κ → Bool}
def lb (lt : κ → κ → Bool) (k : κ) (ks : List κ) : Nat := (ks.takeWhile (lt · k)).length
def Srt (lt : κ → κ → Bool) (ks : List κ) : Prop := ks.Pairwise fun a b => lt a b = true
theorem lb_le (k : κ) (ks : List κ) : lb lt k ks ≤ ks.length := by
  unfold lb
  have := (List.takeWhile_prefix (p := (lt · k)) (l := ks)).length_le
  exact this
theorem lb_unique {k : κ} : ∀ {ks : List κ} {i : Nat}, i ≤ ks.length → (∀ j (h : j < ks.length), j < i → lt ks[j] k = true) → (∀ (h : i < ks.length), lt ks[i] k = false) → lb lt k ks = i
  | [], i, hi, _, _ => by have : i = 0 := by simpa using hi
                          subst this; rfl
  | a :: ks, 0, _, _, h2 => by
    have := h2 (by simp)
    simp only [List.getElem_cons_zero] at this
    simp [lb, this]
  | a :: ks, i + 1, hi, h1, h2 => by
    have h0 := h1 0 (by simp) (by omega)
    simp only [List.getElem_cons_zero] at h0
    have ih := lb_unique (k := k) (ks := ks) (i := i) (by simpa using hi) (fun j h hj => h1 (j + 1) (by simpa using h) (by omega)) (fun h => h2 (by simpa using h))
    unfold lb at ih ⊢
    rw [List.takeWhile_cons, if_pos h0, List.length_cons, ih]
theorem lb_below {k : κ} : ∀ {ks : List κ} {j : Nat} (h : j < ks.length), j < lb lt k ks → lt ks[j] k = true
  | a :: ks, j, h, hj => by
    unfold lb at hj
    rw [List.takeWhile_cons] at hj
    split at hj
    · rename_i ha
      cases j with
      | zero => simpa using ha
      | succ j => simpa using lb_below (k := k) (ks := ks) (j := j) (by simpa using h) (by unfold lb; simpa using hj)
    · simp at hj
theorem lb_at {k : κ} : ∀ {ks : List κ} (h : lb lt k ks < ks.length), lt (ks[lb lt k ks]'h) k = false
  | [], h => by simp at h
  | a :: ks, h => by
    by_cases ha : lt a k = true
    · have e : lb lt k (a :: ks) = lb lt k ks + 1 := by unfold lb; rw [List.takeWhile_cons, if_pos ha]; rfl
      simp only [e, List.getElem_cons_succ]
      exact lb_at (ks := ks) (by rw [e] at h; simpa using h)
    · have e : lb lt k (a :: ks) = 0 := by unfold lb; rw [List.takeWhile_cons, if_neg ha]; rfl
      simp only [e, List.getElem_cons_zero]
      simpa using ha

def hasK [DecidableEq κ] (lt : κ → κ → Bool) (k : κ) (ks : List κ) : Bool := decide (ks[lb lt k ks]? = some k)
def insL {α : Type} (i : Nat) (x : α) (l : List α) : List α := l.take i ++ x :: l.drop i
theorem insL_len {α : Type} {i : Nat} {x : α} {l : List α} (hi : i ≤ l.length) : (insL i x l).length = l.length + 1 := by simp [insL]; omega

theorem srt_lt {ks : List κ} (h : Srt lt ks) {i j : Nat} (hij : i < j) (hj : j < ks.length) : lt (ks[i]'(by omega)) ks[j] = true := List.pairwise_iff_getElem.1 h i j (by omega) hj hij

theorem lb_has [DecidableEq κ] (hir : ∀ a, lt a a = false) {k : κ} {ks : List κ} (hs : Srt lt ks) : hasK lt k ks = decide (k ∈ ks) := by
  unfold hasK
  rw [Bool.eq_iff_iff, decide_eq_true_iff, decide_eq_true_iff]
  constructor
  · intro h; exact List.mem_of_getElem? h
  · intro h
    obtain ⟨i, hi, rfl⟩ := List.mem_iff_getElem.1 h
    have : lb lt ks[i] ks = i := lb_unique (Nat.le_of_lt hi) (fun j h hj => srt_lt hs hj hi) (fun _ => hir _)
    rw [this, List.getElem?_eq_getElem hi]

theorem lb_srt (htr : ∀ a b c, lt a b = true → lt b c = true → lt a c = true) (htot : ∀ a b, lt a b = false → lt b a = false → a = b) {k : κ} {ks : List κ} (hs : Srt lt ks) (hk : k ∉ ks) : Srt lt (insL (lb lt k ks) k ks) := by
  unfold Srt insL
  rw [List.pairwise_append]
  refine ⟨List.Pairwise.sublist (List.take_sublist _ _) hs, ?_, ?_⟩
  · rw [List.pairwise_cons]
    refine ⟨fun a ha => ?_, List.Pairwise.sublist (List.drop_sublist _ _) hs⟩
    obtain ⟨i, hi, rfl⟩ := List.mem_iff_getElem.1 ha
    simp only [List.length_drop] at hi
    rw [List.getElem_drop]
    have hl : lb lt k ks < ks.length := by omega
    have h0 : lt k (ks[lb lt k ks]'hl) = true := by
      cases h : lt k (ks[lb lt k ks]'hl) with
      | true => rfl
      | false => exact absurd (htot _ _ h (lb_at hl)) (fun e => hk (by rw [e]; exact List.getElem_mem hl))
    cases i with
    | zero => simpa using h0
    | succ i => exact htr _ _ _ h0 (srt_lt hs (by omega) (by omega))
  · intro a ha b hb
    obtain ⟨i, hi, rfl⟩ := List.mem_iff_getElem.1 ha
    simp only [List.length_take] at hi
    rw [List.getElem_take]
    have h1 : lt (ks[i]'(by omega)) k = true := lb_below (by omega) (by omega)
    rw [List.mem_cons] at hb
    rcases hb with rfl | hb
    · exact h1
    · obtain ⟨j, hj, rfl⟩ := List.mem_iff_getElem.1 hb
      simp only [List.length_drop] at hj
      rw [List.getElem_drop]
      exact srt_lt hs (by omega) (by omega)
end lb

theorem strLess_irr : ∀ a : List UInt8, strLess a a = false
  | [] => rfl
  | a :: l => by simp [strLess, strLess_irr l]
theorem strLess_tot : ∀ a b : List UInt8, strLess a b = false → strLess b a = false → a = b
  | [], [], _, _ => rfl
  | [], _ :: _, h, _ => by simp [strLess] at h
  | _ :: _, [], _, h => by simp [strLess] at h
  | a :: x, b :: y, h1, h2 => by
    simp only [strLess, Bool.or_eq_false_iff, decide_eq_false_iff_not, Bool.and_eq_false_iff] at h1 h2
    have e : a = b := by
      have := h1.1; have := h2.1
      exact UInt8.le_antisymm (by simpa using h2.1) (by simpa using h1.1)
    subst e
    rw [strLess_tot x y (by simpa using h1.2) (by simpa using h2.2)]
theorem strLess_trans : ∀ a b c : List UInt8, strLess a b = true → strLess b c = true → strLess a c = true
  | _, [], _, h, _ => by simp [strLess] at h
  | _, _ :: _, [], _, h => by simp [strLess] at h
  | [], _ :: _, _ :: _, _, _ => rfl
  | a :: x, b :: y, c :: z, h1, h2 => by
    simp only [strLess, Bool.or_eq_true, Bool.and_eq_true, decide_eq_true_eq] at h1 h2 ⊢
    rcases h1 with h1 | ⟨rfl, h1⟩
    · rcases h2 with h2 | ⟨rfl, h2⟩
      · exact .inl (UInt8.lt_trans h1 h2)
      · exact .inl h1
    · rcases h2 with h2 | ⟨rfl, h2⟩
      · exact .inl h2
      · exact .inr ⟨rfl, strLess_trans x y z h1 h2⟩
def intLess (a b : Int) : Bool := decide (a < b)
theorem intLess_irr (a : Int) : intLess a a = false := by simp [intLess]
theorem intLess_tot (a b : Int) (h : intLess a b = false) (h' : intLess b a = false) : a = b := by simp [intLess] at h h'; omega
theorem intLess_trans (a b c : Int) (h : intLess a b = true) (h' : intLess b c = true) : intLess a c = true := by simp [intLess] at h h' ⊢; omega

section bin
variable {P : Program}
theorem bin_geq (t : TypeId) (k : IntKind) (x y : Int) : binA P .geq t (.int k x) (.int k y) = some (.bool (decide (y ≤ x))) := by simp [binA, intA]
theorem bin_gtr (t : TypeId) (k : IntKind) (x y : Int) : binA P .gtr t (.int k x) (.int k y) = some (.bool (decide (y < x))) := by simp [binA, intA]
theorem bin_lss (t : TypeId) (k : IntKind) (x y : Int) : binA P .lss t (.int k x) (.int k y) = some (.bool (decide (x < y))) := by simp [binA, intA]
theorem bin_leq (t : TypeId) (k : IntKind) (x y : Int) : binA P .leq t (.int k x) (.int k y) = some (.bool (decide (x ≤ y))) := by simp [binA, intA]
theorem bin_eql (t : TypeId) (k : IntKind) (x y : Int) : binA P .eql t (.int k x) (.int k y) = some (.bool (decide (x = y))) := by simp [binA, intA]; rfl
theorem bin_neq (t : TypeId) (k : IntKind) (x y : Int) : binA P .neq t (.int k x) (.int k y) = some (.bool (!decide (x = y))) := by simp [binA, intA, bne]; rfl
theorem bin_add (t : TypeId) (k : IntKind) (x y : Int) : binA P .add t (.int k x) (.int k y) = some (.int k (k.wrap (x + y))) := by simp [binA, intA]
theorem bin_sub (t : TypeId) (k : IntKind) (x y : Int) : binA P .sub t (.int k x) (.int k y) = some (.int k (k.wrap (x - y))) := by simp [binA, intA]
theorem bin_mul (t : TypeId) (k : IntKind) (x y : Int) : binA P .mul t (.int k x) (.int k y) = some (.int k (k.wrap (x * y))) := by simp [binA, intA]
theorem bin_rem (t : TypeId) (k : IntKind) (x y : Int) (h : y ≠ 0) : binA P .rem t (.int k x) (.int k y) = some (.int k (x.tmod y)) := by simp [binA, intA, h]
theorem bin_quo (t : TypeId) (k : IntKind) (x y : Int) (h : y ≠ 0) : binA P .quo t (.int k x) (.int k y) = some (.int k (k.wrap (x.tdiv y))) := by simp [binA, intA, h]
theorem bin_shr (t : TypeId) (k k' : IntKind) (x y : Int) (h : 0 ≤ y) : binA P .shr t (.int k x) (.int k' y) = some (.int k (x.fdiv (2 ^ (min y.toNat k.bits)))) := by
  simp only [binA, shA]; rw [if_neg (by omega)]
theorem bin_slss (t : TypeId) (x y : List UInt8) : binA P .lss t (.str x) (.str y) = some (.bool (strLess x y)) := rfl
theorem beq_dec (x y : List UInt8) : (x == y) = decide (x = y) := by rw [Bool.eq_iff_iff]; simp
theorem bin_seql (t : TypeId) (x y : List UInt8) : binA P .eql t (.str x) (.str y) = some (.bool (decide (x = y))) := by simp only [binA, strA, beq_dec]
theorem bin_sneq (t : TypeId) (x y : List UInt8) : binA P .neq t (.str x) (.str y) = some (.bool (!decide (x = y))) := by simp only [binA, strA, beq_dec]
theorem bin_sgeq (t : TypeId) (x y : List UInt8) : binA P .geq t (.str x) (.str y) = some (.bool (!strLess x y)) := rfl
theorem bin_sadd (t : TypeId) (x y : List UInt8) (h : x.length + y.length ≤ 4611686018427387904) : binA P .add t (.str x) (.str y) = some (.str (x ++ y)) := by simp only [binA, strA]; rw [if_pos h]
end bin
theorem wrap_u64 {x : Int} (h1 : 0 ≤ x) (h2 : x < 18446744073709551616) : IntKind.wrap .u64 x = x := by
  have e : IntKind.wrap .u64 x = x % 18446744073709551616 := by simp [IntKind.wrap, IntKind.bits, IntKind.signed]
  rw [e]; omega
theorem wrap_u64' (x : Int) : IntKind.wrap .u64 x = x % 18446744073709551616 := by simp [IntKind.wrap, IntKind.bits, IntKind.signed]
theorem cells1 {x : AV} (h : x.one = true) : x.cells = some [x] := by cases x <;> first | rfl | (simp [AV.one] at h)

theorem ld1_at {m : Mem} {b o : Nat} {cs : List AV} {ro : Bool} (h : m.get b = some (.cells cs ro)) : ld1 m (.ptr (some ⟨b, o⟩)) = cs[o]? := by simp only [ld1, h]
theorem ldN_at {m : Mem} {b o n : Nat} {cs : List AV} {ro : Bool} (h : m.get b = some (.cells cs ro)) (hl : o + n ≤ cs.length) : ldN m (.ptr (some ⟨b, o⟩)) n = some (.agg ((cs.drop o).take n)) := by simp [ldN, ldCells, h, hl]
theorem stV_at {m : Mem} {b o n : Nat} {cs vs : List AV} {v : AV} (h : m.get b = some (.cells cs false)) (hv : v.cells = some vs) (hn : vs.length = n) (hl : o + n ≤ cs.length) :
    stV m (.ptr (some ⟨b, o⟩)) v n = some (m.put b (some (.cells (cs.take o ++ vs ++ cs.drop (o + n)) false))) := by
  subst hn
  simp only [stV, hv, if_true, stCells, h, if_pos hl]
theorem agg_cells {cs : List AV} (h : cs.all AV.one = true) : (AV.agg cs).cells = some cs := by simp only [AV.cells, h, if_true]
theorem put_self {m : Mem} {b : Nat} {v : Blk} {w : Option Blk} (h : m.get b = some v) : (m.put b w).get b = w := by rw [Mem.get_put, if_pos ⟨rfl, Mem.get_lt h⟩]
theorem put_self' {m : Mem} {b : Nat} {w : Option Blk} (h : b < m.next) : (m.put b w).get b = w := by rw [Mem.get_put, if_pos ⟨rfl, h⟩]
theorem put_ne {m : Mem} {b c : Nat} {w : Option Blk} (h : c ≠ b) : (m.put b w).get c = m.get c := by rw [Mem.get_put, if_neg fun e => h e.1]
theorem lay_self (m : Mem) (v : Blk) : (m.lay v).get m.next = some v := by rw [Mem.get_lay, if_pos rfl]
theorem nth0 (a : AV) (l : List AV) : nth (a :: l) 0 = a := rfl
theorem nth1 (a b : AV) (l : List AV) : nth (a :: b :: l) 1 = b := rfl
theorem nth2 (a b c : AV) (l : List AV) : nth (a :: b :: c :: l) 2 = c := rfl
theorem nth3 (a b c d : AV) (l : List AV) : nth (a :: b :: c :: d :: l) 3 = d := rfl
theorem box_agg {cs : List AV} (h : cs.all AV.one = true) : boxA (.agg cs) = some (.cells cs false, fun b => .ptr (some ⟨b, 0⟩)) := by simp [boxA, agg_cells h]
theorem bs_agg {n : Nat} {zs cs : List AV} (h : cs.all AV.one = true) (hn : cs.length = n) (hz : zs.length = n) : bsA n 1 zs [(0, .agg cs)] = some (.cells cs false, fun b => .sl (some ⟨b, 0⟩) n 1 1 true) := by
  simp [bsA, fillA, agg_cells h, hn, hz]
theorem bs_one1 {x z : AV} (h : x.one = true) : bsA 1 1 [z] [(0, x)] = some (.cells [x] false, fun b => .sl (some ⟨b, 0⟩) 1 1 1 true) := by
  simp [bsA, fillA, cells1 h]
theorem lay_ne {m : Mem} {c : Nat} {v : Blk} (h : c ≠ m.next) : (m.lay v).get c = m.get c := by rw [Mem.get_lay, if_neg h]
end Go.Abs
end
section
namespace Go.Abs
open Go

def tabF (t : Nat) (kb vb : Option Nat) : List Nat := t :: (kb.toList ++ vb.toList)

structure TabAt {κ : Type} (ek : κ → AV) (n : Nat) (m : Mem) (t : Nat) (ks : List κ) (vs : List (List AV)) (most : Int) (F : List Nat) : Prop where
  ex : ∃ sk sv kb vb, m.get t = some (.cells [sk, sv, .int .i64 most] false) ∧ TRow 1 m sk (ks.map fun k => [ek k]) kb ∧ TRow n m sv vs vb ∧ kb ≠ some t ∧ vb ≠ some t ∧ (∀ b, kb = some b → vb ≠ some b) ∧ F = tabF t kb vb
  len : vs.length = ks.length

section
variable {κ : Type} {ek : κ → AV} {n : Nat} {m m' : Mem} {t : Nat} {ks : List κ} {vs : List (List AV)} {most : Int} {F S : List Nat}

theorem TabAt.frame (h : TabAt ek n m t ks vs most F) (hf : Fr m m' S) (hd : ∀ c, c ∈ F → c ∉ S) : TabAt ek n m' t ks vs most F := by
  obtain ⟨⟨sk, sv, kb, vb, h1, h2, h3, h4, h5, h6, rfl⟩, h7⟩ := h
  refine ⟨⟨sk, sv, kb, vb, hf.get h1 (hd _ (by simp [tabF])), h2.frame hf fun b hb => hd _ ?_, h3.frame hf fun b hb => hd _ ?_, h4, h5, h6, rfl⟩, h7⟩
  · subst hb; simp [tabF]
  · subst hb; simp [tabF]
theorem TabAt.lt (h : TabAt ek n m t ks vs most F) : ∀ c, c ∈ F → c < m.next := by
  obtain ⟨⟨sk, sv, kb, vb, h1, h2, h3, _, _, _, rfl⟩, _⟩ := h
  intro c hc
  simp only [tabF, List.mem_cons, List.mem_append, Option.mem_toList] at hc
  rcases hc with rfl | hc | hc
  · exact Mem.get_lt h1
  · have e : kb = some c := hc
    subst e; exact h2.lt
  · have e : vb = some c := hc
    subst e; exact h3.lt
theorem TabAt.mem (h : TabAt ek n m t ks vs most F) : t ∈ F := by
  obtain ⟨⟨sk, sv, kb, vb, _, _, _, _, _, _, rfl⟩, _⟩ := h
  simp [tabF]
theorem TabAt.new (hb : m.get t = some (.cells [.sl none 0 0 0 true, .sl none 0 0 0 true, .int .i64 most] false)) : TabAt ek n m t [] [] most [t] :=
  ⟨⟨_, _, none, none, hb, TRow.nil 1 m 0 true, TRow.nil n m 0 true, by simp, by simp, by simp, rfl⟩, rfl⟩

theorem TabAt.set (h : TabAt ek n m t ks vs most F) {i : Nat} (hi : i < ks.length) {v : List AV} (hv : v.length = n) (ho : v.all AV.one = true) :
    ∃ sk sv b m', m.get t = some (.cells [sk, sv, .int .i64 most] false) ∧ sv = .sl (some ⟨b, 0⟩) n vs.length vs.length false ∧ ixA n vs.length ⟨b, 0⟩ (i : Int) = some (.ptr (some ⟨b, i * n⟩)) ∧ stV m (.ptr (some ⟨b, i * n⟩)) (.agg v) n = some m' ∧ TabAt ek n m' t ks (vs.set i v) most F ∧ Fr m m' F := by
  obtain ⟨⟨sk, sv, kb, vb, h1, h2, h3, h4, h5, h6, rfl⟩, h7⟩ := h
  have hi' : i < vs.length := by omega
  obtain ⟨b, g1, g2, g3, g4, g5⟩ := h3.at hi'
  obtain ⟨b', e1, e2, e3⟩ := h3.st hi' hv ho
  rw [g1] at e1; cases e1
  subst g1
  refine ⟨sk, sv, b, _, h1, g2, g4, ?_, ⟨⟨sk, sv, kb, some b, ?_, ?_, e3, h4, h5, h6, rfl⟩, by simpa using h7⟩, ?_⟩
  · simp only [stV, agg_cells ho, hv, if_true, e2]
  · rw [put_ne (by rintro rfl; exact h5 rfl)]; exact h1
  · exact h2.frame (Fr.put m b _) fun c hc hm => by simp only [List.mem_singleton] at hm; subst hm; exact h6 _ hc rfl
  · exact (Fr.put m b _).mono fun c hc _ => by simp only [List.mem_singleton] at hc; subst hc; simp [tabF]

theorem TabAt.ins {P : Program} {st1 e1 st2 e2 : TypeId} {w1 w2 : Nat} {zs1 zs2 : List AV}
    (hst1 : P.underlying st1 = some (.slice e1)) (hsz1 : szT P e1 = some 1) (hw1 : bytesT P e1 = some w1) (hz1 : zeroA P e1 = some zs1) (hzl1 : zs1.length = 1) (hw01 : 0 < w1)
    (hst2 : P.underlying st2 = some (.slice e2)) (hsz2 : szT P e2 = some n) (hw2 : bytesT P e2 = some w2) (hz2 : zeroA P e2 = some zs2) (hzl2 : zs2.length = n) (hn : 0 < n) (hw02 : 0 < w2)
    (hek : ∀ k, (ek k).one = true) (h : TabAt ek n m t ks vs most F) {i : Nat} (hi : i ≤ ks.length) (hb : ks.length < 4096) (hww : w1 ≤ 4096 ∧ w2 ≤ 4096) {k : κ} {v : List AV} (hv : v.length = n) (ho : v.all AV.one = true) :
    ∃ sk sv sk' m2 sv' m5 F', m.get t = some (.cells [sk, sv, .int .i64 most] false) ∧
      insH P st1 [sk, .int .i64 i, .sl (some ⟨m.next, 0⟩) 1 1 1 true] (m.lay (.cells [ek k] false)) = some (sk', m2) ∧
      stV m2 (.ptr (some ⟨t, 0⟩)) sk' 1 = some (m2.put t (some (.cells [sk', sv, .int .i64 most] false))) ∧
      (m2.put t (some (.cells [sk', sv, .int .i64 most] false))).get t = some (.cells [sk', sv, .int .i64 most] false) ∧
      m2.next = m.next + 2 ∧
      insH P st2 [sv, .int .i64 i, .sl (some ⟨m2.next, 0⟩) n 1 1 true] ((m2.put t (some (.cells [sk', sv, .int .i64 most] false))).lay (.cells v false)) = some (sv', m5) ∧
      stV m5 (.ptr (some ⟨t, 1⟩)) sv' 1 = some (m5.put t (some (.cells [sk', sv', .int .i64 most] false))) ∧
      TabAt ek n (m5.put t (some (.cells [sk', sv', .int .i64 most] false))) t (insL i k ks) (insL i v vs) most F' ∧
      Fr m (m2.put t (some (.cells [sk', sv, .int .i64 most] false))) F ∧
      Fr m (m5.put t (some (.cells [sk', sv', .int .i64 most] false))) F ∧ ∀ c, c ∈ F' → c ∈ F ∨ m.next ≤ c := by
  obtain ⟨⟨sk, sv, kb, vb, h1, h2, h3, h4, h5, h6, rfl⟩, h7⟩ := h
  have htl := Mem.get_lt h1
  have hf1 : Fr m (m.lay (.cells [ek k] false)) [] := Fr.alloc m _
  have hkl : ∀ b, kb = some b → b < m.next := fun b e => by subst e; exact h2.lt
  have hvl : ∀ b, vb = some b → b < m.next := fun b e => by subst e; exact h3.lt
  obtain ⟨sk', m2, a1, a2, a3, a4⟩ := insH_row hst1 hsz1 hw1 hz1 hzl1 Nat.one_pos hw01 (h2.frame hf1 (by simp)) (xb := m.next) (new := [ek k]) (lay_self _ _) rfl (by simp [hek]) (fun e => by have := hkl _ e; omega) (i := i) (by simpa using hi) (by
    simp only [List.length_map]
    calc (ks.length + 1) * w1 ≤ 4096 * 4096 := Nat.mul_le_mul (by omega) hww.1
      _ ≤ maxBytes := by decide)
  have hf2 : Fr m m2 kb.toList := hf1.trans a4 (by simp) (by simp +contextual)
  have ht2 : m2.get t = some (.cells [sk, sv, .int .i64 most] false) := hf2.get h1 (by cases kb with
    | none => simp
    | some c => simp; intro e; exact h4 (by rw [e]))
  have hs1 := stV_at (v := sk') (o := 0) (n := 1) ht2 (cells1 a2.one) rfl (by simp)
  have hs1' : stV m2 (.ptr (some ⟨t, 0⟩)) sk' 1 = some (m2.put t (some (.cells [sk', sv, .int .i64 most] false))) := by simpa using hs1
  have hn2 : m2.next = m.next + 2 := by rw [a3]; rfl
  have hg3 : (m2.put t (some (.cells [sk', sv, .int .i64 most] false))).get t = some (.cells [sk', sv, .int .i64 most] false) := put_self ht2
  have hf3 : Fr m (m2.put t (some (.cells [sk', sv, .int .i64 most] false))) (t :: kb.toList) := (hf2.mono (T := t :: kb.toList) (by simp +contextual)).put' (by simp)
  have hf4 := hf3.lay (.cells v false)
  have hr4 : TRow n ((m2.put t (some (.cells [sk', sv, .int .i64 most] false))).lay (.cells v false)) sv vs vb := h3.frame hf4 (fun b e hm => by
    simp only [List.mem_cons, Option.mem_toList] at hm
    rcases hm with rfl | hm
    · exact h5 e
    · exact h6 b hm e)
  obtain ⟨sv', m5, b1, b2, b3, b4⟩ := insH_row hst2 hsz2 hw2 hz2 hzl2 hn hw02 hr4 (xb := m2.next) (new := v) (by have := lay_self (m2.put t (some (.cells [sk', sv, .int .i64 most] false))) (.cells v false); simpa using this) hv ho (fun e => by have := hvl _ e; omega) (i := i) (by omega) (by
    calc (vs.length + 1) * w2 ≤ 4096 * 4096 := Nat.mul_le_mul (by omega) hww.2
      _ ≤ maxBytes := by decide)
  have hf5 : Fr m m5 (tabF t kb vb) := (hf4.mono (T := tabF t kb vb) (by simp +contextual [tabF])).step b4 (fun c hc => .inl (by simp only [Option.mem_toList] at hc; simp [tabF, hc]))
  have ht5 : m5.get t = some (.cells [sk', sv, .int .i64 most] false) := b4.get (by rw [lay_ne (by simp; omega)]; exact hg3) (by cases vb with
    | none => simp
    | some c => simp; intro e; exact h5 (by rw [e]))
  have hs2 := stV_at (v := sv') (o := 1) (n := 1) ht5 (cells1 b2.one) rfl (by simp)
  have hs2' : stV m5 (.ptr (some ⟨t, 1⟩)) sv' 1 = some (m5.put t (some (.cells [sk', sv', .int .i64 most] false))) := by simpa using hs2
  have hk5 : TRow 1 (m5.put t (some (.cells [sk', sv', .int .i64 most] false))) sk' ((insL i k ks).map fun k => [ek k]) (some (m.next + 1)) := by
    have e : ((insL i k ks).map fun k => [ek k]) = (ks.map fun k => [ek k]).take i ++ [ek k] :: (ks.map fun k => [ek k]).drop i := by simp [insL]
    rw [e]
    have := a2.frame (((((Fr.refl' m2 [t]).put' (b := t) (v := some (.cells [sk', sv, .int .i64 most] false)) (by simp)).lay (.cells v false)).mono (T := t :: vb.toList) (by simp +contextual)).step b4 (fun c hc => .inl (by simp only [Option.mem_toList] at hc; simp [hc]))) (by
      intro b hb hm
      cases hb
      simp only [List.mem_cons, Option.mem_toList] at hm
      rcases hm with hm | hm
      · have : (m.lay (.cells [ek k] false)).next = m.next + 1 := rfl
        omega
      · have := hvl _ hm
        have e9 : (m.lay (.cells [ek k] false)).next = m.next + 1 := rfl
        omega)
    exact this.frame ((Fr.refl' m5 [t]).put' (b := t) (by simp)) (by
      intro b hb hm
      cases hb
      simp only [List.mem_singleton] at hm
      have : (m.lay (.cells [ek k] false)).next = m.next + 1 := rfl
      omega)
  have e9 : ((m2.put t (some (.cells [sk', sv, .int .i64 most] false))).lay (.cells v false)).next = m2.next + 1 := rfl
  refine ⟨sk, sv, sk', m2, sv', m5, tabF t (some (m.next + 1)) (some (m2.next + 1)), h1, a1, hs1', hg3, hn2, b1, hs2', ⟨⟨sk', sv', _, _, put_self ht5, hk5, ?_, ?_, ?_, ?_, rfl⟩, ?_⟩, hf3.mono (by simp +contextual [tabF]), hf5.put' (by simp [tabF]), ?_⟩
  · rw [← e9]
    exact b2.frame ((Fr.refl' m5 [t]).put' (b := t) (by simp)) (by
      intro b hb hm
      cases hb
      simp only [List.mem_singleton] at hm
      omega)
  · simp; omega
  · simp; omega
  · intro b hb e
    simp only [Option.some.injEq] at hb e
    omega
  · rw [insL_len (by omega), insL_len hi, h7]
  · intro c hc
    simp only [tabF, Option.toList_some, List.singleton_append, List.mem_cons, List.not_mem_nil, or_false] at hc
    rcases hc with rfl | rfl | rfl
    · exact .inl (by simp [tabF])
    · exact .inr (by omega)
    · exact .inr (by omega)
end
end Go.Abs
namespace Go.Abs
open Go
theorem TRow.key {κ : Type} {ek : κ → AV} {m : Mem} {s : AV} {ks : List κ} {rb : Option Nat} (h : TRow 1 m s (ks.map fun k => [ek k]) rb) {i : Nat} (hi : i < ks.length) :
    ∃ b, s = .sl (some ⟨b, 0⟩) 1 ks.length ks.length false ∧ ixA 1 ks.length ⟨b, 0⟩ (i : Int) = some (.ptr (some ⟨b, i⟩)) ∧ ld1 m (.ptr (some ⟨b, i⟩)) = some (ek ks[i]) := by
  obtain ⟨b, _, h2, h3, h4, _⟩ := h.at (i := i) (by simpa using hi)
  have e : (ks.map fun k => [ek k]).flatten = ks.map ek := by
    rw [← flat_single (l := ks.map ek), List.map_map]; rfl
  refine ⟨b, by simpa using h2, by simpa using h4, ?_⟩
  rw [ld1_at h3, e, List.getElem?_map, List.getElem?_eq_getElem hi]; rfl
theorem TRow.val {n : Nat} {m : Mem} {s : AV} {vs : List (List AV)} {rb : Option Nat} (h : TRow n m s vs rb) {i : Nat} (hi : i < vs.length) :
    ∃ b, s = .sl (some ⟨b, 0⟩) n vs.length vs.length false ∧ ixA n vs.length ⟨b, 0⟩ (i : Int) = some (.ptr (some ⟨b, i * n⟩)) ∧ ldN m (.ptr (some ⟨b, i * n⟩)) n = some (.agg vs[i]) := by
  obtain ⟨b, _, h2, _, h4, h5⟩ := h.at hi
  exact ⟨b, h2, h4, by simp [ldN, h5]⟩
theorem TRow.klen {κ : Type} {ek : κ → AV} {m : Mem} {s : AV} {ks : List κ} {rb : Option Nat} (h : TRow 1 m s (ks.map fun k => [ek k]) rb) : ∃ a sz cap ex, s = .sl a sz ks.length cap ex := by
  obtain ⟨a, sz, cap, ex, e⟩ := h.len
  exact ⟨a, sz, cap, ex, by simpa using e⟩
theorem ld_all {m : Mem} {b n : Nat} {v : List AV} {ro : Bool} (h : m.get b = some (.cells v ro)) (hv : v.length = n) : ldN m (.ptr (some ⟨b, 0⟩)) n = some (.agg v) := by
  rw [ldN_at h (by omega), List.drop_zero, List.take_of_length_le (by omega)]
theorem st_all {m : Mem} {b n : Nat} {cs v : List AV} (h : m.get b = some (.cells cs false)) (hc : cs.length = n) (hv : v.length = n) (ho : v.all AV.one = true) : stV m (.ptr (some ⟨b, 0⟩)) (.agg v) n = some (m.put b (some (.cells v false))) := by
  rw [stV_at h (agg_cells ho) hv (by omega), List.take_zero, List.nil_append, List.drop_eq_nil_of_le (by omega), List.append_nil]
theorem box_agg1 {cs : List AV} (h : cs.all AV.one = true) : boxA (.agg cs) = some (.cells cs false, fun b => .ptr (some ⟨b, 0⟩)) := box_agg h
def putK {κ : Type} [DecidableEq κ] (lt : κ → κ → Bool) (k : κ) (ks : List κ) (most : Int) : List κ :=
  if hasK lt k ks = true then ks else if (ks.length : Int) < most then insL (lb lt k ks) k ks else ks
def putV {κ α : Type} [DecidableEq κ] (lt : κ → κ → Bool) (k : κ) (ks : List κ) (v : α) (vs : List α) (most : Int) : List α :=
  if hasK lt k ks = true then vs.set (lb lt k ks) v else if (ks.length : Int) < most then insL (lb lt k ks) v vs else vs
theorem lb_end {κ : Type} {lt : κ → κ → Bool} {k : κ} {ks : List κ} (h : ∀ x ∈ ks, lt x k = true) : lb lt k ks = ks.length :=
  lb_unique (Nat.le_refl _) (fun j hj _ => h _ (List.getElem_mem hj)) (fun hj => absurd hj (Nat.lt_irrefl _))
theorem has_end {κ : Type} [DecidableEq κ] {lt : κ → κ → Bool} {k : κ} {ks : List κ} (h : ∀ x ∈ ks, lt x k = true) : hasK lt k ks = false := by
  simp [hasK, lb_end h]
theorem insL_end {α : Type} (x : α) (l : List α) : insL l.length x l = l ++ [x] := by simp [insL]
end Go.Abs
end
section
namespace Go.Abs
open Go

structure Wd where
  hi : Int
  lo : Int
  deriving DecidableEq
def Wd.cells (w : Wd) : List AV := [.int .i64 w.hi, .int .u64 w.lo]
structure PurseV where
  name : List UInt8
  scale : Int
  out : Wd
  deriving DecidableEq
def PurseV.cells (p : PurseV) : List AV := [.str p.name, .int .i64 p.scale, .int .i64 p.out.hi, .int .u64 p.out.lo]
structure PairV where
  x : List UInt8
  y : List UInt8
  rate : Wd
  rscale : Int
  inx : Wd
  outy : Wd
  deriving DecidableEq
def PairV.cells (p : PairV) : List AV := [.str p.x, .str p.y, .int .i64 p.rate.hi, .int .u64 p.rate.lo, .int .i64 p.rscale, .int .i64 p.inx.hi, .int .u64 p.inx.lo, .int .i64 p.outy.hi, .int .u64 p.outy.lo]
def PairV.key (p : PairV) : List UInt8 := p.x ++ p.y
structure AccV where
  id : Int
  coin : List UInt8
  bal : Wd
  deriving DecidableEq
def AccV.cells (a : AccV) : List AV := [.int .u64 a.id, .str a.coin, .int .i64 a.bal.hi, .int .u64 a.bal.lo]
structure LSt where
  purses : List PurseV
  pairs : List PairV
  accs : List AccV
  latest : Int
  most : Int

@[simp] theorem PurseV.cells_len (p : PurseV) : p.cells.length = 4 := rfl
@[simp] theorem PairV.cells_len (p : PairV) : p.cells.length = 9 := rfl
@[simp] theorem AccV.cells_len (p : AccV) : p.cells.length = 4 := rfl
theorem PurseV.cells_one (p : PurseV) : p.cells.all AV.one = true := rfl
theorem PairV.cells_one (p : PairV) : p.cells.all AV.one = true := rfl
theorem AccV.cells_one (p : AccV) : p.cells.all AV.one = true := rfl

def Dj (a b : List Nat) : Prop := ∀ c, c ∈ a → c ∉ b
theorem Dj.symm {a b : List Nat} (h : Dj a b) : Dj b a := fun c h1 h2 => h c h2 h1
theorem Dj.step {a a' b : List Nat} {n : Nat} (h : Dj a b) (ha : ∀ c, c ∈ a' → c ∈ a ∨ n ≤ c) (hb : ∀ c, c ∈ b → c < n) : Dj a' b := fun c h1 h2 => by
  rcases ha c h1 with h3 | h3
  · exact h c h3 h2
  · have := hb c h2; omega

structure LedgerAt (m : Mem) (b : Nat) (st : LSt) (F : List Nat) : Prop where
  ex : ∃ tp tq ta FP FQ FA, m.get b = some (.cells [.int .i64 st.most, .ptr (some ⟨tp, 0⟩), .ptr (some ⟨tq, 0⟩), .ptr (some ⟨ta, 0⟩), .int .u64 st.latest] false) ∧
    TabAt .str 4 m tp (st.purses.map (·.name)) (st.purses.map (·.cells)) 8 FP ∧ TabAt .str 9 m tq (st.pairs.map (·.key)) (st.pairs.map (·.cells)) 64 FQ ∧
    TabAt (.int .u64) 4 m ta (st.accs.map (·.id)) (st.accs.map (·.cells)) st.most FA ∧ b ∉ FP ∧ b ∉ FQ ∧ b ∉ FA ∧ Dj FP FQ ∧ Dj FP FA ∧ Dj FQ FA ∧ F = b :: (FP ++ FQ ++ FA)

section
variable {m m' : Mem} {b : Nat} {st : LSt} {F S : List Nat}
theorem LedgerAt.frame (h : LedgerAt m b st F) (hf : Fr m m' S) (hd : ∀ c, c ∈ F → c ∉ S) : LedgerAt m' b st F := by
  obtain ⟨tp, tq, ta, FP, FQ, FA, h1, h2, h3, h4, h5, h6, h7, h8, h9, h10, rfl⟩ := h.ex
  exact ⟨tp, tq, ta, FP, FQ, FA, hf.get h1 (hd _ (by simp)), h2.frame hf (fun c hc => hd c (by simp [hc])), h3.frame hf (fun c hc => hd c (by simp [hc])), h4.frame hf (fun c hc => hd c (by simp [hc])), h5, h6, h7, h8, h9, h10, rfl⟩
theorem LedgerAt.frame0 (h : LedgerAt m b st F) (hf : Fr m m' []) : LedgerAt m' b st F := h.frame hf (by simp)
theorem LedgerAt.lt (h : LedgerAt m b st F) : ∀ c, c ∈ F → c < m.next := by
  obtain ⟨tp, tq, ta, FP, FQ, FA, h1, h2, h3, h4, h5, h6, h7, h8, h9, h10, rfl⟩ := h.ex
  intro c hc
  simp only [List.mem_cons, List.mem_append] at hc
  rcases hc with rfl | (hc | hc) | hc
  · exact Mem.get_lt h1
  · exact h2.lt c hc
  · exact h3.lt c hc
  · exact h4.lt c hc

theorem LedgerAt.purses {tp tq ta : Nat} {FP FQ FA FP' : List Nat} {ps : List PurseV}
    (h1 : m.get b = some (.cells [.int .i64 st.most, .ptr (some ⟨tp, 0⟩), .ptr (some ⟨tq, 0⟩), .ptr (some ⟨ta, 0⟩), .int .u64 st.latest] false))
    (h2 : TabAt .str 4 m tp (st.purses.map (·.name)) (st.purses.map (·.cells)) 8 FP) (h3 : TabAt .str 9 m tq (st.pairs.map (·.key)) (st.pairs.map (·.cells)) 64 FQ) (h4 : TabAt (.int .u64) 4 m ta (st.accs.map (·.id)) (st.accs.map (·.cells)) st.most FA)
    (h5 : b ∉ FP) (h6 : b ∉ FQ) (h7 : b ∉ FA) (h8 : Dj FP FQ) (h9 : Dj FP FA) (h10 : Dj FQ FA)
    (hf : Fr m m' FP) (ht : TabAt .str 4 m' tp (ps.map (·.name)) (ps.map (·.cells)) 8 FP') (hs : ∀ c, c ∈ FP' → c ∈ FP ∨ m.next ≤ c) :
    ∃ F', LedgerAt m' b { st with purses := ps } F' ∧ Fr m m' (b :: (FP ++ FQ ++ FA)) ∧ ∀ c, c ∈ F' → c ∈ b :: (FP ++ FQ ++ FA) ∨ m.next ≤ c := by
  refine ⟨b :: (FP' ++ FQ ++ FA), ⟨tp, tq, ta, FP', FQ, FA, hf.get h1 h5, ht, h3.frame hf h8.symm, h4.frame hf h9.symm, ?_, h6, h7, h8.step hs h3.lt, h9.step hs h4.lt, h10, rfl⟩, hf.mono (by simp +contextual), ?_⟩
  · intro hb
    rcases hs b hb with h | h
    · exact h5 h
    · have := Mem.get_lt h1; omega
  · intro c hc
    simp only [List.mem_cons, List.mem_append] at hc ⊢
    rcases hc with rfl | (hc | hc) | hc
    · exact .inl (.inl rfl)
    · rcases hs c hc with h | h
      · exact .inl (.inr (.inl (.inl h)))
      · exact .inr h
    · exact .inl (.inr (.inl (.inr hc)))
    · exact .inl (.inr (.inr hc))
theorem LedgerAt.accs {tp tq ta : Nat} {FP FQ FA FA' : List Nat} {az : List AccV}
    (h1 : m.get b = some (.cells [.int .i64 st.most, .ptr (some ⟨tp, 0⟩), .ptr (some ⟨tq, 0⟩), .ptr (some ⟨ta, 0⟩), .int .u64 st.latest] false))
    (h2 : TabAt .str 4 m tp (st.purses.map (·.name)) (st.purses.map (·.cells)) 8 FP) (h3 : TabAt .str 9 m tq (st.pairs.map (·.key)) (st.pairs.map (·.cells)) 64 FQ) (h4 : TabAt (.int .u64) 4 m ta (st.accs.map (·.id)) (st.accs.map (·.cells)) st.most FA)
    (h5 : b ∉ FP) (h6 : b ∉ FQ) (h7 : b ∉ FA) (h8 : Dj FP FQ) (h9 : Dj FP FA) (h10 : Dj FQ FA)
    (hf : Fr m m' FA) (ht : TabAt (.int .u64) 4 m' ta (az.map (·.id)) (az.map (·.cells)) st.most FA') (hs : ∀ c, c ∈ FA' → c ∈ FA ∨ m.next ≤ c) :
    ∃ F', LedgerAt m' b { st with accs := az } F' ∧ Fr m m' (b :: (FP ++ FQ ++ FA)) ∧ ∀ c, c ∈ F' → c ∈ b :: (FP ++ FQ ++ FA) ∨ m.next ≤ c := by
  refine ⟨b :: (FP ++ FQ ++ FA'), ⟨tp, tq, ta, FP, FQ, FA', hf.get h1 h7, h2.frame hf h9, h3.frame hf h10, ht, h5, h6, ?_, h8, (h9.symm.step hs h2.lt).symm, (h10.symm.step hs h3.lt).symm, rfl⟩, hf.mono (by simp +contextual), ?_⟩
  · intro hb
    rcases hs b hb with h | h
    · exact h7 h
    · have := Mem.get_lt h1; omega
  · intro c hc
    simp only [List.mem_cons, List.mem_append] at hc ⊢
    rcases hc with rfl | (hc | hc) | hc
    · exact .inl (.inl rfl)
    · exact .inl (.inr (.inl (.inl hc)))
    · exact .inl (.inr (.inl (.inr hc)))
    · rcases hs c hc with h | h
      · exact .inl (.inr (.inr h))
      · exact .inr h
theorem LedgerAt.pairs {tp tq ta : Nat} {FP FQ FA FQ' : List Nat} {qs : List PairV}
    (h1 : m.get b = some (.cells [.int .i64 st.most, .ptr (some ⟨tp, 0⟩), .ptr (some ⟨tq, 0⟩), .ptr (some ⟨ta, 0⟩), .int .u64 st.latest] false))
    (h2 : TabAt .str 4 m tp (st.purses.map (·.name)) (st.purses.map (·.cells)) 8 FP) (h3 : TabAt .str 9 m tq (st.pairs.map (·.key)) (st.pairs.map (·.cells)) 64 FQ) (h4 : TabAt (.int .u64) 4 m ta (st.accs.map (·.id)) (st.accs.map (·.cells)) st.most FA)
    (h5 : b ∉ FP) (h6 : b ∉ FQ) (h7 : b ∉ FA) (h8 : Dj FP FQ) (h9 : Dj FP FA) (h10 : Dj FQ FA)
    (hf : Fr m m' FQ) (ht : TabAt .str 9 m' tq (qs.map (·.key)) (qs.map (·.cells)) 64 FQ') (hs : ∀ c, c ∈ FQ' → c ∈ FQ ∨ m.next ≤ c) :
    ∃ F', LedgerAt m' b { st with pairs := qs } F' ∧ Fr m m' (b :: (FP ++ FQ ++ FA)) ∧ ∀ c, c ∈ F' → c ∈ b :: (FP ++ FQ ++ FA) ∨ m.next ≤ c := by
  refine ⟨b :: (FP ++ FQ' ++ FA), ⟨tp, tq, ta, FP, FQ', FA, hf.get h1 h6, h2.frame hf h8, ht, h4.frame hf h10.symm, h5, ?_, h7, (h8.symm.step hs h2.lt).symm, h9, h10.step hs h4.lt, rfl⟩, hf.mono (by simp +contextual), ?_⟩
  · intro hb
    rcases hs b hb with h | h
    · exact h6 h
    · have := Mem.get_lt h1; omega
  · intro c hc
    simp only [List.mem_cons, List.mem_append] at hc ⊢
    rcases hc with rfl | (hc | hc) | hc
    · exact .inl (.inl rfl)
    · exact .inl (.inr (.inl (.inl hc)))
    · rcases hs c hc with h | h
      · exact .inl (.inr (.inl (.inr h)))
      · exact .inr h
    · exact .inl (.inr (.inr hc))
end

theorem LedgerAt.latest {m : Mem} {b : Nat} {st : LSt} {tp tq ta : Nat} {FP FQ FA : List Nat} (n : Int)
    (h1 : m.get b = some (.cells [.int .i64 st.most, .ptr (some ⟨tp, 0⟩), .ptr (some ⟨tq, 0⟩), .ptr (some ⟨ta, 0⟩), .int .u64 st.latest] false))
    (h2 : TabAt .str 4 m tp (st.purses.map (·.name)) (st.purses.map (·.cells)) 8 FP) (h3 : TabAt .str 9 m tq (st.pairs.map (·.key)) (st.pairs.map (·.cells)) 64 FQ) (h4 : TabAt (.int .u64) 4 m ta (st.accs.map (·.id)) (st.accs.map (·.cells)) st.most FA)
    (h5 : b ∉ FP) (h6 : b ∉ FQ) (h7 : b ∉ FA) {m' : Mem} (hm : m' = m.put b (some (.cells [.int .i64 st.most, .ptr (some ⟨tp, 0⟩), .ptr (some ⟨tq, 0⟩), .ptr (some ⟨ta, 0⟩), .int .u64 n] false))) :
    stV m (.ptr (some ⟨b, 4⟩)) (.int .u64 n) 1 = some m' ∧ Fr m m' [b] ∧ m'.get b = some (.cells [.int .i64 st.most, .ptr (some ⟨tp, 0⟩), .ptr (some ⟨tq, 0⟩), .ptr (some ⟨ta, 0⟩), .int .u64 n] false) ∧
      TabAt .str 4 m' tp (st.purses.map (·.name)) (st.purses.map (·.cells)) 8 FP ∧ TabAt .str 9 m' tq (st.pairs.map (·.key)) (st.pairs.map (·.cells)) 64 FQ ∧ TabAt (.int .u64) 4 m' ta (st.accs.map (·.id)) (st.accs.map (·.cells)) st.most FA := by
  subst hm
  have hf := Fr.put m b (some (.cells [.int .i64 st.most, .ptr (some ⟨tp, 0⟩), .ptr (some ⟨tq, 0⟩), .ptr (some ⟨ta, 0⟩), .int .u64 n] false))
  refine ⟨?_, hf, put_self h1, h2.frame hf ?_, h3.frame hf ?_, h4.frame hf ?_⟩
  · have := stV_at (v := .int .u64 n) (o := 4) (n := 1) h1 rfl rfl (by simp)
    simpa using this
  · intro c hc hm; simp only [List.mem_singleton] at hm; subst hm; exact h5 hc
  · intro c hc hm; simp only [List.mem_singleton] at hm; subst hm; exact h6 hc
  · intro c hc hm; simp only [List.mem_singleton] at hm; subst hm; exact h7 hc

theorem insL_map {α β : Type} (f : α → β) (i : Nat) (x : α) (l : List α) : (insL i x l).map f = insL i (f x) (l.map f) := by simp [insL]

def nameB (s : List UInt8) : Bool := s.all (fun c => decide (65 ≤ c.toNat) && decide (c.toNat ≤ 90)) && decide (s.length = 3)

def coinF (st : LSt) (name : List UInt8) (scale : Int) : Int × LSt :=
  if nameB name = false then (41, st) else if 18 < scale then (21, st) else if hasK strLess name (st.purses.map (·.name)) = true then (45, st)
  else if 8 ≤ st.purses.length then (2, st) else (0, { st with purses := insL (lb strLess name (st.purses.map (·.name))) ⟨name, scale, ⟨0, 0⟩⟩ st.purses })
def openF (st : LSt) (name : List UInt8) : Int × Int × LSt :=
  if hasK strLess name (st.purses.map (·.name)) = false then (0, 41, st) else if st.most ≤ st.accs.length ∨ 72057594037927935 ≤ st.latest then (0, 2, st)
  else (st.latest + 1, 0, { st with latest := st.latest + 1, accs := st.accs ++ [⟨st.latest + 1, name, ⟨0, 0⟩⟩] })
end Go.Abs
end
section
namespace Go.Abs
open Go

theorem PT.setN_zero (f : Nat) (t : PT) (v : Option Blk) : PT.setN f t 0 v = .node v t.lft t.rgt := by
  cases f with
  | zero => rfl
  | succ f => rw [PT.setN_succ, if_pos rfl]
theorem PT.setN_fuel : ∀ (f g : Nat) (t : PT) (k : Nat) (v : Option Blk), k ≤ f → k ≤ g → PT.setN f t k v = PT.setN g t k v
  | 0, g, t, k, v, h, _ => by
    have : k = 0 := by omega
    subst this; rw [PT.setN_zero, PT.setN_zero]
  | f + 1, 0, t, k, v, _, h => by
    have : k = 0 := by omega
    subst this; rw [PT.setN_zero, PT.setN_zero]
  | f + 1, g + 1, t, k, v, h, h' => by
    rw [PT.setN_succ, PT.setN_succ]
    by_cases h0 : k = 0
    · rw [if_pos h0, if_pos h0]
    · rw [if_neg h0, if_neg h0, PT.setN_fuel f g t.lft (k / 2) v (by omega) (by omega), PT.setN_fuel f g t.rgt (k / 2 - 1) v (by omega) (by omega)]
theorem PT.set_zero (t : PT) (v : Option Blk) : t.set 0 v = .node v t.lft t.rgt := PT.setN_zero 0 t v
theorem PT.set_odd (t : PT) {k : Nat} (h : k % 2 = 1) (v : Option Blk) : t.set k v = .node t.val (t.lft.set (k / 2) v) t.rgt := by
  obtain ⟨j, rfl⟩ : ∃ j, k = j + 1 := ⟨k - 1, by omega⟩
  unfold PT.set
  rw [PT.setN_succ, if_neg (by omega), if_pos h, PT.setN_fuel j ((j + 1) / 2) _ _ _ (by omega) (by omega)]
theorem PT.set_even (t : PT) {k : Nat} (h0 : k ≠ 0) (h : k % 2 ≠ 1) (v : Option Blk) : t.set k v = .node t.val t.lft (t.rgt.set (k / 2 - 1) v) := by
  obtain ⟨j, rfl⟩ : ∃ j, k = j + 1 := ⟨k - 1, by omega⟩
  unfold PT.set
  rw [PT.setN_succ, if_neg (by omega), if_neg h, PT.setN_fuel j ((j + 1) / 2 - 1) _ _ _ (by omega) (by omega)]
theorem PT.lft_node (v : Option Blk) (l r : PT) : (PT.node v l r).lft = l := rfl
theorem PT.rgt_node (v : Option Blk) (l r : PT) : (PT.node v l r).rgt = r := rfl
theorem PT.val_node (v : Option Blk) (l r : PT) : (PT.node v l r).val = v := rfl
theorem PT.set_set (k : Nat) : ∀ (t : PT) (a b : Option Blk), (t.set k a).set k b = t.set k b := by
  induction k using Nat.strongRecOn with
  | _ k ih =>
    intro t a b
    by_cases h0 : k = 0
    · subst h0; rw [PT.set_zero, PT.set_zero, PT.set_zero, PT.lft_node, PT.rgt_node]
    · by_cases h1 : k % 2 = 1
      · rw [PT.set_odd t h1, PT.set_odd _ h1, PT.set_odd t h1, PT.lft_node, PT.rgt_node, PT.val_node, ih (k / 2) (by omega)]
      · rw [PT.set_even t h0 h1, PT.set_even _ h0 h1, PT.set_even t h0 h1, PT.lft_node, PT.rgt_node, PT.val_node, ih (k / 2 - 1) (by omega)]
theorem PT.set_comm (k : Nat) : ∀ (j : Nat) (t : PT) (a b : Option Blk), k ≠ j → (t.set k a).set j b = (t.set j b).set k a := by
  induction k using Nat.strongRecOn with
  | _ k ih =>
    intro j t a b hkj
    by_cases h0 : k = 0
    · subst h0
      have hj : j ≠ 0 := fun e => hkj e.symm
      by_cases h1 : j % 2 = 1
      · simp only [PT.set_zero, PT.set_odd _ h1, PT.lft_node, PT.rgt_node, PT.val_node]
      · simp only [PT.set_zero, PT.set_even _ hj h1, PT.lft_node, PT.rgt_node, PT.val_node]
    · by_cases hj : j = 0
      · subst hj
        by_cases h1 : k % 2 = 1
        · simp only [PT.set_zero, PT.set_odd _ h1, PT.lft_node, PT.rgt_node, PT.val_node]
        · simp only [PT.set_zero, PT.set_even _ h0 h1, PT.lft_node, PT.rgt_node, PT.val_node]
      · by_cases h1 : k % 2 = 1 <;> by_cases h2 : j % 2 = 1
        · simp only [PT.set_odd _ h1, PT.set_odd _ h2, PT.lft_node, PT.rgt_node, PT.val_node]
          rw [ih (k / 2) (by omega) (j / 2) _ _ _ (by omega)]
        · simp only [PT.set_odd _ h1, PT.set_even _ hj h2, PT.lft_node, PT.rgt_node, PT.val_node]
        · simp only [PT.set_even _ h0 h1, PT.set_odd _ h2, PT.lft_node, PT.rgt_node, PT.val_node]
        · simp only [PT.set_even _ h0 h1, PT.set_even _ hj h2, PT.lft_node, PT.rgt_node, PT.val_node]
          rw [ih (k / 2 - 1) (by omega) (j / 2 - 1) _ _ _ (by omega)]

theorem put_lay (m : Mem) (v w : Blk) : (m.lay v).put m.next (some w) = m.lay w := by
  simp only [Mem.put, Mem.lay, PT.set_set]
theorem put_lay_ne {m : Mem} {b : Nat} (h : b ≠ m.next) (v : Blk) (w : Option Blk) : (m.lay v).put b w = (m.put b w).lay v := by
  simp only [Mem.put, Mem.lay]
  rw [PT.set_comm _ _ _ _ _ (fun e => h e.symm)]

theorem ld1_lay (m : Mem) (cs : List AV) (ro : Bool) (b o : Nat) : ld1 (m.lay (.cells cs ro)) (.ptr (some ⟨b, o⟩)) = if b = m.next then cs[o]? else ld1 m (.ptr (some ⟨b, o⟩)) := by
  simp only [ld1, Mem.get_lay]
  by_cases h : b = m.next <;> simp [h]
theorem ldN_lay (m : Mem) (cs : List AV) (ro : Bool) (b o n : Nat) : ldN (m.lay (.cells cs ro)) (.ptr (some ⟨b, o⟩)) n = if b = m.next then (if o + n ≤ cs.length then some (.agg ((cs.drop o).take n)) else none) else ldN m (.ptr (some ⟨b, o⟩)) n := by
  simp only [ldN, ldCells, Mem.get_lay]
  by_cases h : b = m.next
  · simp only [h, if_true]; split <;> simp_all
  · simp [h]
def over (cs : List AV) (o : Nat) (v : AV) (n : Nat) : Option (List AV) :=
  match v.cells with
  | some vs => if vs.length = n then if o + n ≤ cs.length then some (cs.take o ++ vs ++ cs.drop (o + n)) else none else none
  | none => none
theorem stV_lay (m : Mem) (cs : List AV) (b o : Nat) (v : AV) (n : Nat) : stV (m.lay (.cells cs false)) (.ptr (some ⟨b, o⟩)) v n =
    if b = m.next then (over cs o v n).map (fun c => m.lay (.cells c false)) else (stV m (.ptr (some ⟨b, o⟩)) v n).map (fun m' => m'.lay (.cells cs false)) := by
  unfold over
  by_cases h : b = m.next
  · subst h
    simp only [stV, stCells, lay_self, if_true]
    cases hv : v.cells with
    | none => rfl
    | some vs =>
      simp only
      by_cases hn : vs.length = n
      · subst hn
        simp only [if_true]
        by_cases hl : o + vs.length ≤ cs.length
        · simp only [if_pos hl, put_lay, Option.map_some]
        · simp only [if_neg hl, Option.map_none]
      · simp only [if_neg hn, Option.map_none]
  · simp only [stV, stCells, lay_ne h, if_neg h]
    cases hv : v.cells with
    | none => rfl
    | some vs =>
      simp only
      by_cases hn : vs.length = n
      · simp only [if_pos hn]
        cases hg : m.get b with
        | none => rfl
        | some blk =>
          cases blk with
          | cells c ro =>
            cases ro with
            | true => rfl
            | false =>
              simp only
              by_cases hl : o + vs.length ≤ c.length
              · simp only [if_pos hl, put_lay_ne h, Option.map_some]
              · simp only [if_neg hl, Option.map_none]
          | loop _ => rfl
          | map _ => rfl
          | rmap _ _ => rfl
          | iter _ _ _ => rfl
      · simp only [if_neg hn, Option.map_none]
theorem nn1 (n : Nat) : (n = n + 1) = False := by simp
theorem nn2 (n : Nat) : (n = n + 1 + 1) = False := by simp; omega
theorem nn3 (n : Nat) : (n = n + 1 + 1 + 1) = False := by simp; omega
theorem nn4 (n : Nat) : (n = n + 1 + 1 + 1 + 1) = False := by simp; omega
theorem nn5 (n : Nat) : (n = n + 1 + 1 + 1 + 1 + 1) = False := by simp; omega
theorem nn6 (n : Nat) : (n = n + 1 + 1 + 1 + 1 + 1 + 1) = False := by simp; omega
theorem nn7 (n : Nat) : (n = n + 1 + 1 + 1 + 1 + 1 + 1 + 1) = False := by simp; omega
theorem nn8 (n : Nat) : (n = n + 1 + 1 + 1 + 1 + 1 + 1 + 1 + 1) = False := by simp; omega

def Res (m : Mem) (r : R) (v : AV) : Prop := ∃ m', r = some (v, m') ∧ Fr m m' []
theorem Res.of {m m' : Mem} {v : AV} (h : Fr m m' []) : Res m (some (v, m')) v := ⟨m', rfl, h⟩
theorem Res.eq {m m' : Mem} {v w : AV} (h : Fr m m' []) (e : v = w) : Res m (some (v, m')) w := ⟨m', by rw [e], h⟩
theorem Fr.lays (m m1 : Mem) (v : Blk) (h : Fr m m1 []) : Fr m (m1.lay v) [] := h.lay v

def Wd.ok (w : Wd) : Prop := -9223372036854775808 ≤ w.hi ∧ w.hi < 9223372036854775808 ∧ 0 ≤ w.lo ∧ w.lo < 18446744073709551616
def Wd.val (w : Wd) : Int := w.hi * 18446744073709551616 + w.lo
def Wd.of (n : Int) : Wd := ⟨n / 18446744073709551616, n % 18446744073709551616⟩
def fitsW (n : Int) : Bool := decide (-170141183460469231731687303715884105728 ≤ n) && decide (n < 170141183460469231731687303715884105728)
def Wd.res (n : Int) : Wd × Int := if fitsW n = true then (.of n, 0) else (⟨0, 0⟩, 20)
theorem Wd.of_ok {n : Int} (h : fitsW n = true) : (Wd.of n).ok := by
  simp only [fitsW, Bool.and_eq_true, decide_eq_true_eq] at h
  unfold Wd.ok Wd.of; simp only; omega
theorem Wd.of_val (n : Int) : (Wd.of n).val = n := by unfold Wd.val Wd.of; simp only; omega
theorem Wd.val_fits {w : Wd} (h : w.ok) : fitsW w.val = true := by
  obtain ⟨h1, h2, h3, h4⟩ := h
  unfold fitsW
  rw [Bool.and_eq_true]
  exact ⟨decide_eq_true (by unfold Wd.val; omega), decide_eq_true (by unfold Wd.val; omega)⟩
theorem Wd.ext_val {a b : Wd} (ha : a.ok) (hb : b.ok) (h : a.val = b.val) : a = b := by
  obtain ⟨ah, al⟩ := a
  obtain ⟨bh, bl⟩ := b
  simp only [Wd.ok, Wd.val] at *
  have e1 : ah = bh := by omega
  have e2 : al = bl := by omega
  rw [e1, e2]
theorem Wd.of_of {w : Wd} (h : w.ok) : Wd.of w.val = w := Wd.ext_val (Wd.of_ok (Wd.val_fits h)) h (Wd.of_val _)
theorem wrap_i64_if (x : Int) : IntKind.wrap .i64 x = if x % 18446744073709551616 ≥ 9223372036854775808 then x % 18446744073709551616 - 18446744073709551616 else x % 18446744073709551616 := by
  simp [IntKind.wrap, IntKind.bits, IntKind.signed]
theorem res_ok {hi lo n : Int} (h : fitsW n = true) (hl : 0 ≤ lo ∧ lo < 18446744073709551616) (e : hi * 18446744073709551616 + lo = n) :
    AV.tup [.agg [.int .i64 hi, .int .u64 lo], .int .i64 0] = .tup [.agg (Wd.res n).1.cells, .int .i64 (Wd.res n).2] := by
  have e1 : hi = n / 18446744073709551616 := by omega
  have e2 : lo = n % 18446744073709551616 := by omega
  unfold Wd.res
  rw [if_pos h, e1, e2]; rfl
theorem res_over {n : Int} (h : fitsW n = false) : AV.tup [.agg [.int .i64 0, .int .u64 0], .int .i64 20] = .tup [.agg (Wd.res n).1.cells, .int .i64 (Wd.res n).2] := by
  unfold Wd.res
  rw [h]; rfl
theorem fits_true {n : Int} (h1 : -170141183460469231731687303715884105728 ≤ n) (h2 : n < 170141183460469231731687303715884105728) : fitsW n = true := by
  unfold fitsW; rw [decide_eq_true h1, decide_eq_true h2]; rfl
theorem fits_false {n : Int} (h : n < -170141183460469231731687303715884105728 ∨ 170141183460469231731687303715884105728 ≤ n) : fitsW n = false := by
  unfold fitsW
  rcases h with h | h
  · rw [decide_eq_false (by omega)]; rfl
  · rw [decide_eq_false (show ¬ n < 170141183460469231731687303715884105728 by omega), Bool.and_false]
end Go.Abs
end
