/- Texts of one claim, put together. -/
import Derived.Test.YtolmealocdgdhaaGreatK8
import Derived.KernelRfl
section
namespace Go.Proofs.YtolmealocdgdhaaGreat.U
open Go Go.Abs Go.Proofs.YtolmealocdgdhaaGreat
set_option maxRecDepth 20000
set_option maxHeartbeats 4000000
noncomputable def t182 : Tr Tryz.prog 182 Tryz.f182 hint182 := ⟨_, fun O => by conv => rhs; reduce⟩
noncomputable def t183 : Tr Tryz.prog 183 Tryz.f183 hint183 := ⟨_, fun O => by conv => rhs; reduce⟩
noncomputable def t184 : Tr Tryz.prog 184 Tryz.f184 hint184 := ⟨_, fun O => by conv => rhs; reduce⟩
noncomputable def t185 : Tr Tryz.prog 185 Tryz.f185 hint185 := ⟨_, fun O => by conv => rhs; reduce⟩
noncomputable def t186 : Tr Tryz.prog 186 Tryz.f186 hint186 := ⟨_, fun O => by conv => rhs; reduce⟩
noncomputable def t187 : Tr Tryz.prog 187 Tryz.f187 hint187 := ⟨_, fun O => by conv => rhs; reduce⟩
noncomputable def t188 : Tr Tryz.prog 188 Tryz.f188 hint188 := ⟨_, fun O => by conv => rhs; reduce⟩
noncomputable def t189 : Tr Tryz.prog 189 Tryz.f189 hint189 := ⟨_, fun O => by conv => rhs; reduce⟩
noncomputable def t190 : Tr Tryz.prog 190 Tryz.f190 hint190 := ⟨_, fun O => by conv => rhs; reduce⟩
noncomputable def t191 : Tr Tryz.prog 191 Tryz.f191 hint191 := ⟨_, fun O => by conv => rhs; reduce⟩
noncomputable def t192 : Tr Tryz.prog 192 Tryz.f192 hint192 := ⟨_, fun O => by conv => rhs; reduce⟩
noncomputable def t193 : Tr Tryz.prog 193 Tryz.f193 hint193 := ⟨_, fun O => by conv => rhs; reduce⟩
noncomputable def t194 : Tr Tryz.prog 194 Tryz.f194 hint194 := ⟨_, fun O => by conv => rhs; reduce⟩
noncomputable def t195 : Tr Tryz.prog 195 Tryz.f195 hint195 := ⟨_, fun O => by conv => rhs; reduce⟩
noncomputable def t196 : Tr Tryz.prog 196 Tryz.f196 hint196 := ⟨_, fun O => by conv => rhs; reduce⟩
noncomputable def t197 : Tr Tryz.prog 197 Tryz.f197 hint197 := ⟨_, fun O => by conv => rhs; reduce⟩
noncomputable def t198 : Tr Tryz.prog 198 Tryz.f198 hint198 := ⟨_, fun O => by conv => rhs; reduce⟩
noncomputable def t199 : Tr Tryz.prog 199 Tryz.f199 hint199 := ⟨_, fun O => by conv => rhs; reduce⟩
noncomputable def t200 : Tr Tryz.prog 200 Tryz.f200 hint200 := ⟨_, fun O => by conv => rhs; reduce⟩
noncomputable def t201 : Tr Tryz.prog 201 Tryz.f201 hint201 := ⟨_, fun O => by conv => rhs; reduce⟩
noncomputable def t202 : Tr Tryz.prog 202 Tryz.f202 hint202 := ⟨_, fun O => by conv => rhs; reduce⟩
noncomputable def t203 : Tr Tryz.prog 203 Tryz.f203 hint203 := ⟨_, fun O => by conv => rhs; reduce⟩
noncomputable def t204 : Tr Tryz.prog 204 Tryz.f204 hint204 := ⟨_, fun O => by conv => rhs; reduce⟩
noncomputable def t205 : Tr Tryz.prog 205 Tryz.f205 hint205 := ⟨_, fun O => by conv => rhs; reduce⟩
noncomputable def t206 : Tr Tryz.prog 206 Tryz.f206 hint206 := ⟨_, fun O => by conv => rhs; reduce⟩
noncomputable def t207 : Tr Tryz.prog 207 Tryz.f207 hint207 := ⟨_, fun O => by conv => rhs; reduce⟩
noncomputable def t208 : Tr Tryz.prog 208 Tryz.f208 hint208 := ⟨_, fun O => by conv => rhs; reduce⟩
noncomputable def t209 : Tr Tryz.prog 209 Tryz.f209 hint209 := ⟨_, fun O => by conv => rhs; reduce⟩
noncomputable def t210 : Tr Tryz.prog 210 Tryz.f210 hint210 := ⟨_, fun O => by conv => rhs; reduce⟩
noncomputable def t211 : Tr Tryz.prog 211 Tryz.f211 hint211 := ⟨_, fun O => by conv => rhs; reduce⟩
noncomputable def t212 : Tr Tryz.prog 212 Tryz.f212 hint212 := ⟨_, fun O => by conv => rhs; reduce⟩
noncomputable def t213 : Tr Tryz.prog 213 Tryz.f213 hint213 := ⟨_, fun O => by conv => rhs; reduce⟩
noncomputable def t214 : Tr Tryz.prog 214 Tryz.f214 hint214 := ⟨_, fun O => by conv => rhs; reduce⟩
noncomputable def t215 : Tr Tryz.prog 215 Tryz.f215 hint215 := ⟨_, fun O => by conv => rhs; reduce⟩
noncomputable def t216 : Tr Tryz.prog 216 Tryz.f216 hint216 := ⟨_, fun O => by conv => rhs; reduce⟩
noncomputable def t217 : Tr Tryz.prog 217 Tryz.f217 hint217 := ⟨_, fun O => by conv => rhs; reduce⟩
noncomputable def t218 : Tr Tryz.prog 218 Tryz.f218 hint218 := ⟨_, fun O => by conv => rhs; reduce⟩
noncomputable def t219 : Tr Tryz.prog 219 Tryz.f219 hint219 := ⟨_, fun O => by conv => rhs; reduce⟩
noncomputable def t220 : Tr Tryz.prog 220 Tryz.f220 hint220 := ⟨_, fun O => by conv => rhs; reduce⟩
noncomputable def t221 : Tr Tryz.prog 221 Tryz.f221 hint221 := ⟨_, fun O => by conv => rhs; reduce⟩
noncomputable def t222 : Tr Tryz.prog 222 Tryz.f222 hint222 := ⟨_, fun O => by conv => rhs; reduce⟩
noncomputable def t223 : Tr Tryz.prog 223 Tryz.f223 hint223 := ⟨_, fun O => by conv => rhs; reduce⟩
noncomputable def t224 : Tr Tryz.prog 224 Tryz.f224 hint224 := ⟨_, fun O => by conv => rhs; reduce⟩
noncomputable def t225 : Tr Tryz.prog 225 Tryz.f225 hint225 := ⟨_, fun O => by conv => rhs; reduce⟩
noncomputable def t226 : Tr Tryz.prog 226 Tryz.f226 hint226 := ⟨_, fun O => by conv => rhs; reduce⟩
noncomputable def t227 : Tr Tryz.prog 227 Tryz.f227 hint227 := ⟨_, fun O => by conv => rhs; reduce⟩
noncomputable def t228 : Tr Tryz.prog 228 Tryz.f228 hint228 := ⟨_, fun O => by conv => rhs; reduce⟩
noncomputable def t229 : Tr Tryz.prog 229 Tryz.f229 hint229 := ⟨_, fun O => by conv => rhs; reduce⟩
noncomputable def t230 : Tr Tryz.prog 230 Tryz.f230 hint230 := ⟨_, fun O => by conv => rhs; reduce⟩
noncomputable def t231 : Tr Tryz.prog 231 Tryz.f231 hint231 := ⟨_, fun O => by conv => rhs; reduce⟩
noncomputable def t232 : Tr Tryz.prog 232 Tryz.f232 hint232 := ⟨_, fun O => by conv => rhs; reduce⟩
noncomputable def t233 : Tr Tryz.prog 233 Tryz.f233 hint233 := ⟨_, fun O => by conv => rhs; reduce⟩
noncomputable def t234 : Tr Tryz.prog 234 Tryz.f234 hint234 := ⟨_, fun O => by conv => rhs; reduce⟩
noncomputable def t235 : Tr Tryz.prog 235 Tryz.f235 hint235 := ⟨_, fun O => by conv => rhs; reduce⟩
noncomputable def t236 : Tr Tryz.prog 236 Tryz.f236 hint236 := ⟨_, fun O => by conv => rhs; reduce⟩
noncomputable def t237 : Tr Tryz.prog 237 Tryz.f237 hint237 := ⟨_, fun O => by conv => rhs; reduce⟩
noncomputable def t238 : Tr Tryz.prog 238 Tryz.f238 hint238 := ⟨_, fun O => by conv => rhs; reduce⟩
noncomputable def t239 : Tr Tryz.prog 239 Tryz.f239 hint239 := ⟨_, fun O => by conv => rhs; reduce⟩
noncomputable def t240 : Tr Tryz.prog 240 Tryz.f240 hint240 := ⟨_, fun O => by conv => rhs; reduce⟩
noncomputable def t241 : Tr Tryz.prog 241 Tryz.f241 hint241 := ⟨_, fun O => by conv => rhs; reduce⟩
end Go.Proofs.YtolmealocdgdhaaGreat.U
end
section
namespace Go.Proofs.YtolmealocdgdhaaGreat.U
open Go Go.Abs Go.Proofs.YtolmealocdgdhaaGreat
set_option maxRecDepth 20000
set_option maxHeartbeats 4000000
noncomputable def t242 : Tr Tryz.prog 242 Tryz.f242 hint242 := ⟨_, fun O => by conv => rhs; reduce⟩
noncomputable def t243 : Tr Tryz.prog 243 Tryz.f243 hint243 := ⟨_, fun O => by conv => rhs; reduce⟩
noncomputable def t244 : Tr Tryz.prog 244 Tryz.f244 hint244 := ⟨_, fun O => by conv => rhs; reduce⟩
noncomputable def t245 : Tr Tryz.prog 245 Tryz.f245 hint245 := ⟨_, fun O => by conv => rhs; reduce⟩
noncomputable def t246 : Tr Tryz.prog 246 Tryz.f246 hint246 := ⟨_, fun O => by conv => rhs; reduce⟩
noncomputable def t247 : Tr Tryz.prog 247 Tryz.f247 hint247 := ⟨_, fun O => by conv => rhs; reduce⟩
noncomputable def t248 : Tr Tryz.prog 248 Tryz.f248 hint248 := ⟨_, fun O => by conv => rhs; reduce⟩
noncomputable def t249 : Tr Tryz.prog 249 Tryz.f249 hint249 := ⟨_, fun O => by conv => rhs; reduce⟩
noncomputable def t250 : Tr Tryz.prog 250 Tryz.f250 hint250 := ⟨_, fun O => by conv => rhs; reduce⟩
noncomputable def t251 : Tr Tryz.prog 251 Tryz.f251 hint251 := ⟨_, fun O => by conv => rhs; reduce⟩
noncomputable def t252 : Tr Tryz.prog 252 Tryz.f252 hint252 := ⟨_, fun O => by conv => rhs; reduce⟩
noncomputable def t253 : Tr Tryz.prog 253 Tryz.f253 hint253 := ⟨_, fun O => by conv => rhs; reduce⟩
noncomputable def t254 : Tr Tryz.prog 254 Tryz.f254 hint254 := ⟨_, fun O => by conv => rhs; reduce⟩
noncomputable def t255 : Tr Tryz.prog 255 Tryz.f255 hint255 := ⟨_, fun O => by conv => rhs; reduce⟩
noncomputable def t256 : Tr Tryz.prog 256 Tryz.f256 hint256 := ⟨_, fun O => by conv => rhs; reduce⟩
noncomputable def t257 : Tr Tryz.prog 257 Tryz.f257 hint257 := ⟨_, fun O => by conv => rhs; reduce⟩
noncomputable def t258 : Tr Tryz.prog 258 Tryz.f258 hint258 := ⟨_, fun O => by conv => rhs; reduce⟩
noncomputable def t259 : Tr Tryz.prog 259 Tryz.f259 hint259 := ⟨_, fun O => by conv => rhs; reduce⟩
noncomputable def t260 : Tr Tryz.prog 260 Tryz.f260 hint260 := ⟨_, fun O => by conv => rhs; reduce⟩
noncomputable def t261 : Tr Tryz.prog 261 Tryz.f261 hint261 := ⟨_, fun O => by conv => rhs; reduce⟩
noncomputable def t262 : Tr Tryz.prog 262 Tryz.f262 hint262 := ⟨_, fun O => by conv => rhs; reduce⟩
noncomputable def t263 : Tr Tryz.prog 263 Tryz.f263 hint263 := ⟨_, fun O => by conv => rhs; reduce⟩
noncomputable def t264 : Tr Tryz.prog 264 Tryz.f264 hint264 := ⟨_, fun O => by conv => rhs; reduce⟩
noncomputable def t265 : Tr Tryz.prog 265 Tryz.f265 hint265 := ⟨_, fun O => by conv => rhs; reduce⟩
noncomputable def t266 : Tr Tryz.prog 266 Tryz.f266 hint266 := ⟨_, fun O => by conv => rhs; reduce⟩
noncomputable def t267 : Tr Tryz.prog 267 Tryz.f267 hint267 := ⟨_, fun O => by conv => rhs; reduce⟩
noncomputable def t268 : Tr Tryz.prog 268 Tryz.f268 hint268 := ⟨_, fun O => by conv => rhs; reduce⟩
noncomputable def t269 : Tr Tryz.prog 269 Tryz.f269 hint269 := ⟨_, fun O => by conv => rhs; reduce⟩
noncomputable def t270 : Tr Tryz.prog 270 Tryz.f270 hint270 := ⟨_, fun O => by conv => rhs; reduce⟩
noncomputable def t271 : Tr Tryz.prog 271 Tryz.f271 hint271 := ⟨_, fun O => by conv => rhs; reduce⟩
noncomputable def t272 : Tr Tryz.prog 272 Tryz.f272 hint272 := ⟨_, fun O => by conv => rhs; reduce⟩
noncomputable def t273 : Tr Tryz.prog 273 Tryz.f273 hint273 := ⟨_, fun O => by conv => rhs; reduce⟩
noncomputable def t274 : Tr Tryz.prog 274 Tryz.f274 hint274 := ⟨_, fun O => by conv => rhs; reduce⟩
noncomputable def t275 : Tr Tryz.prog 275 Tryz.f275 hint275 := ⟨_, fun O => by conv => rhs; reduce⟩
noncomputable def t276 : Tr Tryz.prog 276 Tryz.f276 hint276 := ⟨_, fun O => by conv => rhs; reduce⟩
noncomputable def t277 : Tr Tryz.prog 277 Tryz.f277 hint277 := ⟨_, fun O => by conv => rhs; reduce⟩
noncomputable def t278 : Tr Tryz.prog 278 Tryz.f278 hint278 := ⟨_, fun O => by conv => rhs; reduce⟩
noncomputable def t279 : Tr Tryz.prog 279 Tryz.f279 hint279 := ⟨_, fun O => by conv => rhs; reduce⟩
noncomputable def t280 : Tr Tryz.prog 280 Tryz.f280 hint280 := ⟨_, fun O => by conv => rhs; reduce⟩
noncomputable def t281 : Tr Tryz.prog 281 Tryz.f281 hint281 := ⟨_, fun O => by conv => rhs; reduce⟩
noncomputable def t282 : Tr Tryz.prog 282 Tryz.f282 hint282 := ⟨_, fun O => by conv => rhs; reduce⟩
noncomputable def t283 : Tr Tryz.prog 283 Tryz.f283 hint283 := ⟨_, fun O => by conv => rhs; reduce⟩
noncomputable def t284 : Tr Tryz.prog 284 Tryz.f284 hint284 := ⟨_, fun O => by conv => rhs; reduce⟩
noncomputable def t285 : Tr Tryz.prog 285 Tryz.f285 hint285 := ⟨_, fun O => by conv => rhs; reduce⟩
noncomputable def t286 : Tr Tryz.prog 286 Tryz.f286 hint286 := ⟨_, fun O => by conv => rhs; reduce⟩
noncomputable def t287 : Tr Tryz.prog 287 Tryz.f287 hint287 := ⟨_, fun O => by conv => rhs; reduce⟩
noncomputable def t288 : Tr Tryz.prog 288 Tryz.f288 hint288 := ⟨_, fun O => by conv => rhs; reduce⟩
noncomputable def t289 : Tr Tryz.prog 289 Tryz.f289 hint289 := ⟨_, fun O => by conv => rhs; reduce⟩
noncomputable def t290 : Tr Tryz.prog 290 Tryz.f290 hint290 := ⟨_, fun O => by conv => rhs; reduce⟩
noncomputable def t291 : Tr Tryz.prog 291 Tryz.f291 hint291 := ⟨_, fun O => by conv => rhs; reduce⟩
noncomputable def t292 : Tr Tryz.prog 292 Tryz.f292 hint292 := ⟨_, fun O => by conv => rhs; reduce⟩
noncomputable def t293 : Tr Tryz.prog 293 Tryz.f293 hint293 := ⟨_, fun O => by conv => rhs; reduce⟩
noncomputable def t294 : Tr Tryz.prog 294 Tryz.f294 hint294 := ⟨_, fun O => by conv => rhs; reduce⟩
noncomputable def t295 : Tr Tryz.prog 295 Tryz.f295 hint295 := ⟨_, fun O => by conv => rhs; reduce⟩
noncomputable def t296 : Tr Tryz.prog 296 Tryz.f296 hint296 := ⟨_, fun O => by conv => rhs; reduce⟩
noncomputable def t297 : Tr Tryz.prog 297 Tryz.f297 hint297 := ⟨_, fun O => by conv => rhs; reduce⟩
noncomputable def t298 : Tr Tryz.prog 298 Tryz.f298 hint298 := ⟨_, fun O => by conv => rhs; reduce⟩
noncomputable def t299 : Tr Tryz.prog 299 Tryz.f299 hint299 := ⟨_, fun O => by conv => rhs; reduce⟩
noncomputable def t300 : Tr Tryz.prog 300 Tryz.f300 hint300 := ⟨_, fun O => by conv => rhs; reduce⟩
noncomputable def t301 : Tr Tryz.prog 301 Tryz.f301 hint301 := ⟨_, fun O => by conv => rhs; reduce⟩
end Go.Proofs.YtolmealocdgdhaaGreat.U
end
section
namespace Go.Proofs.YtolmealocdgdhaaGreat.U
open Go Go.Abs Go.Proofs.YtolmealocdgdhaaGreat
set_option maxRecDepth 20000
set_option maxHeartbeats 4000000
noncomputable def t302 : Tr Tryz.prog 302 Tryz.f302 hint302 := ⟨_, fun O => by conv => rhs; reduce⟩
noncomputable def t303 : Tr Tryz.prog 303 Tryz.f303 hint303 := ⟨_, fun O => by conv => rhs; reduce⟩
noncomputable def t304 : Tr Tryz.prog 304 Tryz.f304 hint304 := ⟨_, fun O => by conv => rhs; reduce⟩
noncomputable def t305 : Tr Tryz.prog 305 Tryz.f305 hint305 := ⟨_, fun O => by conv => rhs; reduce⟩
noncomputable def t306 : Tr Tryz.prog 306 Tryz.f306 hint306 := ⟨_, fun O => by conv => rhs; reduce⟩
noncomputable def t307 : Tr Tryz.prog 307 Tryz.f307 hint307 := ⟨_, fun O => by conv => rhs; reduce⟩
noncomputable def t308 : Tr Tryz.prog 308 Tryz.f308 hint308 := ⟨_, fun O => by conv => rhs; reduce⟩
noncomputable def t309 : Tr Tryz.prog 309 Tryz.f309 hint309 := ⟨_, fun O => by conv => rhs; reduce⟩
noncomputable def t310 : Tr Tryz.prog 310 Tryz.f310 hint310 := ⟨_, fun O => by conv => rhs; reduce⟩
noncomputable def t311 : Tr Tryz.prog 311 Tryz.f311 hint311 := ⟨_, fun O => by conv => rhs; reduce⟩
noncomputable def t313 : Tr Tryz.prog 313 Tryz.f313 hint313 := ⟨_, fun O => by conv => rhs; reduce⟩
noncomputable def t314 : Tr Tryz.prog 314 Tryz.f314 hint314 := ⟨_, fun O => by conv => rhs; reduce⟩
noncomputable def t315 : Tr Tryz.prog 315 Tryz.f315 hint315 := ⟨_, fun O => by conv => rhs; reduce⟩
noncomputable def t316 : Tr Tryz.prog 316 Tryz.f316 hint316 := ⟨_, fun O => by conv => rhs; reduce⟩
noncomputable def t317 : Tr Tryz.prog 317 Tryz.f317 hint317 := ⟨_, fun O => by conv => rhs; reduce⟩
noncomputable def t318 : Tr Tryz.prog 318 Tryz.f318 hint318 := ⟨_, fun O => by conv => rhs; reduce⟩
noncomputable def t319 : Tr Tryz.prog 319 Tryz.f319 hint319 := ⟨_, fun O => by conv => rhs; reduce⟩
noncomputable def t320 : Tr Tryz.prog 320 Tryz.f320 hint320 := ⟨_, fun O => by conv => rhs; reduce⟩
noncomputable def t321 : Tr Tryz.prog 321 Tryz.f321 hint321 := ⟨_, fun O => by conv => rhs; reduce⟩
noncomputable def t322 : Tr Tryz.prog 322 Tryz.f322 hint322 := ⟨_, fun O => by conv => rhs; reduce⟩
noncomputable def t323 : Tr Tryz.prog 323 Tryz.f323 hint323 := ⟨_, fun O => by conv => rhs; reduce⟩
noncomputable def t324 : Tr Tryz.prog 324 Tryz.f324 hint324 := ⟨_, fun O => by conv => rhs; reduce⟩
noncomputable def t325 : Tr Tryz.prog 325 Tryz.f325 hint325 := ⟨_, fun O => by conv => rhs; reduce⟩
noncomputable def t326 : Tr Tryz.prog 326 Tryz.f326 hint326 := ⟨_, fun O => by conv => rhs; reduce⟩
noncomputable def t327 : Tr Tryz.prog 327 Tryz.f327 hint327 := ⟨_, fun O => by conv => rhs; reduce⟩
noncomputable def t328 : Tr Tryz.prog 328 Tryz.f328 hint328 := ⟨_, fun O => by conv => rhs; reduce⟩
noncomputable def t329 : Tr Tryz.prog 329 Tryz.f329 hint329 := ⟨_, fun O => by conv => rhs; reduce⟩
noncomputable def t330 : Tr Tryz.prog 330 Tryz.f330 hint330 := ⟨_, fun O => by conv => rhs; reduce⟩
noncomputable def t331 : Tr Tryz.prog 331 Tryz.f331 hint331 := ⟨_, fun O => by conv => rhs; reduce⟩
noncomputable def t332 : Tr Tryz.prog 332 Tryz.f332 hint332 := ⟨_, fun O => by conv => rhs; reduce⟩
noncomputable def t333 : Tr Tryz.prog 333 Tryz.f333 hint333 := ⟨_, fun O => by conv => rhs; reduce⟩
noncomputable def t334 : Tr Tryz.prog 334 Tryz.f334 hint334 := ⟨_, fun O => by conv => rhs; reduce⟩
noncomputable def t335 : Tr Tryz.prog 335 Tryz.f335 hint335 := ⟨_, fun O => by conv => rhs; reduce⟩
noncomputable def t336 : Tr Tryz.prog 336 Tryz.f336 hint336 := ⟨_, fun O => by conv => rhs; reduce⟩
noncomputable def t337 : Tr Tryz.prog 337 Tryz.f337 hint337 := ⟨_, fun O => by conv => rhs; reduce⟩
noncomputable def t338 : Tr Tryz.prog 338 Tryz.f338 hint338 := ⟨_, fun O => by conv => rhs; reduce⟩
noncomputable def t339 : Tr Tryz.prog 339 Tryz.f339 hint339 := ⟨_, fun O => by conv => rhs; reduce⟩
noncomputable def t340 : Tr Tryz.prog 340 Tryz.f340 hint340 := ⟨_, fun O => by conv => rhs; reduce⟩
noncomputable def t341 : Tr Tryz.prog 341 Tryz.f341 hint341 := ⟨_, fun O => by conv => rhs; reduce⟩
noncomputable def t342 : Tr Tryz.prog 342 Tryz.f342 hint342 := ⟨_, fun O => by conv => rhs; reduce⟩
noncomputable def t343 : Tr Tryz.prog 343 Tryz.f343 hint343 := ⟨_, fun O => by conv => rhs; reduce⟩
noncomputable def t344 : Tr Tryz.prog 344 Tryz.f344 hint344 := ⟨_, fun O => by conv => rhs; reduce⟩
noncomputable def t345 : Tr Tryz.prog 345 Tryz.f345 hint345 := ⟨_, fun O => by conv => rhs; reduce⟩
noncomputable def t347 : Tr Tryz.prog 347 Tryz.f347 hint347 := ⟨_, fun O => by conv => rhs; reduce⟩
noncomputable def t349 : Tr Tryz.prog 349 Tryz.f349 hint349 := ⟨_, fun O => by conv => rhs; reduce⟩
noncomputable def t350 : Tr Tryz.prog 350 Tryz.f350 hint350 := ⟨_, fun O => by conv => rhs; reduce⟩
noncomputable def t351 : Tr Tryz.prog 351 Tryz.f351 hint351 := ⟨_, fun O => by conv => rhs; reduce⟩
noncomputable def t352 : Tr Tryz.prog 352 Tryz.f352 hint352 := ⟨_, fun O => by conv => rhs; reduce⟩
noncomputable def t353 : Tr Tryz.prog 353 Tryz.f353 hint353 := ⟨_, fun O => by conv => rhs; reduce⟩
noncomputable def t354 : Tr Tryz.prog 354 Tryz.f354 hint354 := ⟨_, fun O => by conv => rhs; reduce⟩
noncomputable def t355 : Tr Tryz.prog 355 Tryz.f355 hint355 := ⟨_, fun O => by conv => rhs; reduce⟩
noncomputable def t356 : Tr Tryz.prog 356 Tryz.f356 hint356 := ⟨_, fun O => by conv => rhs; reduce⟩
noncomputable def t357 : Tr Tryz.prog 357 Tryz.f357 hint357 := ⟨_, fun O => by conv => rhs; reduce⟩
noncomputable def t358 : Tr Tryz.prog 358 Tryz.f358 hint358 := ⟨_, fun O => by conv => rhs; reduce⟩
noncomputable def t359 : Tr Tryz.prog 359 Tryz.f359 hint359 := ⟨_, fun O => by conv => rhs; reduce⟩
noncomputable def t360 : Tr Tryz.prog 360 Tryz.f360 hint360 := ⟨_, fun O => by conv => rhs; reduce⟩
noncomputable def t361 : Tr Tryz.prog 361 Tryz.f361 hint361 := ⟨_, fun O => by conv => rhs; reduce⟩
noncomputable def t362 : Tr Tryz.prog 362 Tryz.f362 hint362 := ⟨_, fun O => by conv => rhs; reduce⟩
noncomputable def t363 : Tr Tryz.prog 363 Tryz.f363 hint363 := ⟨_, fun O => by conv => rhs; reduce⟩
noncomputable def t364 : Tr Tryz.prog 364 Tryz.f364 hint364 := ⟨_, fun O => by conv => rhs; reduce⟩
end Go.Proofs.YtolmealocdgdhaaGreat.U
end
section
namespace Go.Proofs.YtolmealocdgdhaaGreat.U
open Go Go.Abs Go.Proofs.YtolmealocdgdhaaGreat
set_option maxRecDepth 20000
set_option maxHeartbeats 4000000
noncomputable def t365 : Tr Tryz.prog 365 Tryz.f365 hint365 := ⟨_, fun O => by conv => rhs; reduce⟩
noncomputable def t366 : Tr Tryz.prog 366 Tryz.f366 hint366 := ⟨_, fun O => by conv => rhs; reduce⟩
noncomputable def t367 : Tr Tryz.prog 367 Tryz.f367 hint367 := ⟨_, fun O => by conv => rhs; reduce⟩
noncomputable def t368 : Tr Tryz.prog 368 Tryz.f368 hint368 := ⟨_, fun O => by conv => rhs; reduce⟩
noncomputable def t369 : Tr Tryz.prog 369 Tryz.f369 hint369 := ⟨_, fun O => by conv => rhs; reduce⟩
noncomputable def t370 : Tr Tryz.prog 370 Tryz.f370 hint370 := ⟨_, fun O => by conv => rhs; reduce⟩
noncomputable def t371 : Tr Tryz.prog 371 Tryz.f371 hint371 := ⟨_, fun O => by conv => rhs; reduce⟩
noncomputable def t372 : Tr Tryz.prog 372 Tryz.f372 hint372 := ⟨_, fun O => by conv => rhs; reduce⟩
noncomputable def t373 : Tr Tryz.prog 373 Tryz.f373 hint373 := ⟨_, fun O => by conv => rhs; reduce⟩
noncomputable def t374 : Tr Tryz.prog 374 Tryz.f374 hint374 := ⟨_, fun O => by conv => rhs; reduce⟩
noncomputable def t375 : Tr Tryz.prog 375 Tryz.f375 hint375 := ⟨_, fun O => by conv => rhs; reduce⟩
noncomputable def t376 : Tr Tryz.prog 376 Tryz.f376 hint376 := ⟨_, fun O => by conv => rhs; reduce⟩
noncomputable def t377 : Tr Tryz.prog 377 Tryz.f377 hint377 := ⟨_, fun O => by conv => rhs; reduce⟩
noncomputable def t378 : Tr Tryz.prog 378 Tryz.f378 hint378 := ⟨_, fun O => by conv => rhs; reduce⟩
noncomputable def t379 : Tr Tryz.prog 379 Tryz.f379 hint379 := ⟨_, fun O => by conv => rhs; reduce⟩
noncomputable def t380 : Tr Tryz.prog 380 Tryz.f380 hint380 := ⟨_, fun O => by conv => rhs; reduce⟩
noncomputable def t381 : Tr Tryz.prog 381 Tryz.f381 hint381 := ⟨_, fun O => by conv => rhs; reduce⟩
noncomputable def t382 : Tr Tryz.prog 382 Tryz.f382 hint382 := ⟨_, fun O => by conv => rhs; reduce⟩
noncomputable def t383 : Tr Tryz.prog 383 Tryz.f383 hint383 := ⟨_, fun O => by conv => rhs; reduce⟩
noncomputable def t384 : Tr Tryz.prog 384 Tryz.f384 hint384 := ⟨_, fun O => by conv => rhs; reduce⟩
noncomputable def t385 : Tr Tryz.prog 385 Tryz.f385 hint385 := ⟨_, fun O => by conv => rhs; reduce⟩
noncomputable def t386 : Tr Tryz.prog 386 Tryz.f386 hint386 := ⟨_, fun O => by conv => rhs; reduce⟩
noncomputable def t387 : Tr Tryz.prog 387 Tryz.f387 hint387 := ⟨_, fun O => by conv => rhs; reduce⟩
noncomputable def t388 : Tr Tryz.prog 388 Tryz.f388 hint388 := ⟨_, fun O => by conv => rhs; reduce⟩
noncomputable def t389 : Tr Tryz.prog 389 Tryz.f389 hint389 := ⟨_, fun O => by conv => rhs; reduce⟩
noncomputable def t390 : Tr Tryz.prog 390 Tryz.f390 hint390 := ⟨_, fun O => by conv => rhs; reduce⟩
noncomputable def t391 : Tr Tryz.prog 391 Tryz.f391 hint391 := ⟨_, fun O => by conv => rhs; reduce⟩
noncomputable def t392 : Tr Tryz.prog 392 Tryz.f392 hint392 := ⟨_, fun O => by conv => rhs; reduce⟩
noncomputable def t393 : Tr Tryz.prog 393 Tryz.f393 hint393 := ⟨_, fun O => by conv => rhs; reduce⟩
noncomputable def t394 : Tr Tryz.prog 394 Tryz.f394 hint394 := ⟨_, fun O => by conv => rhs; reduce⟩
noncomputable def t395 : Tr Tryz.prog 395 Tryz.f395 hint395 := ⟨_, fun O => by conv => rhs; reduce⟩
noncomputable def t396 : Tr Tryz.prog 396 Tryz.f396 hint396 := ⟨_, fun O => by conv => rhs; reduce⟩
noncomputable def t397 : Tr Tryz.prog 397 Tryz.f397 hint397 := ⟨_, fun O => by conv => rhs; reduce⟩
noncomputable def t398 : Tr Tryz.prog 398 Tryz.f398 hint398 := ⟨_, fun O => by conv => rhs; reduce⟩
noncomputable def t399 : Tr Tryz.prog 399 Tryz.f399 hint399 := ⟨_, fun O => by conv => rhs; reduce⟩
noncomputable def t400 : Tr Tryz.prog 400 Tryz.f400 hint400 := ⟨_, fun O => by conv => rhs; reduce⟩
noncomputable def t401 : Tr Tryz.prog 401 Tryz.f401 hint401 := ⟨_, fun O => by conv => rhs; reduce⟩
noncomputable def t402 : Tr Tryz.prog 402 Tryz.f402 hint402 := ⟨_, fun O => by conv => rhs; reduce⟩
noncomputable def t403 : Tr Tryz.prog 403 Tryz.f403 hint403 := ⟨_, fun O => by conv => rhs; reduce⟩
noncomputable def t404 : Tr Tryz.prog 404 Tryz.f404 hint404 := ⟨_, fun O => by conv => rhs; reduce⟩
noncomputable def t405 : Tr Tryz.prog 405 Tryz.f405 hint405 := ⟨_, fun O => by conv => rhs; reduce⟩
noncomputable def t406 : Tr Tryz.prog 406 Tryz.f406 hint406 := ⟨_, fun O => by conv => rhs; reduce⟩
noncomputable def t407 : Tr Tryz.prog 407 Tryz.f407 hint407 := ⟨_, fun O => by conv => rhs; reduce⟩
noncomputable def t408 : Tr Tryz.prog 408 Tryz.f408 hint408 := ⟨_, fun O => by conv => rhs; reduce⟩
noncomputable def t409 : Tr Tryz.prog 409 Tryz.f409 hint409 := ⟨_, fun O => by conv => rhs; reduce⟩
noncomputable def t410 : Tr Tryz.prog 410 Tryz.f410 hint410 := ⟨_, fun O => by conv => rhs; reduce⟩
noncomputable def t411 : Tr Tryz.prog 411 Tryz.f411 hint411 := ⟨_, fun O => by conv => rhs; reduce⟩
noncomputable def t412 : Tr Tryz.prog 412 Tryz.f412 hint412 := ⟨_, fun O => by conv => rhs; reduce⟩
noncomputable def t413 : Tr Tryz.prog 413 Tryz.f413 hint413 := ⟨_, fun O => by conv => rhs; reduce⟩
noncomputable def t414 : Tr Tryz.prog 414 Tryz.f414 hint414 := ⟨_, fun O => by conv => rhs; reduce⟩
noncomputable def t415 : Tr Tryz.prog 415 Tryz.f415 hint415 := ⟨_, fun O => by conv => rhs; reduce⟩
noncomputable def t416 : Tr Tryz.prog 416 Tryz.f416 hint416 := ⟨_, fun O => by conv => rhs; reduce⟩
noncomputable def t417 : Tr Tryz.prog 417 Tryz.f417 hint417 := ⟨_, fun O => by conv => rhs; reduce⟩
noncomputable def t418 : Tr Tryz.prog 418 Tryz.f418 hint418 := ⟨_, fun O => by conv => rhs; reduce⟩
noncomputable def t419 : Tr Tryz.prog 419 Tryz.f419 hint419 := ⟨_, fun O => by conv => rhs; reduce⟩
noncomputable def t420 : Tr Tryz.prog 420 Tryz.f420 hint420 := ⟨_, fun O => by conv => rhs; reduce⟩
noncomputable def t421 : Tr Tryz.prog 421 Tryz.f421 hint421 := ⟨_, fun O => by conv => rhs; reduce⟩
noncomputable def t422 : Tr Tryz.prog 422 Tryz.f422 hint422 := ⟨_, fun O => by conv => rhs; reduce⟩
noncomputable def t423 : Tr Tryz.prog 423 Tryz.f423 hint423 := ⟨_, fun O => by conv => rhs; reduce⟩
noncomputable def t424 : Tr Tryz.prog 424 Tryz.f424 hint424 := ⟨_, fun O => by conv => rhs; reduce⟩
end Go.Proofs.YtolmealocdgdhaaGreat.U
end
section
namespace Go.Proofs.YtolmealocdgdhaaGreat.U
open Go Go.Abs Go.Proofs.YtolmealocdgdhaaGreat
set_option maxRecDepth 20000
set_option maxHeartbeats 4000000
noncomputable def t425 : Tr Tryz.prog 425 Tryz.f425 hint425 := ⟨_, fun O => by conv => rhs; reduce⟩
noncomputable def t426 : Tr Tryz.prog 426 Tryz.f426 hint426 := ⟨_, fun O => by conv => rhs; reduce⟩
noncomputable def t427 : Tr Tryz.prog 427 Tryz.f427 hint427 := ⟨_, fun O => by conv => rhs; reduce⟩
noncomputable def t428 : Tr Tryz.prog 428 Tryz.f428 hint428 := ⟨_, fun O => by conv => rhs; reduce⟩
noncomputable def t429 : Tr Tryz.prog 429 Tryz.f429 hint429 := ⟨_, fun O => by conv => rhs; reduce⟩
noncomputable def t430 : Tr Tryz.prog 430 Tryz.f430 hint430 := ⟨_, fun O => by conv => rhs; reduce⟩
noncomputable def t431 : Tr Tryz.prog 431 Tryz.f431 hint431 := ⟨_, fun O => by conv => rhs; reduce⟩
noncomputable def t432 : Tr Tryz.prog 432 Tryz.f432 hint432 := ⟨_, fun O => by conv => rhs; reduce⟩
noncomputable def t433 : Tr Tryz.prog 433 Tryz.f433 hint433 := ⟨_, fun O => by conv => rhs; reduce⟩
noncomputable def t434 : Tr Tryz.prog 434 Tryz.f434 hint434 := ⟨_, fun O => by conv => rhs; reduce⟩
noncomputable def t436 : Tr Tryz.prog 436 Tryz.f436 hint436 := ⟨_, fun O => by conv => rhs; reduce⟩
noncomputable def t438 : Tr Tryz.prog 438 Tryz.f438 hint438 := ⟨_, fun O => by conv => rhs; reduce⟩
noncomputable def t440 : Tr Tryz.prog 440 Tryz.f440 hint440 := ⟨_, fun O => by conv => rhs; reduce⟩
noncomputable def t442 : Tr Tryz.prog 442 Tryz.f442 hint442 := ⟨_, fun O => by conv => rhs; reduce⟩
noncomputable def t444 : Tr Tryz.prog 444 Tryz.f444 hint444 := ⟨_, fun O => by conv => rhs; reduce⟩
noncomputable def t445 : Tr Tryz.prog 445 Tryz.f445 hint445 := ⟨_, fun O => by conv => rhs; reduce⟩
noncomputable def t446 : Tr Tryz.prog 446 Tryz.f446 hint446 := ⟨_, fun O => by conv => rhs; reduce⟩
noncomputable def t447 : Tr Tryz.prog 447 Tryz.f447 hint447 := ⟨_, fun O => by conv => rhs; reduce⟩
noncomputable def t448 : Tr Tryz.prog 448 Tryz.f448 hint448 := ⟨_, fun O => by conv => rhs; reduce⟩
noncomputable def t449 : Tr Tryz.prog 449 Tryz.f449 hint449 := ⟨_, fun O => by conv => rhs; reduce⟩
noncomputable def t450 : Tr Tryz.prog 450 Tryz.f450 hint450 := ⟨_, fun O => by conv => rhs; reduce⟩
noncomputable def t451 : Tr Tryz.prog 451 Tryz.f451 hint451 := ⟨_, fun O => by conv => rhs; reduce⟩
noncomputable def t452 : Tr Tryz.prog 452 Tryz.f452 hint452 := ⟨_, fun O => by conv => rhs; reduce⟩
noncomputable def t453 : Tr Tryz.prog 453 Tryz.f453 hint453 := ⟨_, fun O => by conv => rhs; reduce⟩
noncomputable def t454 : Tr Tryz.prog 454 Tryz.f454 hint454 := ⟨_, fun O => by conv => rhs; reduce⟩
noncomputable def t455 : Tr Tryz.prog 455 Tryz.f455 hint455 := ⟨_, fun O => by conv => rhs; reduce⟩
noncomputable def t456 : Tr Tryz.prog 456 Tryz.f456 hint456 := ⟨_, fun O => by conv => rhs; reduce⟩
noncomputable def t457 : Tr Tryz.prog 457 Tryz.f457 hint457 := ⟨_, fun O => by conv => rhs; reduce⟩
noncomputable def t458 : Tr Tryz.prog 458 Tryz.f458 hint458 := ⟨_, fun O => by conv => rhs; reduce⟩
noncomputable def t459 : Tr Tryz.prog 459 Tryz.f459 hint459 := ⟨_, fun O => by conv => rhs; reduce⟩
noncomputable def t460 : Tr Tryz.prog 460 Tryz.f460 hint460 := ⟨_, fun O => by conv => rhs; reduce⟩
noncomputable def t461 : Tr Tryz.prog 461 Tryz.f461 hint461 := ⟨_, fun O => by conv => rhs; reduce⟩
noncomputable def t462 : Tr Tryz.prog 462 Tryz.f462 hint462 := ⟨_, fun O => by conv => rhs; reduce⟩
noncomputable def t463 : Tr Tryz.prog 463 Tryz.f463 hint463 := ⟨_, fun O => by conv => rhs; reduce⟩
noncomputable def t464 : Tr Tryz.prog 464 Tryz.f464 hint464 := ⟨_, fun O => by conv => rhs; reduce⟩
noncomputable def t465 : Tr Tryz.prog 465 Tryz.f465 hint465 := ⟨_, fun O => by conv => rhs; reduce⟩
noncomputable def t466 : Tr Tryz.prog 466 Tryz.f466 hint466 := ⟨_, fun O => by conv => rhs; reduce⟩
noncomputable def t467 : Tr Tryz.prog 467 Tryz.f467 hint467 := ⟨_, fun O => by conv => rhs; reduce⟩
noncomputable def t468 : Tr Tryz.prog 468 Tryz.f468 hint468 := ⟨_, fun O => by conv => rhs; reduce⟩
noncomputable def t469 : Tr Tryz.prog 469 Tryz.f469 hint469 := ⟨_, fun O => by conv => rhs; reduce⟩
noncomputable def t470 : Tr Tryz.prog 470 Tryz.f470 hint470 := ⟨_, fun O => by conv => rhs; reduce⟩
noncomputable def t471 : Tr Tryz.prog 471 Tryz.f471 hint471 := ⟨_, fun O => by conv => rhs; reduce⟩
noncomputable def t472 : Tr Tryz.prog 472 Tryz.f472 hint472 := ⟨_, fun O => by conv => rhs; reduce⟩
noncomputable def t473 : Tr Tryz.prog 473 Tryz.f473 hint473 := ⟨_, fun O => by conv => rhs; reduce⟩
noncomputable def t474 : Tr Tryz.prog 474 Tryz.f474 hint474 := ⟨_, fun O => by conv => rhs; reduce⟩
noncomputable def t475 : Tr Tryz.prog 475 Tryz.f475 hint475 := ⟨_, fun O => by conv => rhs; reduce⟩
noncomputable def t476 : Tr Tryz.prog 476 Tryz.f476 hint476 := ⟨_, fun O => by conv => rhs; reduce⟩
noncomputable def t477 : Tr Tryz.prog 477 Tryz.f477 hint477 := ⟨_, fun O => by conv => rhs; reduce⟩
noncomputable def t478 : Tr Tryz.prog 478 Tryz.f478 hint478 := ⟨_, fun O => by conv => rhs; reduce⟩
noncomputable def t479 : Tr Tryz.prog 479 Tryz.f479 hint479 := ⟨_, fun O => by conv => rhs; reduce⟩
noncomputable def t480 : Tr Tryz.prog 480 Tryz.f480 hint480 := ⟨_, fun O => by conv => rhs; reduce⟩
noncomputable def t481 : Tr Tryz.prog 481 Tryz.f481 hint481 := ⟨_, fun O => by conv => rhs; reduce⟩
noncomputable def t482 : Tr Tryz.prog 482 Tryz.f482 hint482 := ⟨_, fun O => by conv => rhs; reduce⟩
noncomputable def t483 : Tr Tryz.prog 483 Tryz.f483 hint483 := ⟨_, fun O => by conv => rhs; reduce⟩
noncomputable def t484 : Tr Tryz.prog 484 Tryz.f484 hint484 := ⟨_, fun O => by conv => rhs; reduce⟩
noncomputable def t485 : Tr Tryz.prog 485 Tryz.f485 hint485 := ⟨_, fun O => by conv => rhs; reduce⟩
noncomputable def t487 : Tr Tryz.prog 487 Tryz.f487 hint487 := ⟨_, fun O => by conv => rhs; reduce⟩
noncomputable def t488 : Tr Tryz.prog 488 Tryz.f488 hint488 := ⟨_, fun O => by conv => rhs; reduce⟩
noncomputable def t489 : Tr Tryz.prog 489 Tryz.f489 hint489 := ⟨_, fun O => by conv => rhs; reduce⟩
noncomputable def t490 : Tr Tryz.prog 490 Tryz.f490 hint490 := ⟨_, fun O => by conv => rhs; reduce⟩
end Go.Proofs.YtolmealocdgdhaaGreat.U
end
section
namespace Go.Proofs.YtolmealocdgdhaaGreat.U
open Go Go.Abs Go.Proofs.YtolmealocdgdhaaGreat
set_option maxRecDepth 20000
set_option maxHeartbeats 4000000
noncomputable def t491 : Tr Tryz.prog 491 Tryz.f491 hint491 := ⟨_, fun O => by conv => rhs; reduce⟩
noncomputable def t492 : Tr Tryz.prog 492 Tryz.f492 hint492 := ⟨_, fun O => by conv => rhs; reduce⟩
noncomputable def t493 : Tr Tryz.prog 493 Tryz.f493 hint493 := ⟨_, fun O => by conv => rhs; reduce⟩
noncomputable def t494 : Tr Tryz.prog 494 Tryz.f494 hint494 := ⟨_, fun O => by conv => rhs; reduce⟩
noncomputable def t495 : Tr Tryz.prog 495 Tryz.f495 hint495 := ⟨_, fun O => by conv => rhs; reduce⟩
noncomputable def t496 : Tr Tryz.prog 496 Tryz.f496 hint496 := ⟨_, fun O => by conv => rhs; reduce⟩
noncomputable def t497 : Tr Tryz.prog 497 Tryz.f497 hint497 := ⟨_, fun O => by conv => rhs; reduce⟩
noncomputable def t498 : Tr Tryz.prog 498 Tryz.f498 hint498 := ⟨_, fun O => by conv => rhs; reduce⟩
noncomputable def t499 : Tr Tryz.prog 499 Tryz.f499 hint499 := ⟨_, fun O => by conv => rhs; reduce⟩
noncomputable def t500 : Tr Tryz.prog 500 Tryz.f500 hint500 := ⟨_, fun O => by conv => rhs; reduce⟩
noncomputable def t501 : Tr Tryz.prog 501 Tryz.f501 hint501 := ⟨_, fun O => by conv => rhs; reduce⟩
noncomputable def t502 : Tr Tryz.prog 502 Tryz.f502 hint502 := ⟨_, fun O => by conv => rhs; reduce⟩
noncomputable def t503 : Tr Tryz.prog 503 Tryz.f503 hint503 := ⟨_, fun O => by conv => rhs; reduce⟩
noncomputable def t504 : Tr Tryz.prog 504 Tryz.f504 hint504 := ⟨_, fun O => by conv => rhs; reduce⟩
noncomputable def t505 : Tr Tryz.prog 505 Tryz.f505 hint505 := ⟨_, fun O => by conv => rhs; reduce⟩
noncomputable def t506 : Tr Tryz.prog 506 Tryz.f506 hint506 := ⟨_, fun O => by conv => rhs; reduce⟩
noncomputable def t507 : Tr Tryz.prog 507 Tryz.f507 hint507 := ⟨_, fun O => by conv => rhs; reduce⟩
noncomputable def t508 : Tr Tryz.prog 508 Tryz.f508 hint508 := ⟨_, fun O => by conv => rhs; reduce⟩
noncomputable def t509 : Tr Tryz.prog 509 Tryz.f509 hint509 := ⟨_, fun O => by conv => rhs; reduce⟩
end Go.Proofs.YtolmealocdgdhaaGreat.U
end
section
namespace Go.Proofs.YtolmealocdgdhaaGreat.U
open Go Go.Abs Go.Proofs.YtolmealocdgdhaaGreat
set_option maxRecDepth 20000
set_option maxHeartbeats 4000000
def _root_.Go.Abs.Tr.enA {P : Program} {hints : FuncId → Option Hint} {b : List ResultVar × Nat × AC} {f g : Nat} {fn : Func} {h : Hint} {c : Code} (t : Tr P f fn h) (hg : Nat.beq f g = false) (hf : P.funcs[f]? = some fn) (hh : hints f = some h) (hb : fn.body = some c) : En P (bodyAt g b (bodyOf P hints)) :=
  t.enB (by unfold bodyAt; rw [hg]; exact bodyOf_eq hf hh hb) hb
noncomputable def dfi : Dfi := (mkD 62 Tryz.f62 hint62 [false, true, true, true]).get (by kernel_rfl)
noncomputable def td : TrD Tryz.prog dfi := ⟨_, fun O => by conv => rhs; reduce⟩
noncomputable abbrev B : FuncId → Option (List ResultVar × Nat × AC) := bodyAt dfi.f (dfMark, dfi.fn.ntmps, dfi.rest) (bodyOf Tryz.prog hints)
noncomputable def tab : BT (En Tryz.prog B) :=
 (.node 251 (t251.enA rfl Tryz.func251 rfl rfl) (.node 126 (t126.enA rfl Tryz.func126 rfl rfl) (.node 63 (t63.enA rfl Tryz.func63 rfl rfl) (.node 32 (t32.enA rfl Tryz.func32 rfl rfl) (.node 16 (t16.enA rfl Tryz.func16 rfl rfl) (.node 8 (t8.enA rfl Tryz.func8 rfl rfl) (.node 4 (t4.enA rfl Tryz.func4 rfl rfl)
 (.node 2 (t2.enA rfl Tryz.func2 rfl rfl)
 .leaf (.node 3 (t3.enA rfl Tryz.func3 rfl rfl)
 .leaf .leaf)) (.node 6 (t6.enA rfl Tryz.func6 rfl rfl)
 (.node 5 (t5.enA rfl Tryz.func5 rfl rfl)
 .leaf .leaf) (.node 7 (t7.enA rfl Tryz.func7 rfl rfl)
 .leaf .leaf))) (.node 12 (t12.enA rfl Tryz.func12 rfl rfl)
 (.node 10 (t10.enA rfl Tryz.func10 rfl rfl)
 (.node 9 (t9.enA rfl Tryz.func9 rfl rfl)
 .leaf .leaf) (.node 11 (t11.enA rfl Tryz.func11 rfl rfl)
 .leaf .leaf)) (.node 14 (t14.enA rfl Tryz.func14 rfl rfl)
 (.node 13 (t13.enA rfl Tryz.func13 rfl rfl)
 .leaf .leaf) (.node 15 (t15.enA rfl Tryz.func15 rfl rfl)
 .leaf .leaf)))) (.node 24 (t24.enA rfl Tryz.func24 rfl rfl) (.node 20 (t20.enA rfl Tryz.func20 rfl rfl)
 (.node 18 (t18.enA rfl Tryz.func18 rfl rfl)
 (.node 17 (t17.enA rfl Tryz.func17 rfl rfl)
 .leaf .leaf) (.node 19 (t19.enA rfl Tryz.func19 rfl rfl)
 .leaf .leaf)) (.node 22 (t22.enA rfl Tryz.func22 rfl rfl)
 (.node 21 (t21.enA rfl Tryz.func21 rfl rfl)
 .leaf .leaf) (.node 23 (t23.enA rfl Tryz.func23 rfl rfl)
 .leaf .leaf))) (.node 28 (t28.enA rfl Tryz.func28 rfl rfl)
 (.node 26 (t26.enA rfl Tryz.func26 rfl rfl)
 (.node 25 (t25.enA rfl Tryz.func25 rfl rfl)
 .leaf .leaf) (.node 27 (t27.enA rfl Tryz.func27 rfl rfl)
 .leaf .leaf)) (.node 30 (t30.enA rfl Tryz.func30 rfl rfl)
 (.node 29 (t29.enA rfl Tryz.func29 rfl rfl)
 .leaf .leaf) (.node 31 (t31.enA rfl Tryz.func31 rfl rfl)
 .leaf .leaf))))) (.node 47 (t47.enA rfl Tryz.func47 rfl rfl) (.node 39 (t39.enA rfl Tryz.func39 rfl rfl) (.node 35 (t35.enA rfl Tryz.func35 rfl rfl)
 (.node 33 (t33.enA rfl Tryz.func33 rfl rfl)
 .leaf (.node 34 (t34.enA rfl Tryz.func34 rfl rfl)
 .leaf .leaf)) (.node 37 (t37.enA rfl Tryz.func37 rfl rfl)
 (.node 36 (t36.enA rfl Tryz.func36 rfl rfl)
 .leaf .leaf) (.node 38 (t38.enA rfl Tryz.func38 rfl rfl)
 .leaf .leaf))) (.node 43 (t43.enA rfl Tryz.func43 rfl rfl)
 (.node 41 (t41.enA rfl Tryz.func41 rfl rfl)
 (.node 40 (t40.enA rfl Tryz.func40 rfl rfl)
 .leaf .leaf) (.node 42 (t42.enA rfl Tryz.func42 rfl rfl)
 .leaf .leaf)) (.node 45 (t45.enA rfl Tryz.func45 rfl rfl)
 (.node 44 (t44.enA rfl Tryz.func44 rfl rfl)
 .leaf .leaf) (.node 46 (t46.enA rfl Tryz.func46 rfl rfl)
 .leaf .leaf)))) (.node 55 (t55.enA rfl Tryz.func55 rfl rfl) (.node 51 (t51.enA rfl Tryz.func51 rfl rfl)
 (.node 49 (t49.enA rfl Tryz.func49 rfl rfl)
 (.node 48 (t48.enA rfl Tryz.func48 rfl rfl)
 .leaf .leaf) (.node 50 (t50.enA rfl Tryz.func50 rfl rfl)
 .leaf .leaf)) (.node 53 (t53.enA rfl Tryz.func53 rfl rfl)
 (.node 52 (t52.enA rfl Tryz.func52 rfl rfl)
 .leaf .leaf) (.node 54 (t54.enA rfl Tryz.func54 rfl rfl)
 .leaf .leaf))) (.node 59 (t59.enA rfl Tryz.func59 rfl rfl)
 (.node 57 (t57.enA rfl Tryz.func57 rfl rfl)
 (.node 56 (t56.enA rfl Tryz.func56 rfl rfl)
 .leaf .leaf) (.node 58 (t58.enA rfl Tryz.func58 rfl rfl)
 .leaf .leaf)) (.node 61 (t61.enA rfl Tryz.func61 rfl rfl)
 (.node 60 (t60.enA rfl Tryz.func60 rfl rfl)
 .leaf .leaf) (.node 62 (td.en (bodyOf Tryz.prog hints))
 .leaf .leaf)))))) (.node 94 (t94.enA rfl Tryz.func94 rfl rfl) (.node 78 (t78.enA rfl Tryz.func78 rfl rfl) (.node 70 (t70.enA rfl Tryz.func70 rfl rfl) (.node 66 (t66.enA rfl Tryz.func66 rfl rfl)
 (.node 64 (t64.enA rfl Tryz.func64 rfl rfl)
 .leaf (.node 65 (t65.enA rfl Tryz.func65 rfl rfl)
 .leaf .leaf)) (.node 68 (t68.enA rfl Tryz.func68 rfl rfl)
 (.node 67 (t67.enA rfl Tryz.func67 rfl rfl)
 .leaf .leaf) (.node 69 (t69.enA rfl Tryz.func69 rfl rfl)
 .leaf .leaf))) (.node 74 (t74.enA rfl Tryz.func74 rfl rfl)
 (.node 72 (t72.enA rfl Tryz.func72 rfl rfl)
 (.node 71 (t71.enA rfl Tryz.func71 rfl rfl)
 .leaf .leaf) (.node 73 (t73.enA rfl Tryz.func73 rfl rfl)
 .leaf .leaf)) (.node 76 (t76.enA rfl Tryz.func76 rfl rfl)
 (.node 75 (t75.enA rfl Tryz.func75 rfl rfl)
 .leaf .leaf) (.node 77 (t77.enA rfl Tryz.func77 rfl rfl)
 .leaf .leaf)))) (.node 86 (t86.enA rfl Tryz.func86 rfl rfl) (.node 82 (t82.enA rfl Tryz.func82 rfl rfl)
 (.node 80 (t80.enA rfl Tryz.func80 rfl rfl)
 (.node 79 (t79.enA rfl Tryz.func79 rfl rfl)
 .leaf .leaf) (.node 81 (t81.enA rfl Tryz.func81 rfl rfl)
 .leaf .leaf)) (.node 84 (t84.enA rfl Tryz.func84 rfl rfl)
 (.node 83 (t83.enA rfl Tryz.func83 rfl rfl)
 .leaf .leaf) (.node 85 (t85.enA rfl Tryz.func85 rfl rfl)
 .leaf .leaf))) (.node 90 (t90.enA rfl Tryz.func90 rfl rfl)
 (.node 88 (t88.enA rfl Tryz.func88 rfl rfl)
 (.node 87 (t87.enA rfl Tryz.func87 rfl rfl)
 .leaf .leaf) (.node 89 (t89.enA rfl Tryz.func89 rfl rfl)
 .leaf .leaf)) (.node 92 (t92.enA rfl Tryz.func92 rfl rfl)
 (.node 91 (t91.enA rfl Tryz.func91 rfl rfl)
 .leaf .leaf) (.node 93 (t93.enA rfl Tryz.func93 rfl rfl)
 .leaf .leaf))))) (.node 110 (t110.enA rfl Tryz.func110 rfl rfl) (.node 102 (t102.enA rfl Tryz.func102 rfl rfl) (.node 98 (t98.enA rfl Tryz.func98 rfl rfl)
 (.node 96 (t96.enA rfl Tryz.func96 rfl rfl)
 (.node 95 (t95.enA rfl Tryz.func95 rfl rfl)
 .leaf .leaf) (.node 97 (t97.enA rfl Tryz.func97 rfl rfl)
 .leaf .leaf)) (.node 100 (t100.enA rfl Tryz.func100 rfl rfl)
 (.node 99 (t99.enA rfl Tryz.func99 rfl rfl)
 .leaf .leaf) (.node 101 (t101.enA rfl Tryz.func101 rfl rfl)
 .leaf .leaf))) (.node 106 (t106.enA rfl Tryz.func106 rfl rfl)
 (.node 104 (t104.enA rfl Tryz.func104 rfl rfl)
 (.node 103 (t103.enA rfl Tryz.func103 rfl rfl)
 .leaf .leaf) (.node 105 (t105.enA rfl Tryz.func105 rfl rfl)
 .leaf .leaf)) (.node 108 (t108.enA rfl Tryz.func108 rfl rfl)
 (.node 107 (t107.enA rfl Tryz.func107 rfl rfl)
 .leaf .leaf) (.node 109 (t109.enA rfl Tryz.func109 rfl rfl)
 .leaf .leaf)))) (.node 118 (t118.enA rfl Tryz.func118 rfl rfl) (.node 114 (t114.enA rfl Tryz.func114 rfl rfl)
 (.node 112 (t112.enA rfl Tryz.func112 rfl rfl)
 (.node 111 (t111.enA rfl Tryz.func111 rfl rfl)
 .leaf .leaf) (.node 113 (t113.enA rfl Tryz.func113 rfl rfl)
 .leaf .leaf)) (.node 116 (t116.enA rfl Tryz.func116 rfl rfl)
 (.node 115 (t115.enA rfl Tryz.func115 rfl rfl)
 .leaf .leaf) (.node 117 (t117.enA rfl Tryz.func117 rfl rfl)
 .leaf .leaf))) (.node 122 (t122.enA rfl Tryz.func122 rfl rfl)
 (.node 120 (t120.enA rfl Tryz.func120 rfl rfl)
 (.node 119 (t119.enA rfl Tryz.func119 rfl rfl)
 .leaf .leaf) (.node 121 (t121.enA rfl Tryz.func121 rfl rfl)
 .leaf .leaf)) (.node 124 (t124.enA rfl Tryz.func124 rfl rfl)
 (.node 123 (t123.enA rfl Tryz.func123 rfl rfl)
 .leaf .leaf) (.node 125 (t125.enA rfl Tryz.func125 rfl rfl)
 .leaf .leaf))))))) (.node 188 (t188.enA rfl Tryz.func188 rfl rfl) (.node 157 (t157.enA rfl Tryz.func157 rfl rfl) (.node 141 (t141.enA rfl Tryz.func141 rfl rfl) (.node 133 (t133.enA rfl Tryz.func133 rfl rfl) (.node 129 (t129.enA rfl Tryz.func129 rfl rfl)
 (.node 127 (t127.enA rfl Tryz.func127 rfl rfl)
 .leaf (.node 128 (t128.enA rfl Tryz.func128 rfl rfl)
 .leaf .leaf)) (.node 131 (t131.enA rfl Tryz.func131 rfl rfl)
 (.node 130 (t130.enA rfl Tryz.func130 rfl rfl)
 .leaf .leaf) (.node 132 (t132.enA rfl Tryz.func132 rfl rfl)
 .leaf .leaf))) (.node 137 (t137.enA rfl Tryz.func137 rfl rfl)
 (.node 135 (t135.enA rfl Tryz.func135 rfl rfl)
 (.node 134 (t134.enA rfl Tryz.func134 rfl rfl)
 .leaf .leaf) (.node 136 (t136.enA rfl Tryz.func136 rfl rfl)
 .leaf .leaf)) (.node 139 (t139.enA rfl Tryz.func139 rfl rfl)
 (.node 138 (t138.enA rfl Tryz.func138 rfl rfl)
 .leaf .leaf) (.node 140 (t140.enA rfl Tryz.func140 rfl rfl)
 .leaf .leaf)))) (.node 149 (t149.enA rfl Tryz.func149 rfl rfl) (.node 145 (t145.enA rfl Tryz.func145 rfl rfl)
 (.node 143 (t143.enA rfl Tryz.func143 rfl rfl)
 (.node 142 (t142.enA rfl Tryz.func142 rfl rfl)
 .leaf .leaf) (.node 144 (t144.enA rfl Tryz.func144 rfl rfl)
 .leaf .leaf)) (.node 147 (t147.enA rfl Tryz.func147 rfl rfl)
 (.node 146 (t146.enA rfl Tryz.func146 rfl rfl)
 .leaf .leaf) (.node 148 (t148.enA rfl Tryz.func148 rfl rfl)
 .leaf .leaf))) (.node 153 (t153.enA rfl Tryz.func153 rfl rfl)
 (.node 151 (t151.enA rfl Tryz.func151 rfl rfl)
 (.node 150 (t150.enA rfl Tryz.func150 rfl rfl)
 .leaf .leaf) (.node 152 (t152.enA rfl Tryz.func152 rfl rfl)
 .leaf .leaf)) (.node 155 (t155.enA rfl Tryz.func155 rfl rfl)
 (.node 154 (t154.enA rfl Tryz.func154 rfl rfl)
 .leaf .leaf) (.node 156 (t156.enA rfl Tryz.func156 rfl rfl)
 .leaf .leaf))))) (.node 172 (t172.enA rfl Tryz.func172 rfl rfl) (.node 164 (t164.enA rfl Tryz.func164 rfl rfl) (.node 160 (t160.enA rfl Tryz.func160 rfl rfl)
 (.node 158 (t158.enA rfl Tryz.func158 rfl rfl)
 .leaf (.node 159 (t159.enA rfl Tryz.func159 rfl rfl)
 .leaf .leaf)) (.node 162 (t162.enA rfl Tryz.func162 rfl rfl)
 (.node 161 (t161.enA rfl Tryz.func161 rfl rfl)
 .leaf .leaf) (.node 163 (t163.enA rfl Tryz.func163 rfl rfl)
 .leaf .leaf))) (.node 168 (t168.enA rfl Tryz.func168 rfl rfl)
 (.node 166 (t166.enA rfl Tryz.func166 rfl rfl)
 (.node 165 (t165.enA rfl Tryz.func165 rfl rfl)
 .leaf .leaf) (.node 167 (t167.enA rfl Tryz.func167 rfl rfl)
 .leaf .leaf)) (.node 170 (t170.enA rfl Tryz.func170 rfl rfl)
 (.node 169 (t169.enA rfl Tryz.func169 rfl rfl)
 .leaf .leaf) (.node 171 (t171.enA rfl Tryz.func171 rfl rfl)
 .leaf .leaf)))) (.node 180 (t180.enA rfl Tryz.func180 rfl rfl) (.node 176 (t176.enA rfl Tryz.func176 rfl rfl)
 (.node 174 (t174.enA rfl Tryz.func174 rfl rfl)
 (.node 173 (t173.enA rfl Tryz.func173 rfl rfl)
 .leaf .leaf) (.node 175 (t175.enA rfl Tryz.func175 rfl rfl)
 .leaf .leaf)) (.node 178 (t178.enA rfl Tryz.func178 rfl rfl)
 (.node 177 (t177.enA rfl Tryz.func177 rfl rfl)
 .leaf .leaf) (.node 179 (t179.enA rfl Tryz.func179 rfl rfl)
 .leaf .leaf))) (.node 184 (t184.enA rfl Tryz.func184 rfl rfl)
 (.node 182 (t182.enA rfl Tryz.func182 rfl rfl)
 (.node 181 (t181.enA rfl Tryz.func181 rfl rfl)
 .leaf .leaf) (.node 183 (t183.enA rfl Tryz.func183 rfl rfl)
 .leaf .leaf)) (.node 186 (t186.enA rfl Tryz.func186 rfl rfl)
 (.node 185 (t185.enA rfl Tryz.func185 rfl rfl)
 .leaf .leaf) (.node 187 (t187.enA rfl Tryz.func187 rfl rfl)
 .leaf .leaf)))))) (.node 219 (t219.enA rfl Tryz.func219 rfl rfl) (.node 203 (t203.enA rfl Tryz.func203 rfl rfl) (.node 195 (t195.enA rfl Tryz.func195 rfl rfl) (.node 191 (t191.enA rfl Tryz.func191 rfl rfl)
 (.node 189 (t189.enA rfl Tryz.func189 rfl rfl)
 .leaf (.node 190 (t190.enA rfl Tryz.func190 rfl rfl)
 .leaf .leaf)) (.node 193 (t193.enA rfl Tryz.func193 rfl rfl)
 (.node 192 (t192.enA rfl Tryz.func192 rfl rfl)
 .leaf .leaf) (.node 194 (t194.enA rfl Tryz.func194 rfl rfl)
 .leaf .leaf))) (.node 199 (t199.enA rfl Tryz.func199 rfl rfl)
 (.node 197 (t197.enA rfl Tryz.func197 rfl rfl)
 (.node 196 (t196.enA rfl Tryz.func196 rfl rfl)
 .leaf .leaf) (.node 198 (t198.enA rfl Tryz.func198 rfl rfl)
 .leaf .leaf)) (.node 201 (t201.enA rfl Tryz.func201 rfl rfl)
 (.node 200 (t200.enA rfl Tryz.func200 rfl rfl)
 .leaf .leaf) (.node 202 (t202.enA rfl Tryz.func202 rfl rfl)
 .leaf .leaf)))) (.node 211 (t211.enA rfl Tryz.func211 rfl rfl) (.node 207 (t207.enA rfl Tryz.func207 rfl rfl)
 (.node 205 (t205.enA rfl Tryz.func205 rfl rfl)
 (.node 204 (t204.enA rfl Tryz.func204 rfl rfl)
 .leaf .leaf) (.node 206 (t206.enA rfl Tryz.func206 rfl rfl)
 .leaf .leaf)) (.node 209 (t209.enA rfl Tryz.func209 rfl rfl)
 (.node 208 (t208.enA rfl Tryz.func208 rfl rfl)
 .leaf .leaf) (.node 210 (t210.enA rfl Tryz.func210 rfl rfl)
 .leaf .leaf))) (.node 215 (t215.enA rfl Tryz.func215 rfl rfl)
 (.node 213 (t213.enA rfl Tryz.func213 rfl rfl)
 (.node 212 (t212.enA rfl Tryz.func212 rfl rfl)
 .leaf .leaf) (.node 214 (t214.enA rfl Tryz.func214 rfl rfl)
 .leaf .leaf)) (.node 217 (t217.enA rfl Tryz.func217 rfl rfl)
 (.node 216 (t216.enA rfl Tryz.func216 rfl rfl)
 .leaf .leaf) (.node 218 (t218.enA rfl Tryz.func218 rfl rfl)
 .leaf .leaf))))) (.node 235 (t235.enA rfl Tryz.func235 rfl rfl) (.node 227 (t227.enA rfl Tryz.func227 rfl rfl) (.node 223 (t223.enA rfl Tryz.func223 rfl rfl)
 (.node 221 (t221.enA rfl Tryz.func221 rfl rfl)
 (.node 220 (t220.enA rfl Tryz.func220 rfl rfl)
 .leaf .leaf) (.node 222 (t222.enA rfl Tryz.func222 rfl rfl)
 .leaf .leaf)) (.node 225 (t225.enA rfl Tryz.func225 rfl rfl)
 (.node 224 (t224.enA rfl Tryz.func224 rfl rfl)
 .leaf .leaf) (.node 226 (t226.enA rfl Tryz.func226 rfl rfl)
 .leaf .leaf))) (.node 231 (t231.enA rfl Tryz.func231 rfl rfl)
 (.node 229 (t229.enA rfl Tryz.func229 rfl rfl)
 (.node 228 (t228.enA rfl Tryz.func228 rfl rfl)
 .leaf .leaf) (.node 230 (t230.enA rfl Tryz.func230 rfl rfl)
 .leaf .leaf)) (.node 233 (t233.enA rfl Tryz.func233 rfl rfl)
 (.node 232 (t232.enA rfl Tryz.func232 rfl rfl)
 .leaf .leaf) (.node 234 (t234.enA rfl Tryz.func234 rfl rfl)
 .leaf .leaf)))) (.node 243 (t243.enA rfl Tryz.func243 rfl rfl) (.node 239 (t239.enA rfl Tryz.func239 rfl rfl)
 (.node 237 (t237.enA rfl Tryz.func237 rfl rfl)
 (.node 236 (t236.enA rfl Tryz.func236 rfl rfl)
 .leaf .leaf) (.node 238 (t238.enA rfl Tryz.func238 rfl rfl)
 .leaf .leaf)) (.node 241 (t241.enA rfl Tryz.func241 rfl rfl)
 (.node 240 (t240.enA rfl Tryz.func240 rfl rfl)
 .leaf .leaf) (.node 242 (t242.enA rfl Tryz.func242 rfl rfl)
 .leaf .leaf))) (.node 247 (t247.enA rfl Tryz.func247 rfl rfl)
 (.node 245 (t245.enA rfl Tryz.func245 rfl rfl)
 (.node 244 (t244.enA rfl Tryz.func244 rfl rfl)
 .leaf .leaf) (.node 246 (t246.enA rfl Tryz.func246 rfl rfl)
 .leaf .leaf)) (.node 249 (t249.enA rfl Tryz.func249 rfl rfl)
 (.node 248 (t248.enA rfl Tryz.func248 rfl rfl)
 .leaf .leaf) (.node 250 (t250.enA rfl Tryz.func250 rfl rfl)
 .leaf .leaf)))))))) (.node 379 (t379.enA rfl Tryz.func379 rfl rfl) (.node 314 (t314.enA rfl Tryz.func314 rfl rfl) (.node 282 (t282.enA rfl Tryz.func282 rfl rfl) (.node 266 (t266.enA rfl Tryz.func266 rfl rfl) (.node 258 (t258.enA rfl Tryz.func258 rfl rfl) (.node 254 (t254.enA rfl Tryz.func254 rfl rfl)
 (.node 252 (t252.enA rfl Tryz.func252 rfl rfl)
 .leaf (.node 253 (t253.enA rfl Tryz.func253 rfl rfl)
 .leaf .leaf)) (.node 256 (t256.enA rfl Tryz.func256 rfl rfl)
 (.node 255 (t255.enA rfl Tryz.func255 rfl rfl)
 .leaf .leaf) (.node 257 (t257.enA rfl Tryz.func257 rfl rfl)
 .leaf .leaf))) (.node 262 (t262.enA rfl Tryz.func262 rfl rfl)
 (.node 260 (t260.enA rfl Tryz.func260 rfl rfl)
 (.node 259 (t259.enA rfl Tryz.func259 rfl rfl)
 .leaf .leaf) (.node 261 (t261.enA rfl Tryz.func261 rfl rfl)
 .leaf .leaf)) (.node 264 (t264.enA rfl Tryz.func264 rfl rfl)
 (.node 263 (t263.enA rfl Tryz.func263 rfl rfl)
 .leaf .leaf) (.node 265 (t265.enA rfl Tryz.func265 rfl rfl)
 .leaf .leaf)))) (.node 274 (t274.enA rfl Tryz.func274 rfl rfl) (.node 270 (t270.enA rfl Tryz.func270 rfl rfl)
 (.node 268 (t268.enA rfl Tryz.func268 rfl rfl)
 (.node 267 (t267.enA rfl Tryz.func267 rfl rfl)
 .leaf .leaf) (.node 269 (t269.enA rfl Tryz.func269 rfl rfl)
 .leaf .leaf)) (.node 272 (t272.enA rfl Tryz.func272 rfl rfl)
 (.node 271 (t271.enA rfl Tryz.func271 rfl rfl)
 .leaf .leaf) (.node 273 (t273.enA rfl Tryz.func273 rfl rfl)
 .leaf .leaf))) (.node 278 (t278.enA rfl Tryz.func278 rfl rfl)
 (.node 276 (t276.enA rfl Tryz.func276 rfl rfl)
 (.node 275 (t275.enA rfl Tryz.func275 rfl rfl)
 .leaf .leaf) (.node 277 (t277.enA rfl Tryz.func277 rfl rfl)
 .leaf .leaf)) (.node 280 (t280.enA rfl Tryz.func280 rfl rfl)
 (.node 279 (t279.enA rfl Tryz.func279 rfl rfl)
 .leaf .leaf) (.node 281 (t281.enA rfl Tryz.func281 rfl rfl)
 .leaf .leaf))))) (.node 297 (t297.enA rfl Tryz.func297 rfl rfl) (.node 289 (t289.enA rfl Tryz.func289 rfl rfl) (.node 285 (t285.enA rfl Tryz.func285 rfl rfl)
 (.node 283 (t283.enA rfl Tryz.func283 rfl rfl)
 .leaf (.node 284 (t284.enA rfl Tryz.func284 rfl rfl)
 .leaf .leaf)) (.node 287 (t287.enA rfl Tryz.func287 rfl rfl)
 (.node 286 (t286.enA rfl Tryz.func286 rfl rfl)
 .leaf .leaf) (.node 288 (t288.enA rfl Tryz.func288 rfl rfl)
 .leaf .leaf))) (.node 293 (t293.enA rfl Tryz.func293 rfl rfl)
 (.node 291 (t291.enA rfl Tryz.func291 rfl rfl)
 (.node 290 (t290.enA rfl Tryz.func290 rfl rfl)
 .leaf .leaf) (.node 292 (t292.enA rfl Tryz.func292 rfl rfl)
 .leaf .leaf)) (.node 295 (t295.enA rfl Tryz.func295 rfl rfl)
 (.node 294 (t294.enA rfl Tryz.func294 rfl rfl)
 .leaf .leaf) (.node 296 (t296.enA rfl Tryz.func296 rfl rfl)
 .leaf .leaf)))) (.node 305 (t305.enA rfl Tryz.func305 rfl rfl) (.node 301 (t301.enA rfl Tryz.func301 rfl rfl)
 (.node 299 (t299.enA rfl Tryz.func299 rfl rfl)
 (.node 298 (t298.enA rfl Tryz.func298 rfl rfl)
 .leaf .leaf) (.node 300 (t300.enA rfl Tryz.func300 rfl rfl)
 .leaf .leaf)) (.node 303 (t303.enA rfl Tryz.func303 rfl rfl)
 (.node 302 (t302.enA rfl Tryz.func302 rfl rfl)
 .leaf .leaf) (.node 304 (t304.enA rfl Tryz.func304 rfl rfl)
 .leaf .leaf))) (.node 309 (t309.enA rfl Tryz.func309 rfl rfl)
 (.node 307 (t307.enA rfl Tryz.func307 rfl rfl)
 (.node 306 (t306.enA rfl Tryz.func306 rfl rfl)
 .leaf .leaf) (.node 308 (t308.enA rfl Tryz.func308 rfl rfl)
 .leaf .leaf)) (.node 311 (t311.enA rfl Tryz.func311 rfl rfl)
 (.node 310 (t310.enA rfl Tryz.func310 rfl rfl)
 .leaf .leaf) (.node 313 (t313.enA rfl Tryz.func313 rfl rfl)
 .leaf .leaf)))))) (.node 345 (t345.enA rfl Tryz.func345 rfl rfl) (.node 329 (t329.enA rfl Tryz.func329 rfl rfl) (.node 321 (t321.enA rfl Tryz.func321 rfl rfl) (.node 317 (t317.enA rfl Tryz.func317 rfl rfl)
 (.node 315 (t315.enA rfl Tryz.func315 rfl rfl)
 .leaf (.node 316 (t316.enA rfl Tryz.func316 rfl rfl)
 .leaf .leaf)) (.node 319 (t319.enA rfl Tryz.func319 rfl rfl)
 (.node 318 (t318.enA rfl Tryz.func318 rfl rfl)
 .leaf .leaf) (.node 320 (t320.enA rfl Tryz.func320 rfl rfl)
 .leaf .leaf))) (.node 325 (t325.enA rfl Tryz.func325 rfl rfl)
 (.node 323 (t323.enA rfl Tryz.func323 rfl rfl)
 (.node 322 (t322.enA rfl Tryz.func322 rfl rfl)
 .leaf .leaf) (.node 324 (t324.enA rfl Tryz.func324 rfl rfl)
 .leaf .leaf)) (.node 327 (t327.enA rfl Tryz.func327 rfl rfl)
 (.node 326 (t326.enA rfl Tryz.func326 rfl rfl)
 .leaf .leaf) (.node 328 (t328.enA rfl Tryz.func328 rfl rfl)
 .leaf .leaf)))) (.node 337 (t337.enA rfl Tryz.func337 rfl rfl) (.node 333 (t333.enA rfl Tryz.func333 rfl rfl)
 (.node 331 (t331.enA rfl Tryz.func331 rfl rfl)
 (.node 330 (t330.enA rfl Tryz.func330 rfl rfl)
 .leaf .leaf) (.node 332 (t332.enA rfl Tryz.func332 rfl rfl)
 .leaf .leaf)) (.node 335 (t335.enA rfl Tryz.func335 rfl rfl)
 (.node 334 (t334.enA rfl Tryz.func334 rfl rfl)
 .leaf .leaf) (.node 336 (t336.enA rfl Tryz.func336 rfl rfl)
 .leaf .leaf))) (.node 341 (t341.enA rfl Tryz.func341 rfl rfl)
 (.node 339 (t339.enA rfl Tryz.func339 rfl rfl)
 (.node 338 (t338.enA rfl Tryz.func338 rfl rfl)
 .leaf .leaf) (.node 340 (t340.enA rfl Tryz.func340 rfl rfl)
 .leaf .leaf)) (.node 343 (t343.enA rfl Tryz.func343 rfl rfl)
 (.node 342 (t342.enA rfl Tryz.func342 rfl rfl)
 .leaf .leaf) (.node 344 (t344.enA rfl Tryz.func344 rfl rfl)
 .leaf .leaf))))) (.node 363 (t363.enA rfl Tryz.func363 rfl rfl) (.node 355 (t355.enA rfl Tryz.func355 rfl rfl) (.node 351 (t351.enA rfl Tryz.func351 rfl rfl)
 (.node 349 (t349.enA rfl Tryz.func349 rfl rfl)
 (.node 347 (t347.enA rfl Tryz.func347 rfl rfl)
 .leaf .leaf) (.node 350 (t350.enA rfl Tryz.func350 rfl rfl)
 .leaf .leaf)) (.node 353 (t353.enA rfl Tryz.func353 rfl rfl)
 (.node 352 (t352.enA rfl Tryz.func352 rfl rfl)
 .leaf .leaf) (.node 354 (t354.enA rfl Tryz.func354 rfl rfl)
 .leaf .leaf))) (.node 359 (t359.enA rfl Tryz.func359 rfl rfl)
 (.node 357 (t357.enA rfl Tryz.func357 rfl rfl)
 (.node 356 (t356.enA rfl Tryz.func356 rfl rfl)
 .leaf .leaf) (.node 358 (t358.enA rfl Tryz.func358 rfl rfl)
 .leaf .leaf)) (.node 361 (t361.enA rfl Tryz.func361 rfl rfl)
 (.node 360 (t360.enA rfl Tryz.func360 rfl rfl)
 .leaf .leaf) (.node 362 (t362.enA rfl Tryz.func362 rfl rfl)
 .leaf .leaf)))) (.node 371 (t371.enA rfl Tryz.func371 rfl rfl) (.node 367 (t367.enA rfl Tryz.func367 rfl rfl)
 (.node 365 (t365.enA rfl Tryz.func365 rfl rfl)
 (.node 364 (t364.enA rfl Tryz.func364 rfl rfl)
 .leaf .leaf) (.node 366 (t366.enA rfl Tryz.func366 rfl rfl)
 .leaf .leaf)) (.node 369 (t369.enA rfl Tryz.func369 rfl rfl)
 (.node 368 (t368.enA rfl Tryz.func368 rfl rfl)
 .leaf .leaf) (.node 370 (t370.enA rfl Tryz.func370 rfl rfl)
 .leaf .leaf))) (.node 375 (t375.enA rfl Tryz.func375 rfl rfl)
 (.node 373 (t373.enA rfl Tryz.func373 rfl rfl)
 (.node 372 (t372.enA rfl Tryz.func372 rfl rfl)
 .leaf .leaf) (.node 374 (t374.enA rfl Tryz.func374 rfl rfl)
 .leaf .leaf)) (.node 377 (t377.enA rfl Tryz.func377 rfl rfl)
 (.node 376 (t376.enA rfl Tryz.func376 rfl rfl)
 .leaf .leaf) (.node 378 (t378.enA rfl Tryz.func378 rfl rfl)
 .leaf .leaf))))))) (.node 446 (t446.enA rfl Tryz.func446 rfl rfl) (.node 410 (t410.enA rfl Tryz.func410 rfl rfl) (.node 394 (t394.enA rfl Tryz.func394 rfl rfl) (.node 386 (t386.enA rfl Tryz.func386 rfl rfl) (.node 382 (t382.enA rfl Tryz.func382 rfl rfl)
 (.node 380 (t380.enA rfl Tryz.func380 rfl rfl)
 .leaf (.node 381 (t381.enA rfl Tryz.func381 rfl rfl)
 .leaf .leaf)) (.node 384 (t384.enA rfl Tryz.func384 rfl rfl)
 (.node 383 (t383.enA rfl Tryz.func383 rfl rfl)
 .leaf .leaf) (.node 385 (t385.enA rfl Tryz.func385 rfl rfl)
 .leaf .leaf))) (.node 390 (t390.enA rfl Tryz.func390 rfl rfl)
 (.node 388 (t388.enA rfl Tryz.func388 rfl rfl)
 (.node 387 (t387.enA rfl Tryz.func387 rfl rfl)
 .leaf .leaf) (.node 389 (t389.enA rfl Tryz.func389 rfl rfl)
 .leaf .leaf)) (.node 392 (t392.enA rfl Tryz.func392 rfl rfl)
 (.node 391 (t391.enA rfl Tryz.func391 rfl rfl)
 .leaf .leaf) (.node 393 (t393.enA rfl Tryz.func393 rfl rfl)
 .leaf .leaf)))) (.node 402 (t402.enA rfl Tryz.func402 rfl rfl) (.node 398 (t398.enA rfl Tryz.func398 rfl rfl)
 (.node 396 (t396.enA rfl Tryz.func396 rfl rfl)
 (.node 395 (t395.enA rfl Tryz.func395 rfl rfl)
 .leaf .leaf) (.node 397 (t397.enA rfl Tryz.func397 rfl rfl)
 .leaf .leaf)) (.node 400 (t400.enA rfl Tryz.func400 rfl rfl)
 (.node 399 (t399.enA rfl Tryz.func399 rfl rfl)
 .leaf .leaf) (.node 401 (t401.enA rfl Tryz.func401 rfl rfl)
 .leaf .leaf))) (.node 406 (t406.enA rfl Tryz.func406 rfl rfl)
 (.node 404 (t404.enA rfl Tryz.func404 rfl rfl)
 (.node 403 (t403.enA rfl Tryz.func403 rfl rfl)
 .leaf .leaf) (.node 405 (t405.enA rfl Tryz.func405 rfl rfl)
 .leaf .leaf)) (.node 408 (t408.enA rfl Tryz.func408 rfl rfl)
 (.node 407 (t407.enA rfl Tryz.func407 rfl rfl)
 .leaf .leaf) (.node 409 (t409.enA rfl Tryz.func409 rfl rfl)
 .leaf .leaf))))) (.node 425 (t425.enA rfl Tryz.func425 rfl rfl) (.node 417 (t417.enA rfl Tryz.func417 rfl rfl) (.node 413 (t413.enA rfl Tryz.func413 rfl rfl)
 (.node 411 (t411.enA rfl Tryz.func411 rfl rfl)
 .leaf (.node 412 (t412.enA rfl Tryz.func412 rfl rfl)
 .leaf .leaf)) (.node 415 (t415.enA rfl Tryz.func415 rfl rfl)
 (.node 414 (t414.enA rfl Tryz.func414 rfl rfl)
 .leaf .leaf) (.node 416 (t416.enA rfl Tryz.func416 rfl rfl)
 .leaf .leaf))) (.node 421 (t421.enA rfl Tryz.func421 rfl rfl)
 (.node 419 (t419.enA rfl Tryz.func419 rfl rfl)
 (.node 418 (t418.enA rfl Tryz.func418 rfl rfl)
 .leaf .leaf) (.node 420 (t420.enA rfl Tryz.func420 rfl rfl)
 .leaf .leaf)) (.node 423 (t423.enA rfl Tryz.func423 rfl rfl)
 (.node 422 (t422.enA rfl Tryz.func422 rfl rfl)
 .leaf .leaf) (.node 424 (t424.enA rfl Tryz.func424 rfl rfl)
 .leaf .leaf)))) (.node 433 (t433.enA rfl Tryz.func433 rfl rfl) (.node 429 (t429.enA rfl Tryz.func429 rfl rfl)
 (.node 427 (t427.enA rfl Tryz.func427 rfl rfl)
 (.node 426 (t426.enA rfl Tryz.func426 rfl rfl)
 .leaf .leaf) (.node 428 (t428.enA rfl Tryz.func428 rfl rfl)
 .leaf .leaf)) (.node 431 (t431.enA rfl Tryz.func431 rfl rfl)
 (.node 430 (t430.enA rfl Tryz.func430 rfl rfl)
 .leaf .leaf) (.node 432 (t432.enA rfl Tryz.func432 rfl rfl)
 .leaf .leaf))) (.node 440 (t440.enA rfl Tryz.func440 rfl rfl)
 (.node 436 (t436.enA rfl Tryz.func436 rfl rfl)
 (.node 434 (t434.enA rfl Tryz.func434 rfl rfl)
 .leaf .leaf) (.node 438 (t438.enA rfl Tryz.func438 rfl rfl)
 .leaf .leaf)) (.node 444 (t444.enA rfl Tryz.func444 rfl rfl)
 (.node 442 (t442.enA rfl Tryz.func442 rfl rfl)
 .leaf .leaf) (.node 445 (t445.enA rfl Tryz.func445 rfl rfl)
 .leaf .leaf)))))) (.node 477 (t477.enA rfl Tryz.func477 rfl rfl) (.node 461 (t461.enA rfl Tryz.func461 rfl rfl) (.node 453 (t453.enA rfl Tryz.func453 rfl rfl) (.node 449 (t449.enA rfl Tryz.func449 rfl rfl)
 (.node 447 (t447.enA rfl Tryz.func447 rfl rfl)
 .leaf (.node 448 (t448.enA rfl Tryz.func448 rfl rfl)
 .leaf .leaf)) (.node 451 (t451.enA rfl Tryz.func451 rfl rfl)
 (.node 450 (t450.enA rfl Tryz.func450 rfl rfl)
 .leaf .leaf) (.node 452 (t452.enA rfl Tryz.func452 rfl rfl)
 .leaf .leaf))) (.node 457 (t457.enA rfl Tryz.func457 rfl rfl)
 (.node 455 (t455.enA rfl Tryz.func455 rfl rfl)
 (.node 454 (t454.enA rfl Tryz.func454 rfl rfl)
 .leaf .leaf) (.node 456 (t456.enA rfl Tryz.func456 rfl rfl)
 .leaf .leaf)) (.node 459 (t459.enA rfl Tryz.func459 rfl rfl)
 (.node 458 (t458.enA rfl Tryz.func458 rfl rfl)
 .leaf .leaf) (.node 460 (t460.enA rfl Tryz.func460 rfl rfl)
 .leaf .leaf)))) (.node 469 (t469.enA rfl Tryz.func469 rfl rfl) (.node 465 (t465.enA rfl Tryz.func465 rfl rfl)
 (.node 463 (t463.enA rfl Tryz.func463 rfl rfl)
 (.node 462 (t462.enA rfl Tryz.func462 rfl rfl)
 .leaf .leaf) (.node 464 (t464.enA rfl Tryz.func464 rfl rfl)
 .leaf .leaf)) (.node 467 (t467.enA rfl Tryz.func467 rfl rfl)
 (.node 466 (t466.enA rfl Tryz.func466 rfl rfl)
 .leaf .leaf) (.node 468 (t468.enA rfl Tryz.func468 rfl rfl)
 .leaf .leaf))) (.node 473 (t473.enA rfl Tryz.func473 rfl rfl)
 (.node 471 (t471.enA rfl Tryz.func471 rfl rfl)
 (.node 470 (t470.enA rfl Tryz.func470 rfl rfl)
 .leaf .leaf) (.node 472 (t472.enA rfl Tryz.func472 rfl rfl)
 .leaf .leaf)) (.node 475 (t475.enA rfl Tryz.func475 rfl rfl)
 (.node 474 (t474.enA rfl Tryz.func474 rfl rfl)
 .leaf .leaf) (.node 476 (t476.enA rfl Tryz.func476 rfl rfl)
 .leaf .leaf))))) (.node 494 (t494.enA rfl Tryz.func494 rfl rfl) (.node 485 (t485.enA rfl Tryz.func485 rfl rfl) (.node 481 (t481.enA rfl Tryz.func481 rfl rfl)
 (.node 479 (t479.enA rfl Tryz.func479 rfl rfl)
 (.node 478 (t478.enA rfl Tryz.func478 rfl rfl)
 .leaf .leaf) (.node 480 (t480.enA rfl Tryz.func480 rfl rfl)
 .leaf .leaf)) (.node 483 (t483.enA rfl Tryz.func483 rfl rfl)
 (.node 482 (t482.enA rfl Tryz.func482 rfl rfl)
 .leaf .leaf) (.node 484 (t484.enA rfl Tryz.func484 rfl rfl)
 .leaf .leaf))) (.node 490 (t490.enA rfl Tryz.func490 rfl rfl)
 (.node 488 (t488.enA rfl Tryz.func488 rfl rfl)
 (.node 487 (t487.enA rfl Tryz.func487 rfl rfl)
 .leaf .leaf) (.node 489 (t489.enA rfl Tryz.func489 rfl rfl)
 .leaf .leaf)) (.node 492 (t492.enA rfl Tryz.func492 rfl rfl)
 (.node 491 (t491.enA rfl Tryz.func491 rfl rfl)
 .leaf .leaf) (.node 493 (t493.enA rfl Tryz.func493 rfl rfl)
 .leaf .leaf)))) (.node 502 (t502.enA rfl Tryz.func502 rfl rfl) (.node 498 (t498.enA rfl Tryz.func498 rfl rfl)
 (.node 496 (t496.enA rfl Tryz.func496 rfl rfl)
 (.node 495 (t495.enA rfl Tryz.func495 rfl rfl)
 .leaf .leaf) (.node 497 (t497.enA rfl Tryz.func497 rfl rfl)
 .leaf .leaf)) (.node 500 (t500.enA rfl Tryz.func500 rfl rfl)
 (.node 499 (t499.enA rfl Tryz.func499 rfl rfl)
 .leaf .leaf) (.node 501 (t501.enA rfl Tryz.func501 rfl rfl)
 .leaf .leaf))) (.node 506 (t506.enA rfl Tryz.func506 rfl rfl)
 (.node 504 (t504.enA rfl Tryz.func504 rfl rfl)
 (.node 503 (t503.enA rfl Tryz.func503 rfl rfl)
 .leaf .leaf) (.node 505 (t505.enA rfl Tryz.func505 rfl rfl)
 .leaf .leaf)) (.node 508 (t508.enA rfl Tryz.func508 rfl rfl)
 (.node 507 (t507.enA rfl Tryz.func507 rfl rfl)
 .leaf .leaf) (.node 509 (t509.enA rfl Tryz.func509 rfl rfl)
 .leaf .leaf)))))))))
theorem chk : tab.all chkEn = true := by kernel_rfl
end Go.Proofs.YtolmealocdgdhaaGreat.U
end
section
namespace Go.Proofs.YtolmealocdgdhaaGreat
open Go Go.Abs
set_option maxRecDepth 20000

noncomputable abbrev HA : FuncId → Option (List AV → Mem → R) := hookAt U.dfi.f (fun _ _ => none) H
noncomputable abbrev EA : Env := EX Tryz.prog U.B HA
theorem EA_ok : EnvOk EA := E_ok.bodyAt U.dfi.f (dfMark, U.dfi.fn.ntmps, U.dfi.rest) (fun _ _ _ _ h => by cases h)
abbrev hooksN : List Nat := [62, 312, 346, 348, 435, 437, 439, 441, 443, 486, 260, 261, 383, 384, 385, 386, 387]
noncomputable abbrev TA : Tb := (tbOf U.tab).less hooksN
theorem HA_free (f : Nat) (hf : f ∉ hooksN) : HA f = none := by
  have hd : f ≠ U.dfi.f := fun e => hf (by rw [e]; exact .head _)
  refine (hookAt_other hd _ _).trans ?_
  show H f = none
  unfold H
  split <;> first | rfl | exact absurd (by decide) hf
theorem less_free {T : Tb} {l : List Nat} {f : Nat} (h : (T.less l).fn f ≠ none) : f ∉ l := fun hm => h (by
  show (match l.contains f with | true => none | false => T.fn f) = none
  rw [show l.contains f = true from List.contains_iff_mem.2 hm])
theorem TA_ok : TA.Ok EA (Mq EA) (Nq EA) := tbOf_ok U.chk hooksN fun f hf => HA_free f (less_free hf)
abbrev localN : List FuncId := [327, 201, 210]
noncomputable abbrev HB : FuncId → Option (List AV → Mem → R) := hooksL EA TA 400 localN
noncomputable abbrev EB : Env := { EA with H := HB }
theorem EB_ok : EnvOk EB := hooksL_ok EA_ok TA_ok 400 localN
theorem HB_free (f : Nat) (hf : f ∉ hooksN ++ localN) : HB f = none := by
  show hooksL EA TA 400 localN f = none
  unfold hooksL
  rw [if_neg (fun h => hf (List.mem_append_right _ (List.contains_iff_mem.1 h)))]
  exact HA_free f fun h => hf (List.mem_append_left _ h)
noncomputable abbrev TB : Tb := (tbOf U.tab).less (hooksN ++ localN)
theorem TB_ok : TB.Ok EB (Mq EB) (Nq EB) := tbOf_ok U.chk (hooksN ++ localN) fun f hf => HB_free f (less_free hf)
theorem dfi_ok : U.dfi.Ok EB := ⟨Tryz.func62, by kernel_rfl, by decide +kernel, by kernel_rfl, by kernel_rfl, by kernel_rfl, by kernel_rfl, by kernel_rfl, by kernel_rfl, by kernel_rfl⟩
noncomputable abbrev HV : FuncId → Option (List AV → Mem → R) := hookAt U.dfi.f (dfH Tryz.prog U.dfi (dfX EB TB 4000 U.dfi.f U.dfi.fn.ntmps [false, true, true, true]) (dfY EB TB 4000)) HB
noncomputable abbrev EV : Env := { EB with H := HV }
theorem EV_ok : EnvOk EV := EB_ok.hookAt U.dfi.f (by
  have h : (HB U.dfi.f).isSome = true := by kernel_rfl
  intro e
  rw [show EB.H U.dfi.f = HB U.dfi.f from rfl] at e
  rw [e] at h
  cases h) fun args m r m' h => dfH_ok EB_ok dfi_ok (dfX_ok TB_ok 4000 (bodyAt_same _ _ _)) (dfY_ok TB_ok 4000) h
theorem HV_free (f : Nat) (hf : f ∉ hooksN ++ localN) : HV f = none := by
  have hd : f ≠ U.dfi.f := fun e => hf (by rw [e]; exact .head _)
  show hookAt _ _ _ f = none
  refine (hookAt_other hd _ _).trans ?_
  exact HB_free f hf
theorem V_ok : TB.Ok EV (Mq EV) (Nq EV) := tbOf_ok U.chk (hooksN ++ localN) fun f hf => HV_free f (less_free hf)
end Go.Proofs.YtolmealocdgdhaaGreat
end
